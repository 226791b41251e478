/- Of this proof. -/
import Derived.Test.YtgmnakghjemjlaaGreatGsr
import Derived.Test.YtgmnakghjemjlaaGreatGxt
import Derived.Lib.Bytealg
set_option linter.unusedSimpArgs false
set_option linter.unusedVariables false
namespace Gi
open Go Go.RowKit
set_option maxHeartbeats 4000000
set_option maxRecDepth 4000
def aG :Nat→List V→Option V:=fun k xz=>match k,xz with
 |363,[.one (.pv (.str a)), .one (.pv (.str b))]=>some (aa .i64 (Lib.compareBytes a b))
 |_,_=>none
theorem aR :kL (ag Ph aG):=JX fun k xz r h=>by
 unfold aG at h
 split at h
 ·cases h;rfl
 ·cases h
theorem nI {a b:List UInt8}:io .neq a b=some (au (!(a==b))):=rfl
theorem nH {a b:List UInt8}:io .eql a b=some (au (a==b)):=rfl
theorem bV :IntKind.i64.wrap 1=1:=by rw[IntKind.wrap_i64];rfl
theorem mE {j n:Nat}(hn:n≤maxLen)(hj:j+1<n):IntKind.i64.wrap ((j:Int)+1+1)=(j:Int)+1+1∧IntKind.i64.wrap (j:Int)=(j:Int)∧(0:Int)<(j:Int)+1∧(0:Int)≤(j:Int)+1∧((j:Int)+1).toNat=j+1∧(j:Int)+1<(n:Int):=by
 unfold maxLen at hn
 refine⟨?_,?_,by omega,by omega,by omega,by omega⟩<;>rw[IntKind.wrap_i64]<;>omega
theorem eR {m z:Nat}(hm:m≤4194304)(hz:z≤4096):m*z≤140737488355328∧m≤9223372036854775807∧m≤9223372036854775806∧m<9223372036854775807:=by
 refine⟨?_,by omega,by omega,by omega⟩
 calc m*z≤4194304*4096:=Nat.mul_le_mul hm hz
  _≤140737488355328:=by decide
theorem bU {α:Type}{e:α→List PV}{xs:List α}{k:Nat}(hk:k<xs.length):(xs.map e).take (k+1)=(xs.map e).take k++[e xs[k]]:=by
 rw[List.take_succ_eq_append_getElem (by simpa using hk)];simp
theorem dG {α:Type}{e:α→List PV}(h:∀x,(e x).all PV.flat=true)(xs:List α):lu (xs.map e)=true:=by
 simp only[lu,List.all_map,List.all_eq_true,Function.comp];exact fun x _=>by simpa[List.all_eq_true]using h x
theorem dy {α:Type}{e:α→List PV}{z:Nat}(h:∀x,(e x).length=z)(xs:List α):((xs.map e).all fun r=>r.length==z)=true:=by
 simp only[List.all_map,List.all_eq_true,Function.comp,beq_iff_eq];exact fun x _=>h x
theorem ol (s:List UInt8):lu (al s)=true:=dG (e:=fun b:UInt8=>[PV.int .u8 b.toNat]) (fun _=>rfl) s
theorem iD (s:List UInt8):((al s).all fun r=>r.length==1)=true:=dy (e:=fun b:UInt8=>[PV.int .u8 b.toNat]) (z:=1) (fun _=>rfl) s
def nd (z:Nat):List (List PV)→L
 |[]=> .nil
 |r::rs=> .down z (r::rs)
def Ei (z:Nat):List (List PV)→L
 |[]=> .nil
 |r::rs=> .own z (r::rs)
def qj :List (List PV)→L
 |[]=> .nil
 |r::rs=> .pv (.lst (r::rs))
theorem eI (z:Nat)(rows:List (List PV)):(rows=[]∧nd z rows= .nil)∨(rows≠[]∧nd z rows= .down z rows):=by
 cases rows with
 |nil=>exact .inl ⟨rfl,rfl⟩
 |cons r rs=>exact .inr ⟨by simp,rfl⟩
theorem cB {z:Nat}{rows:List (List PV)}:du (nd z rows)=qj rows:=by cases rows<;>rfl
theorem bM {z:Nat}{rows:List (List PV)}:du (Ei z rows)=qj rows:=by cases rows<;>rfl
theorem bL {rows:List (List PV)}:du (qj rows)=qj rows:=by cases rows<;>rfl
theorem bO {h:List AObj}{rows:List (List PV)}:L.view h (qj rows)=some (.lst rows):=by cases rows<;>rfl
theorem bj {rows:List (List PV)}:plain (qj rows)=true:=by cases rows<;>rfl
theorem cz {h:List AObj}{rows:List (List PV)}:L.mut h (qj rows)=false:=by cases rows<;>rfl
theorem aX {h:List AObj}{rows:List (List PV)}:freezeL h (qj rows)=h:=by cases rows<;>rfl
theorem bK {h:List AObj}{rows:List (List PV)}:bt h (qj rows)=some (qj rows):=by cases rows<;>rfl
theorem aQ {f:List Nat}{rows:List (List PV)}:(qj rows).ren f=some (qj rows):=by cases rows<;>rfl
theorem aY {o:Nat}{rows:List (List PV)}:L.notArr o (qj rows)=true:=by cases rows<;>rfl
theorem bJ {rows:List (List PV)}:L.flat (qj rows)=false:=by cases rows<;>rfl
theorem bN {h:List AObj}{rows:List (List PV)}{ls:List L}:thawL h (qj rows::ls)=((qj rows::(thawL h ls).1),(thawL h ls).2):=by cases rows<;>rfl
theorem dz :ai []=[]:=rfl
theorem ct {p:PV}{ls:List L}:ai (.pv p::ls)=ai ls:=rfl
theorem bI {ls:List L}:ai (.nil::ls)=ai ls:=rfl
theorem bG {o:Nat}{ls:List L}:ai (.arr o::ls)=o::ai ls:=rfl
theorem bH {rows:List (List PV)}{ls:List L}:ai (qj rows::ls)=ai ls:=by cases rows<;>rfl
theorem Kn.q (f:List Nat){t t':List V}{h h':List AObj}(ho:bi f h' f h:=by simp[aP,aN,aO,dR,bo,aM,be,aE,dq,bE,bi,bS,L.ren,aQ])(ht:aM f t t':=by simp[aP,aN,aO,dR,bo,aM,be,aE,dq,bE,bi,bS,L.ren,aQ])(nd:f.Nodup:=by decide):Kn ⟨t,h⟩ ⟨t',h'⟩:=Kn.of f nd ho ht
def i7 :List AObj→Nat→List Nat
 |[],_=>[]
 |_::r,k=>k::i7 r (k+1)
theorem KV :∀{h:List AObj}{k x:Nat},x∈i7 h k→k≤x
 |_::_,_,_,h=>by
  rcases List.mem_cons.1 h with rfl|h
  ·exact Nat.le_refl _
  ·have:=KV h;omega
theorem Du :∀(h:List AObj)(k:Nat),(i7 h k).Nodup
 |[],_=>List.nodup_nil
 |_::r,k=>List.nodup_cons.2 ⟨fun h=>by have:=KV h;omega,Du r (k+1)⟩
theorem fq {t t':List V}{h h':List AObj}(hh:bi (i7 h 0) h' (i7 h 0) h∧aM (i7 h 0) t t'):Kn ⟨t,h⟩ ⟨t',h'⟩:=Kn.of _ (Du h 0) hh.1 hh.2
theorem f6 {p:PV}:L.ow (.pv p)= .pv p:=rfl
theorem ew :L.ow .nil= .nil:=rfl
theorem ez {z:Nat}{rows:List (List PV)}:L.ow (.own z rows)= .own z rows:=rfl
theorem cY {z:Nat}{rows:List (List PV)}:L.ow (.down z rows)= .own z rows:=rfl
theorem f5 {z:Nat}{rows:List (List PV)}:L.ow (nd z rows)=Ei z rows:=by cases rows<;>rfl
theorem cZ {z:Nat}{rows:List (List PV)}:L.ow (Ei z rows)=Ei z rows:=by cases rows<;>rfl
theorem eu {rows:List (List PV)}:L.ow (qj rows)=qj rows:=by cases rows<;>rfl
theorem A0 (z:Nat)(rows:List (List PV)):(rows=[]∧nd z rows= .nil∧Ei z rows= .nil)∨(rows≠[]∧nd z rows= .down z rows∧Ei z rows= .own z rows):=by
 cases rows with
 |nil=>exact .inl ⟨rfl,rfl,rfl⟩
 |cons r rs=>exact .inr ⟨by simp,rfl,rfl⟩
abbrev XKey.v (x:XKey):V:= .agg [.pv (.int .i64 x.kind), .pv (.int .i64 x.n), .pv (.str x.text)]
abbrev XField.v (x:XField):V:= .agg [.pv (.str x.name), .pv (.int .i64 x.n)]
abbrev XRecord.v (x:XRecord):V:= .agg [.pv (.lst (x.fs.map XField.e))]
abbrev XItem.v (x:XItem):V:= .agg [.pv (.int .i64 x.key.kind), .pv (.int .i64 x.key.n), .pv (.str x.key.text), .pv (.lst (x.rcd.fs.map XField.e))]
abbrev XStore.v (x:XStore):V:= .agg [.pv (.str x.name), .pv (.lst (x.items.map XItem.e)), .pv (.int .i64 x.auto)]
abbrev XWrite.v (x:XWrite):V:= .agg [.pv (.int .i64 x.dev), .pv (.int .i64 x.seq), .pv (.int .i64 x.key.kind), .pv (.int .i64 x.key.n), .pv (.str x.key.text), .pv (.str x.field), .pv (.int .i64 x.n)]
abbrev XApplied.v (x:XApplied):V:= .agg [.pv (.int .i64 x.dev), .pv (.int .i64 x.seq)]
abbrev XServer.v (x:XServer):V:= .agg [.pv (.str x.store.name), .pv (.lst (x.store.items.map XItem.e)), .pv (.int .i64 x.store.auto), .pv (.lst (x.applied.map XApplied.e)), .pv (.lst (x.changes.map XWrite.e))]
abbrev XOutbox.v (x:XOutbox):V:= .agg [.pv (.int .i64 x.dev), .pv (.int .i64 x.next), .pv (.lst (x.writes.map XWrite.e))]
abbrev XSync.v (x:XSync):V:= .agg [.pv (.int .i64 x.outbox.dev), .pv (.int .i64 x.outbox.next), .pv (.lst (x.outbox.writes.map XWrite.e)), .pv (.int .i64 x.tries), .pv (.int .i64 x.wait)]
abbrev XReplica.v (x:XReplica):V:= .agg [.pv (.str x.base.name), .pv (.lst (x.base.items.map XItem.e)), .pv (.int .i64 x.base.auto), .pv (.int .i64 x.seen), .pv (.int .i64 x.sync.outbox.dev), .pv (.int .i64 x.sync.outbox.next), .pv (.lst (x.sync.outbox.writes.map XWrite.e)), .pv (.int .i64 x.sync.tries), .pv (.int .i64 x.sync.wait)]
abbrev XResponse.v (x:XResponse):V:= .agg [.pv (.int .i64 x.type), .pv (.int .i64 x.status), .pv (.int .i64 x.version), .pv (.lst (al x.body)), .pv (.bool x.shares)]
abbrev XCached.v (x:XCached):V:= .agg [.pv (.str x.site), .pv (.str x.path), .pv (.int .i64 x.resp.type), .pv (.int .i64 x.resp.status), .pv (.int .i64 x.resp.version), .pv (.lst (al x.resp.body)), .pv (.bool x.resp.shares)]
abbrev XCache.v (x:XCache):V:= .agg [.pv (.int .i64 x.version), .pv (.lst (x.entries.map XCached.e))]
abbrev XCacheSet.v (x:XCacheSet):V:= .agg [.pv (.lst (x.caches.map XCache.e))]
abbrev XRegistration.v (x:XRegistration):V:= .agg [.pv (.str x.site), .pv (.int .i64 x.installing), .pv (.int .i64 x.waiting), .pv (.int .i64 x.active)]
abbrev XLoaded.v (x:XLoaded):V:= .agg [.pv (.str x.path), .pv (.int .i64 x.version)]
abbrev XInstr.v (x:XInstr):V:= .agg [.pv (.int .i64 x.kind), .pv (.int .i64 x.r), .pv (.int .i64 x.n), .pv (.str x.text)]
abbrev XMachine.v (x:XMachine):V:= .agg [.pv (.lst (x.script.map XInstr.e)), .pv (.int .i64 x.pc), .pv (.lst (x.regs.map sU)), .pv (.int .i64 x.steps), .pv (.bool x.done), .pv (.bool x.wait)]
abbrev XPage.v (x:XPage):V:= .agg [.pv (.int .i64 x.id), .pv (.str x.site), .pv (.str x.top), .pv (.int .i64 x.version), .pv (.lst (x.loaded.map XLoaded.e)), .pv (.lst (x.machine.script.map XInstr.e)), .pv (.int .i64 x.machine.pc), .pv (.lst (x.machine.regs.map sU)), .pv (.int .i64 x.machine.steps), .pv (.bool x.machine.done), .pv (.bool x.machine.wait)]
abbrev XIndexDef.v (x:XIndexDef):V:= .agg [.pv (.str x.store), .pv (.str x.field)]
abbrev XDatabase.v (x:XDatabase):V:= .agg [.pv (.str x.name), .pv (.int .i64 x.version), .pv (.lst (x.stores.map XStore.e)), .pv (.lst (x.unique.map XIndexDef.e))]
abbrev XDisk.v (x:XDisk):V:= .agg [.pv (.str x.base.name), .pv (.int .i64 x.base.version), .pv (.lst (x.base.stores.map XStore.e)), .pv (.lst (x.base.unique.map XIndexDef.e)), .pv (.lst (al x.log)), .pv (.int .i64 x.count)]
abbrev XBucket.v (x:XBucket):V:= .agg [.pv (.str x.site), .pv (.str x.top), .pv (.str x.reg.site), .pv (.int .i64 x.reg.installing), .pv (.int .i64 x.reg.waiting), .pv (.int .i64 x.reg.active), .pv (.lst (x.caches.caches.map XCache.e)), .pv (.str x.disk.base.name), .pv (.int .i64 x.disk.base.version), .pv (.lst (x.disk.base.stores.map XStore.e)), .pv (.lst (x.disk.base.unique.map XIndexDef.e)), .pv (.lst (al x.disk.log)), .pv (.int .i64 x.disk.count), .pv (.str x.replica.base.name), .pv (.lst (x.replica.base.items.map XItem.e)), .pv (.int .i64 x.replica.base.auto), .pv (.int .i64 x.replica.seen), .pv (.int .i64 x.replica.sync.outbox.dev), .pv (.int .i64 x.replica.sync.outbox.next), .pv (.lst (x.replica.sync.outbox.writes.map XWrite.e)), .pv (.int .i64 x.replica.sync.tries), .pv (.int .i64 x.replica.sync.wait), .pv (.int .i64 x.lastUsed), .pv (.bool x.persistent)]
abbrev XStorage.v (x:XStorage):V:= .agg [.pv (.lst (x.buckets.map XBucket.e))]
abbrev XLock.v (x:XLock):V:= .agg [.pv (.str x.name), .pv (.int .i64 x.page), .pv (.bool x.shared), .pv (.bool x.held)]
abbrev XLockTable.v (x:XLockTable):V:= .agg [.pv (.lst (x.locks.map XLock.e))]
abbrev XMail.v (x:XMail):V:= .agg [.pv (.int .i64 x.to), .pv (.int .i64 x.sender), .pv (.int .i64 x.n)]
abbrev XChannel.v (x:XChannel):V:= .agg [.pv (.lst (x.mails.map XMail.e))]
abbrev XSite.v (x:XSite):V:= .agg [.pv (.str x.name), .pv (.int .i64 x.version), .pv (.lst (x.files.map uD)), .pv (.bool x.shared)]
abbrev XWorld.v (x:XWorld):V:= .agg [.pv (.int .i64 x.now), .pv (.bool x.online), .pv (.int .i64 x.device), .pv (.lst (x.storage.buckets.map XBucket.e)), .pv (.lst (x.pages.map XPage.e)), .pv (.int .i64 x.nextPage), .pv (.lst (x.locks.locks.map XLock.e)), .pv (.lst (x.channel.mails.map XMail.e)), .pv (.lst (x.sites.map XSite.e)), .pv (.lst (x.servers.map XServer.e))]
def dK (a b:Int):Bool:=decide (a<b)
theorem Rf (a b:Int):decide (a≤b)= !(dK b a):=by unfold dK;by_cases h:a≤b<;>simp[h]<;>omega
theorem lL {a b:Int}(h:a<b):dK a b=true:=decide_eq_true h
theorem wv {a b:Int}(h:b≤a):dK a b=false:=decide_eq_false (by omega)
theorem CC :∀(a b:List UInt8),(Op.bytesLess a b||a==b)= !(Op.bytesLess b a)
 |[],[]=>rfl
 |[],_::_=>rfl
 |_::_,[]=>rfl
 |a::xz,b::bs=>by
  have ih:=CC xz bs
  simp only[Op.bytesLess]
  by_cases h1:a<b
  ·have h2:¬b<a:=fun h=>absurd (UInt8.lt_trans h1 h) (UInt8.lt_irrefl _)
   have h3:¬b=a:=fun h=>by subst h;exact absurd h1 (UInt8.lt_irrefl _)
   simp[h1,h2,h3]
  ·by_cases h2:b<a
   ·have h3:¬a=b:=fun h=>by subst h;exact absurd h2 (UInt8.lt_irrefl _)
    simp[h1,h2,h3]
   ·obtain rfl:a=b:=UInt8.le_antisymm (UInt8.not_lt.1 h2) (UInt8.not_lt.1 h1)
    simpa[UInt8.lt_irrefl]using ih
def jN (op:BinOp)(k:IntKind)(a b:Int):Option V:=
 match op with
 | .add=>some (aa k (k.wrap (a+b)))
 | .sub=>some (aa k (k.wrap (a-b)))
 | .mul=>some (aa k (k.wrap (a*b)))
 | .quo=>if b=0 then none else some (aa k (k.wrap (a.tdiv b)))
 | .rem=>if b=0 then none else some (aa k (a.tmod b))
 | .and=>some (aa k (k.wrap ((BitVec.ofInt k.bits a&&&BitVec.ofInt k.bits b).toNat)))
 | .or=>some (aa k (k.wrap ((BitVec.ofInt k.bits a|||BitVec.ofInt k.bits b).toNat)))
 | .eql=>some (au (a==b))
 | .neq=>some (au (!(a==b)))
 | .lss=>some (au (dK a b))
 | .leq=>some (au (!(dK b a)))
 | .gtr=>some (au (dK b a))
 | .geq=>some (au (!(dK a b)))
 |_=>none
theorem cW (op:BinOp)(k:IntKind)(a b:Int):bD op k a b=jN op k a b:=by cases op<;>simp only[bD,jN,Rf]<;>rfl
def jO (op:BinOp)(a b:List UInt8):Option V:=
 match op with
 | .add=>if a.length+b.length≤9223372036854775807 then some (dS (a++b))else none
 | .eql=>some (au (a==b))
 | .neq=>some (au (!(a==b)))
 | .lss=>some (au (Op.bytesLess a b))
 | .leq=>some (au (!(Op.bytesLess b a)))
 | .gtr=>some (au (Op.bytesLess b a))
 | .geq=>some (au (!(Op.bytesLess a b)))
 |_=>none
theorem cX (op:BinOp)(a b:List UInt8):io op a b=jO op a b:=by cases op<;>simp only[io,jO,CC]<;>simp
theorem aF {n k:Nat}(hn:n≤maxLen)(hk:k<n):IntKind.i64.wrap ((k:Int)+1)=(k:Int)+1:=by
 unfold maxLen at hn;rw[IntKind.wrap_i64];omega
theorem aV {n k:Nat}(h:k<n):dK (k:Int) (n:Int)=true:=lL (by omega)
theorem f4 (n:Nat):dK (n:Int) (n:Int)=false:=wv (Int.le_refl _)
theorem td {n k:Nat}(hn:n≤maxLen)(hk:k<n):(dK 0 (k:Int)=true→IntKind.i64.wrap ((k:Int)-1)=((k-1:Nat):Int))∧k-1<n:=by
 refine⟨fun h=> ?_,by omega⟩
 have:=of_decide_eq_true h
 unfold maxLen at hn;rw[IntKind.wrap_i64];omega
end Gi
