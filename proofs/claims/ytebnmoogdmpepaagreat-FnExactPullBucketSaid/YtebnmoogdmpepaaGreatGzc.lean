/- Of this proof. -/
import Derived.Test.YtebnmoogdmpepaaGreatGsr
import Derived.Test.YtebnmoogdmpepaaGreatGxt
import Derived.Lib.Bytealg
import Derived.Test.YtebnmoogdmpepaaGreatGip
import Derived.Test.YtebnmoogdmpepaaGreatGps
set_option linter.unusedSimpArgs false
set_option linter.unusedVariables false
namespace Gi
open Go Go.RowKit
set_option maxHeartbeats 4000000
set_option maxRecDepth 4000
def aM :Nat→List V→Option V:=fun k xz=>match k,xz with
 |363,[.one (.pv (.str a)), .one (.pv (.str b))]=>some (aa .i64 (Lib.compareBytes a b))
 |_,_=>none
theorem bm :rt (ag Ph aM):=N7 fun k xz r h=>by
 unfold aM at h
 split at h
 ·cases h;rfl
 ·cases h
theorem qh {a b:List UInt8}:jx .neq a b=some (aA (!(a==b))):=rfl
theorem qg {a b:List UInt8}:jx .eql a b=some (aA (a==b)):=rfl
theorem df :IntKind.i64.wrap 1=1:=by rw[IntKind.wrap_i64];rfl
theorem oJ {j n:Nat}(hn:n≤maxLen)(hj:j+1<n):IntKind.i64.wrap ((j:Int)+1+1)=(j:Int)+1+1∧IntKind.i64.wrap (j:Int)=(j:Int)∧(0:Int)<(j:Int)+1∧(0:Int)≤(j:Int)+1∧((j:Int)+1).toNat=j+1∧(j:Int)+1<(n:Int):=by
 unfold maxLen at hn
 refine⟨?_,?_,by omega,by omega,by omega,by omega⟩<;>rw[IntKind.wrap_i64]<;>omega
theorem eR {m z:Nat}(hm:m≤4194304)(hz:z≤4096):m*z≤140737488355328∧m≤9223372036854775807∧m≤9223372036854775806∧m<9223372036854775807:=by
 refine⟨?_,by omega,by omega,by omega⟩
 calc m*z≤4194304*4096:=Nat.mul_le_mul hm hz
  _≤140737488355328:=by decide
theorem de {α:Type}{e:α→List PV}{xs:List α}{k:Nat}(hk:k<xs.length):(xs.map e).take (k+1)=(xs.map e).take k++[e xs[k]]:=by
 rw[Yf (by simpa using hk)];simp
theorem eL {α:Type}{e:α→List PV}(h:∀x,(e x).all PV.flat=true)(xs:List α):nu (xs.map e)=true:=by
 simp only[nu,List.all_map,Zu,Function.comp];exact fun x _=>by simpa[Zu]using h x
theorem dC {α:Type}{e:α→List PV}{z:Nat}(h:∀x,(e x).length=z)(xs:List α):((xs.map e).all fun r=>r.length==z)=true:=by
 simp only[List.all_map,Zu,Function.comp,beq_iff_eq];exact fun x _=>h x
theorem qM (s:List UInt8):nu (ar s)=true:=eL (e:=fun b:UInt8=>[PV.int .u8 b.toNat]) (fun _=>rfl) s
theorem jM (s:List UInt8):((ar s).all fun r=>r.length==1)=true:=dC (e:=fun b:UInt8=>[PV.int .u8 b.toNat]) (z:=1) (fun _=>rfl) s
def nd (z:Nat):List (List PV)→L
 |[]=> .nil
 |r::rs=> .down z (r::rs)
def nK (z:Nat):List (List PV)→L
 |[]=> .nil
 |r::rs=> .own z (r::rs)
def oI :List (List PV)→L
 |[]=> .nil
 |r::rs=> .pv (.lst (r::rs))
theorem dM (z:Nat)(rows:List (List PV)):(rows=[]∧nd z rows= .nil)∨(rows≠[]∧nd z rows= .down z rows):=by
 cases rows with
 |nil=>exact .inl ⟨rfl,rfl⟩
 |cons r rs=>exact .inr ⟨by simp,rfl⟩
theorem bF {z:Nat}{rows:List (List PV)}:da (nd z rows)=oI rows:=by cases rows<;>rfl
theorem bi {z:Nat}{rows:List (List PV)}:da (nK z rows)=oI rows:=by cases rows<;>rfl
theorem aE {rows:List (List PV)}:da (oI rows)=oI rows:=by cases rows<;>rfl
theorem aC {h:List AObj}{rows:List (List PV)}:L.view h (oI rows)=some (.lst rows):=by cases rows<;>rfl
theorem aq {rows:List (List PV)}:plain (oI rows)=true:=by cases rows<;>rfl
theorem aY {h:List AObj}{rows:List (List PV)}:L.mut h (oI rows)=false:=by cases rows<;>rfl
theorem al {h:List AObj}{rows:List (List PV)}:freezeL h (oI rows)=h:=by cases rows<;>rfl
theorem aB {h:List AObj}{rows:List (List PV)}:bI h (oI rows)=some (oI rows):=by cases rows<;>rfl
theorem aI {f:List Nat}{rows:List (List PV)}:(oI rows).ren f=some (oI rows):=by cases rows<;>rfl
theorem au {o:Nat}{rows:List (List PV)}:L.notArr o (oI rows)=true:=by cases rows<;>rfl
theorem br {rows:List (List PV)}:L.flat (oI rows)=false:=by cases rows<;>rfl
theorem oC {rows:List (List PV)}:L.unsub (oI rows)=oI rows:=by cases rows<;>rfl
theorem bt {h:List AObj}{rows:List (List PV)}{ls:List L}:thawL h (oI rows::ls)=((oI rows::(thawL h ls).1),(thawL h ls).2):=by cases rows<;>rfl
theorem cH :ai []=[]:=rfl
theorem bP {p:PV}{ls:List L}:ai (.pv p::ls)=ai ls:=rfl
theorem bq {ls:List L}:ai (.nil::ls)=ai ls:=rfl
theorem bo {o:Nat}{ls:List L}:ai (.arr o::ls)=o::ai ls:=rfl
theorem bp {rows:List (List PV)}{ls:List L}:ai (oI rows::ls)=ai ls:=by cases rows<;>rfl
theorem Kn.q (f:List Nat){t t':List V}{h h':List AObj}(ho:bj f h' f h:=by simp[aU,aS,aT,eV,bz,aZ,bC,aN,dv,bR,bj,bV,L.ren,aI])(ht:aZ f t t':=by simp[aU,aS,aT,eV,bz,aZ,bC,aN,dv,bR,bj,bV,L.ren,aI])(nd:f.Nodup:=by decide):Kn ⟨t,h⟩ ⟨t',h'⟩:=Kn.of f nd ho ht
def fK :List AObj→Nat→List Nat
 |[],_=>[]
 |_::r,k=>k::fK r (k+1)
theorem Pl :∀{h:List AObj}{k x:Nat},x∈fK h k→k≤x
 |_::_,_,_,h=>by
  rcases Z8.1 h with rfl|h
  ·exact Zm _
  ·have:=Pl h;omega
theorem GG :∀(h:List AObj)(k:Nat),(fK h k).Nodup
 |[],_=>List.nodup_nil
 |_::r,k=>Yz.2 ⟨fun h=>by have:=Pl h;omega,GG r (k+1)⟩
theorem dE {t t':List V}{h h':List AObj}(hh:bj (fK h 0) h' (fK h 0) h∧aZ (fK h 0) t t'):Kn ⟨t,h⟩ ⟨t',h'⟩:=Kn.of _ (GG h 0) hh.1 hh.2
theorem ej {p:PV}:L.ow (.pv p)= .pv p:=rfl
theorem cV :L.ow .nil= .nil:=rfl
theorem cW {z:Nat}{rows:List (List PV)}:L.ow (.own z rows)= .own z rows:=rfl
theorem ca {z:Nat}{rows:List (List PV)}:L.ow (.down z rows)= .own z rows:=rfl
theorem eh {z:Nat}{rows:List (List PV)}:L.ow (nd z rows)=nK z rows:=by cases rows<;>rfl
theorem cd {z:Nat}{rows:List (List PV)}:L.ow (nK z rows)=nK z rows:=by cases rows<;>rfl
theorem cU {rows:List (List PV)}:L.ow (oI rows)=oI rows:=by cases rows<;>rfl
theorem nD (z:Nat)(rows:List (List PV)):(rows=[]∧nd z rows= .nil∧nK z rows= .nil)∨(rows≠[]∧nd z rows= .down z rows∧nK z rows= .own z rows):=by
 cases rows with
 |nil=>exact .inl ⟨rfl,rfl,rfl⟩
 |cons r rs=>exact .inr ⟨by simp,rfl,rfl⟩
abbrev XKey.v (x:XKey):V:= .agg [.pv (.int .i64 x.kind), .pv (.int .i64 x.n), .pv (.str x.text)]
abbrev XField.v (x:XField):V:= .agg [.pv (.str x.name), .pv (.int .i64 x.n)]
abbrev XRecord.v (x:XRecord):V:= .agg [.pv (.lst (x.fs.map XField.e))]
abbrev XItem.v (x:XItem):V:= .agg [.pv (.int .i64 x.key.kind), .pv (.int .i64 x.key.n), .pv (.str x.key.text), .pv (.lst (x.rcd.fs.map XField.e))]
abbrev XStore.v (x:XStore):V:= .agg [.pv (.str x.name), .pv (.lst (x.items.map XItem.e)), .pv (.int .i64 x.auto)]
abbrev XWrite.v (x:XWrite):V:= .agg [.pv (.int .i64 x.dev), .pv (.int .i64 x.seq), .pv (.int .i64 x.key.kind), .pv (.int .i64 x.key.n), .pv (.str x.key.text), .pv (.str x.field), .pv (.int .i64 x.n)]
abbrev XApplied.v (x:XApplied):V:= .agg [.pv (.int .i64 x.dev), .pv (.int .i64 x.seq)]
abbrev XServer.v (x:XServer):V:= .agg [.pv (.str x.store.name), .pv (.lst (x.store.items.map XItem.e)), .pv (.int .i64 x.store.auto), .pv (.lst (x.applied.map XApplied.e)), .pv (.lst (x.changes.map XWrite.e))]
abbrev XOutbox.v (x:XOutbox):V:= .agg [.pv (.int .i64 x.dev), .pv (.int .i64 x.next), .pv (.lst (x.writes.map XWrite.e))]
abbrev XSync.v (x:XSync):V:= .agg [.pv (.int .i64 x.outbox.dev), .pv (.int .i64 x.outbox.next), .pv (.lst (x.outbox.writes.map XWrite.e)), .pv (.int .i64 x.tries), .pv (.int .i64 x.wait)]
abbrev XReplica.v (x:XReplica):V:= .agg [.pv (.str x.base.name), .pv (.lst (x.base.items.map XItem.e)), .pv (.int .i64 x.base.auto), .pv (.int .i64 x.seen), .pv (.int .i64 x.sync.outbox.dev), .pv (.int .i64 x.sync.outbox.next), .pv (.lst (x.sync.outbox.writes.map XWrite.e)), .pv (.int .i64 x.sync.tries), .pv (.int .i64 x.sync.wait)]
abbrev XResponse.v (x:XResponse):V:= .agg [.pv (.int .i64 x.type), .pv (.int .i64 x.status), .pv (.int .i64 x.version), .pv (.lst (ar x.body)), .pv (.bool x.shares)]
abbrev XCached.v (x:XCached):V:= .agg [.pv (.str x.site), .pv (.str x.path), .pv (.int .i64 x.resp.type), .pv (.int .i64 x.resp.status), .pv (.int .i64 x.resp.version), .pv (.lst (ar x.resp.body)), .pv (.bool x.resp.shares)]
abbrev XCache.v (x:XCache):V:= .agg [.pv (.int .i64 x.version), .pv (.lst (x.entries.map XCached.e))]
abbrev XCacheSet.v (x:XCacheSet):V:= .agg [.pv (.lst (x.caches.map XCache.e))]
abbrev XRegistration.v (x:XRegistration):V:= .agg [.pv (.str x.site), .pv (.int .i64 x.installing), .pv (.int .i64 x.waiting), .pv (.int .i64 x.active)]
abbrev XLoaded.v (x:XLoaded):V:= .agg [.pv (.str x.path), .pv (.int .i64 x.version)]
abbrev XInstr.v (x:XInstr):V:= .agg [.pv (.int .i64 x.kind), .pv (.int .i64 x.r), .pv (.int .i64 x.n), .pv (.str x.text)]
abbrev XMachine.v (x:XMachine):V:= .agg [.pv (.lst (x.script.map XInstr.e)), .pv (.int .i64 x.pc), .pv (.lst (x.regs.map wD)), .pv (.int .i64 x.steps), .pv (.bool x.done), .pv (.bool x.wait)]
abbrev XPage.v (x:XPage):V:= .agg [.pv (.int .i64 x.id), .pv (.str x.site), .pv (.str x.top), .pv (.int .i64 x.version), .pv (.lst (x.loaded.map XLoaded.e)), .pv (.lst (x.machine.script.map XInstr.e)), .pv (.int .i64 x.machine.pc), .pv (.lst (x.machine.regs.map wD)), .pv (.int .i64 x.machine.steps), .pv (.bool x.machine.done), .pv (.bool x.machine.wait)]
abbrev XIndexDef.v (x:XIndexDef):V:= .agg [.pv (.str x.store), .pv (.str x.field)]
abbrev XDatabase.v (x:XDatabase):V:= .agg [.pv (.str x.name), .pv (.int .i64 x.version), .pv (.lst (x.stores.map XStore.e)), .pv (.lst (x.unique.map XIndexDef.e))]
abbrev XDisk.v (x:XDisk):V:= .agg [.pv (.str x.base.name), .pv (.int .i64 x.base.version), .pv (.lst (x.base.stores.map XStore.e)), .pv (.lst (x.base.unique.map XIndexDef.e)), .pv (.lst (ar x.log)), .pv (.int .i64 x.count)]
abbrev XBucket.v (x:XBucket):V:= .agg [.pv (.str x.site), .pv (.str x.top), .pv (.str x.reg.site), .pv (.int .i64 x.reg.installing), .pv (.int .i64 x.reg.waiting), .pv (.int .i64 x.reg.active), .pv (.lst (x.caches.caches.map XCache.e)), .pv (.str x.disk.base.name), .pv (.int .i64 x.disk.base.version), .pv (.lst (x.disk.base.stores.map XStore.e)), .pv (.lst (x.disk.base.unique.map XIndexDef.e)), .pv (.lst (ar x.disk.log)), .pv (.int .i64 x.disk.count), .pv (.str x.replica.base.name), .pv (.lst (x.replica.base.items.map XItem.e)), .pv (.int .i64 x.replica.base.auto), .pv (.int .i64 x.replica.seen), .pv (.int .i64 x.replica.sync.outbox.dev), .pv (.int .i64 x.replica.sync.outbox.next), .pv (.lst (x.replica.sync.outbox.writes.map XWrite.e)), .pv (.int .i64 x.replica.sync.tries), .pv (.int .i64 x.replica.sync.wait), .pv (.int .i64 x.lastUsed), .pv (.bool x.persistent)]
abbrev XStorage.v (x:XStorage):V:= .agg [.pv (.lst (x.buckets.map XBucket.e))]
abbrev XLock.v (x:XLock):V:= .agg [.pv (.str x.name), .pv (.int .i64 x.page), .pv (.bool x.shared), .pv (.bool x.held)]
abbrev XLockTable.v (x:XLockTable):V:= .agg [.pv (.lst (x.locks.map XLock.e))]
abbrev XMail.v (x:XMail):V:= .agg [.pv (.int .i64 x.to), .pv (.int .i64 x.sender), .pv (.int .i64 x.n)]
abbrev XChannel.v (x:XChannel):V:= .agg [.pv (.lst (x.mails.map XMail.e))]
abbrev XSite.v (x:XSite):V:= .agg [.pv (.str x.name), .pv (.int .i64 x.version), .pv (.lst (x.files.map vC)), .pv (.bool x.shared)]
abbrev XWorld.v (x:XWorld):V:= .agg [.pv (.int .i64 x.now), .pv (.bool x.online), .pv (.int .i64 x.device), .pv (.lst (x.storage.buckets.map XBucket.e)), .pv (.lst (x.pages.map XPage.e)), .pv (.int .i64 x.nextPage), .pv (.lst (x.locks.locks.map XLock.e)), .pv (.lst (x.channel.mails.map XMail.e)), .pv (.lst (x.sites.map XSite.e)), .pv (.lst (x.servers.map XServer.e))]
def cT (a b:Int):Bool:=decide (a<b)
theorem Vj (a b:Int):decide (a≤b)= !(cT b a):=by unfold cT;by_cases h:a≤b<;>simp[h]<;>omega
theorem jH {a b:Int}(h:a<b):cT a b=true:=decide_eq_true h
theorem kE {a b:Int}(h:b≤a):cT a b=false:=decide_eq_false (by omega)
theorem qT :∀(a b:List UInt8),(Op.bytesLess a b||a==b)= !(Op.bytesLess b a)
 |[],[]=>rfl
 |[],_::_=>rfl
 |_::_,[]=>rfl
 |a::xz,b::bs=>by
  have ih:=qT xz bs
  simp only[Op.bytesLess]
  by_cases h1:a<b
  ·have h2:¬b<a:=fun h=>absurd (UInt8.lt_trans h1 h) (UInt8.lt_irrefl _)
   have h3:¬b=a:=fun h=>by subst h;exact absurd h1 (UInt8.lt_irrefl _)
   simp[h1,h2,h3]
  ·by_cases h2:b<a
   ·have h3:¬a=b:=fun h=>by subst h;exact absurd h2 (UInt8.lt_irrefl _)
    simp[h1,h2,h3]
   ·obtain rfl:a=b:=UInt8.le_antisymm (UInt8.not_lt.1 h2) (UInt8.not_lt.1 h1)
    simpa[UInt8.lt_irrefl]using ih
def gj (op:BinOp)(k:IntKind)(a b:Int):Option V:=
 match op with
 | .add=>some (aa k (k.wrap (a+b)))
 | .sub=>some (aa k (k.wrap (a-b)))
 | .mul=>some (aa k (k.wrap (a*b)))
 | .quo=>if b=0 then none else some (aa k (k.wrap (a.tdiv b)))
 | .rem=>if b=0 then none else some (aa k (a.tmod b))
 | .and=>some (aa k (k.wrap ((BitVec.ofInt k.bits a&&&BitVec.ofInt k.bits b).toNat)))
 | .or=>some (aa k (k.wrap ((BitVec.ofInt k.bits a|||BitVec.ofInt k.bits b).toNat)))
 | .eql=>some (aA (a==b))
 | .neq=>some (aA (!(a==b)))
 | .lss=>some (aA (cT a b))
 | .leq=>some (aA (!(cT b a)))
 | .gtr=>some (aA (cT b a))
 | .geq=>some (aA (!(cT a b)))
 |_=>none
theorem bY (op:BinOp)(k:IntKind)(a b:Int):cK op k a b=gj op k a b:=by cases op<;>simp only[cK,gj,Vj]<;>rfl
def gl (op:BinOp)(a b:List UInt8):Option V:=
 match op with
 | .add=>if a.length+b.length≤9223372036854775807 then some (eB (a++b))else none
 | .eql=>some (aA (a==b))
 | .neq=>some (aA (!(a==b)))
 | .lss=>some (aA (Op.bytesLess a b))
 | .leq=>some (aA (!(Op.bytesLess b a)))
 | .gtr=>some (aA (Op.bytesLess b a))
 | .geq=>some (aA (!(Op.bytesLess a b)))
 |_=>none
theorem bZ (op:BinOp)(a b:List UInt8):jx op a b=gl op a b:=by cases op<;>simp only[jx,gl,qT]<;>simp
theorem aR {n k:Nat}(hn:n≤maxLen)(hk:k<n):IntKind.i64.wrap ((k:Int)+1)=(k:Int)+1:=by
 unfold maxLen at hn;rw[IntKind.wrap_i64];omega
theorem bd {n k:Nat}(h:k<n):cT (k:Int) (n:Int)=true:=jH (by omega)
theorem ee (n:Nat):cT (n:Int) (n:Int)=false:=kE (Int.le_refl _)
theorem wQ {n k:Nat}(hn:n≤maxLen)(hk:k<n):(cT 0 (k:Int)=true→IntKind.i64.wrap ((k:Int)-1)=((k-1:Nat):Int))∧k-1<n:=by
 refine⟨fun h=> ?_,by omega⟩
 have:=of_decide_eq_true h
 unfold maxLen at hn;rw[IntKind.wrap_i64];omega
variable {KI:KF}
structure DRel (w W:World) (b:Nat):Prop where
 os:W.os=w.os
 tape:W.tape=w.tape
 output:W.output=w.output
 size:w.heap.size≤W.heap.size
 block:∀k,k<w.heap.size→k≠b→W.heap[k]? =w.heap[k]?
theorem DRel.below {w W W':World}{b:Nat}(h:DRel w W b)(g:Below W.heap.size W W'):DRel w W' b:=
 ⟨g.os.trans h.os,g.tape.trans h.tape,g.output.trans h.output,Zc h.size g.size,fun k hk hb=>(g.block k (Z0 hk h.size)).trans (h.block k hk hb)⟩
theorem Below.drel {w W:World}{b:Nat}(g:Below w.heap.size w W):DRel w W b:=⟨g.os,g.tape,g.output,g.size,fun k hk _=>g.block k hk⟩
theorem fG.below {w W:World}{b:Nat}{cur:Array Value}(h:fG w b cur)(g:Below w.heap.size w W):fG W b cur:=by
 obtain⟨T,hT⟩:=h
 have hlt:b<w.heap.size:=by
  rcases Nat.lt_or_ge b w.heap.size with q|q
  ·exact q
  ·rw[Y9 q]at hT;cases hT
 exact⟨T,(g.block b hlt).trans hT⟩
def kd (p:Nat→Bool)(n:Nat):List Nat:=(List.range n).filter fun j=> !p j
theorem DQ (p:Nat→Bool)(n:Nat):kd p (n+1)=kd p n++(if p n then []else [n]):=by
 unfold kd
 rw[List.range_succ,List.filter_append]
 congr 1
 cases h:p n<;>simp[List.filter_cons,h]
theorem Sc {p:Nat→Bool}{n t u:Nat}(h:(kd p n)[t]? =some u):u<n:=by
 have:=Zl h
 simp only[kd,List.mem_filter,List.mem_range]at this
 exact this.1
theorem BD {p:Nat→Bool}{n:Nat}(h:∀j,j<n→p j=false):kd p n=List.range n:=by
 unfold kd
 rw[List.filter_eq_self]
 intro j hj
 rw[h j (by simpa using hj)];rfl
structure KInv (p:Nat→Bool) (z:Nat) (w wr:World) (b:Nat) (cur ck:Array Value) (i j:Nat):Prop where
 rel:DRel w wr b
 row:fG wr b ck
 size:ck.size=cur.size
 len:i=(kd p j).length
 lt:i<j
 low:∀(t u:Nat),(kd p j)[t]? =some u→∀q,q<z→ck[t*z+q]? =cur[u*z+q]?
 high:∀u,j*z≤u→ck[u]? =cur[u]?
theorem KInv.start {p:Nat→Bool}{z:Nat}{w wr:World}{b k:Nat}{cur:Array Value}(h:Below w.heap.size w wr)(hr:fG w b cur)(hk:p k=true)(hj:∀j,j<k→p j=false):KInv p z w wr b cur cur k (k+1):=by
 have e:kd p (k+1)=List.range k:=by rw[DQ,BD hj,hk];simp
 refine⟨Below.drel h,fG.below hr h,rfl,by rw[e,List.length_range],by omega,fun t u ht q hq=> ?_,fun _ _=>rfl⟩
 rw[e]at ht
 obtain⟨h1,h2⟩:=Zb.1 ht
 simp at h2
 rw[h2]
theorem FO {i j z:Nat}(h:i<j):i*z+z≤j*z:=by
 calc i*z+z=(i+1)*z:=by rw[Z6,Yx]
  _≤j*z:=Zz _ h
section
variable {p:Nat→Bool}{z:Nat}{w wr w2:World}{b i j:Nat}{cur ck:Array Value}
theorem KInv.skip (h:KInv p z w wr b cur ck i j)(hp:p j=true)(hd:Below wr.heap.size wr w2):KInv p z w w2 b cur ck i (j+1):=by
 have e:kd p (j+1)=kd p j:=by rw[DQ,hp];simp
 refine⟨h.rel.below hd,h.row.below hd,h.size,by rw[e];exact h.len,Nat.lt_succ_of_lt h.lt,by rw[e];exact h.low,fun u hu=>h.high u ?_⟩
 have:=FO (z:=z) (show j<j+1 by omega)
 omega
theorem KInv.keep (h:KInv p z w wr b cur ck i j)(hp:p j=false)(hd:Below wr.heap.size wr w2){vs:List Value}(hl:vs.length=z)(hv:∀q,q<z→vs[q]? =cur[j*z+q]?)(hj:j*z+z≤cur.size):∃ck',KInv p z w (w2.setCells b (i*z) vs) b cur ck' (i+1) (j+1):=by
 have e:kd p (j+1)=kd p j++[j]:=by rw[DQ,hp];simp
 have hij:=FO (z:=z) h.lt
 have hj1:=FO (z:=z) (show j<j+1 by omega)
 obtain⟨ck',h1,h2,h3⟩:=dd b vs (i*z) w2 ck (h.row.below hd) (by rw[hl,h.size];omega)
 have bel:=bK b 0 (Nat.zero_le _) vs (i*z) w2 w2 (Below.refl _ _)
 have d2:=h.rel.below hd
 refine⟨ck',⟨bel.os.trans d2.os,bel.tape.trans d2.tape,bel.output.trans d2.output,by rw[dh];exact d2.size,fun k hk hb=>(cX b vs (i*z) w2 k hb).trans (d2.block k hk hb)⟩,h1,h2.trans h.size,by rw[e,Zw,←h.len];rfl,Nat.succ_lt_succ h.lt,fun t u htu q hq=> ?_,fun u hu=> ?_⟩
 ·rw[e]at htu
  rw[h3]
  by_cases ht:t<i
  ·rw[Ze (by rw[←h.len];exact ht)]at htu
   have:=Kz ht hq
   rw[if_neg (by omega)]
   exact h.low t u htu q hq
  ·have htl:=(Zb.1 htu).1
   rw[Zw,←h.len]at htl
   simp only[Zo,Z4]at htl
   obtain rfl:t=i:=by omega
   rw[Zk (by rw[←h.len];exact Zm _),←h.len,Xi,Yu]at htu
   cases htu
   rw[if_pos ⟨by omega,by omega⟩,show t*z+q-t*z=q by omega]
   exact hv q hq
 ·rw[h3,if_neg (by omega)]
  exact h.high u (by omega)
theorem KInv.done (h:KInv p z w wr b cur ck i j){vs:List Value}(hl:vs.length=(j-i)*z)(hj:j*z≤cur.size):∃ck',fG (wr.setCells b (i*z) vs) b ck'∧ck'.size=cur.size∧DRel w (wr.setCells b (i*z) vs) b∧∀(t u:Nat),(kd p j)[t]? =some u→∀q,q<z→ck'[t*z+q]? =cur[u*z+q]? :=by
 have hm:i*z+(j-i)*z=j*z:=by rw[←Z6,show i+(j-i)=j by have:=h.lt;omega]
 obtain⟨ck',h1,h2,h3⟩:=dd b vs (i*z) wr ck h.row (by rw[hl,h.size,hm];exact hj)
 have bel:=bK b 0 (Nat.zero_le _) vs (i*z) wr wr (Below.refl _ _)
 refine⟨ck',h1,h2.trans h.size,⟨bel.os.trans h.rel.os,bel.tape.trans h.rel.tape,bel.output.trans h.rel.output,by rw[dh];exact h.rel.size,fun k hk hb=>(cX b vs (i*z) wr k hb).trans (h.rel.block k hk hb)⟩,fun t u htu q hq=> ?_⟩
 have ht:t<i:=by rw[h.len];exact(Zb.1 htu).1
 have:=Kz ht hq
 rw[h3,if_neg (by omega)]
 exact h.low t u htu q hq
end
theorem Hw {zs:Array Value}{n:Nat}{P:Value→Prop}(h:∀v∈zs,P v)(hz:0<zs.size):∀v∈(Builtin.zeroCells zs n).toList,P v:=by
 intro v hv
 simp only[Builtin.zeroCells,Ym,Yt]at hv
 obtain⟨i,_,rfl⟩:=hv
 have hlt:=Nat.mod_lt i hz
 rw[getElem!_pos zs _ hlt]
 exact h _ (Array.getElem_mem hlt)
theorem LY {P:Program}(w:World)(t e ty:TypeId)(zv:Value)(z:Nat)(ht:P.underlying t=some (.slice e))(hv:∀w,(zeroValue e).run P w= .ok zv w)(hz:zv.cells.size=z)(hz0:0<z)(h1:∀v∈zv.cells,v.oneCell'=true)(b o n c:Nat)(hn:0<n)
 (hc:∀j,j<n*z→(w.cell? ⟨b,o+j,none⟩).isSome=true) (hf:∀j,j<n*z→w.frozen? ⟨b,o+j,none⟩=false):
 (Builtin.clear_ #[t] ty #[.slice (some ⟨b,o,none⟩) n c]).run P w= .ok (.tuple #[]) (w.setCells b o (Builtin.zeroCells zv.cells n).toList):=by
 have hl:(Builtin.zeroCells zv.cells n).toList.length=n*z:=by rw[Y1,←hz];unfold Builtin.zeroCells;rw[Array.size_map,Array.size_range]
 have hst:=run_storeCells_cells (P:=P) b o (Builtin.zeroCells zv.cells n).toList 0 w (by rw[hl];simpa using hc) (by rw[hl];simpa using hf) (Hw h1 (by omega))
 simp only[Xb]at hst
 obtain⟨m,rfl⟩:∃m,n=m+1:=⟨n-1,by omega⟩
 simp[Builtin.clear_,run_underlying ht,hv,hst]
theorem fk {w W:World}{b o:Nat}{v:Value}(h:w.cell? ⟨b,o,none⟩=some v)(g:Below w.heap.size w W):W.cell? ⟨b,o,none⟩=some v:=by
 have hlt:b<w.heap.size:=by
  rcases Nat.lt_or_ge b w.heap.size with q|q
  ·exact q
  ·simp[World.cell?,Y9 q]at h
 unfold World.cell? at*
 rw[g.block b hlt]
 exact h
theorem rH {w W W':World}(h:Below w.heap.size w W)(g:Below W.heap.size W W'):Below w.heap.size w W':=
 ⟨g.os.trans h.os,g.tape.trans h.tape,g.output.trans h.output,Zc h.size g.size,fun k hk=>(g.block k (Z0 hk h.size)).trans (h.block k hk)⟩
theorem uP (w:World)(o:Obj):Below w.heap.size w (w.alloc o):=⟨rfl,rfl,rfl,by simp,fun k hk=>eM w o k hk⟩
def U0 (P:Program)(f z:Nat):Prop:=
 ∀(w:World)(fc:FuncId)(cs:Array Value)(p:Nat→Bool),(∀args w,(callFunc fc args).run P w= .ok (.enter fc args) w)→
  (∀ad:Option Addr,Calls P f #[.slice ad 0 0, .func (.func fc) #[] cs] w fun e w'=>e= .returned (.slice ad 0 0)∧Below w.heap.size w w')∧
  ∀(b n cap:Nat)(cur:Array Value),fG w b cur→cur.size=cap*z→n≤cap→cap≤maxLen→(∀(u:Nat)v,u<n*z→cur[u]? =some v→v.oneCell'=true)→
   (∀j,j<n→∀W,DRel w W b→Calls P fc (#[.agg (cur.extract (j*z) (j*z+z))]++cs) W fun e W'=>e= .returned (.bool (p j))∧Below W.heap.size W W')→
   Calls P f #[.slice (some ⟨b,0,none⟩) n cap, .func (.func fc) #[] cs] w fun e w'=>∃cur',e= .returned (.slice (some ⟨b,0,none⟩) (kd p n).length cap)∧fG w' b cur'∧cur'.size=cur.size∧DRel w w' b∧
    ∀(t u:Nat),(kd p n)[t]? =some u→∀q,q<z→cur'[t*z+q]? =cur[u*z+q]?
theorem Lg (p:List PV→Bool)(es:List (List PV)):(kd (fun j=>match es[j]? with|some e=>p e|none=>false) es.length).length=(es.filter fun e=> !p e).length∧
 ∀(t:Nat)(e:List PV),(es.filter fun e=> !p e)[t]? =some e→∃u,(kd (fun j=>match es[j]? with|some e=>p e|none=>false) es.length)[t]? =some u∧es[u]? =some e:=by
 have key:∀k,k≤es.length→(es.take k).filter (fun e=> !p e)=(kd (fun j=>match es[j]? with|some e=>p e|none=>false) k).filterMap (fun u=>es[u]?)∧
  (kd (fun j=>match es[j]? with|some e=>p e|none=>false) k).length=((es.take k).filter (fun e=> !p e)).length:=by
  intro k
  induction k with
  |zero=>intro _;simp[kd]
  |succ k ih=>
   intro hk
   obtain⟨i1,i2⟩:=ih (by omega)
   have hlt:k<es.length:=by omega
   rw[Yf hlt,List.filter_append,DQ,List.filterMap_append,Zw,Zw,←i1,←i2,Zn hlt]
   cases h:p es[k]<;>simp[List.filter_cons,h,hlt]
 obtain⟨k1,k2⟩:=key es.length (Zm _)
 rw[Yq]at k1 k2
 refine⟨k2,fun t e he=> ?_⟩
 generalize hK:kd (fun j=>match es[j]? with|some e=>p e|none=>false) es.length=K at k1 k2
 have hall:∀u∈K,∃x,es[u]? =some x:=fun u hu=>by
  rw[←hK]at hu
  obtain⟨i,hi⟩:=List.mem_iff_getElem?.1 hu
  exact⟨_,Zn (Sc hi)⟩
 have hfm:∀(K:List Nat),(∀u∈K,∃x,es[u]? =some x)→∀(t:Nat)(e:List PV),(K.filterMap fun u=>es[u]?)[t]? =some e→∃u,K[t]? =some u∧es[u]? =some e:=by
  intro K
  induction K with
  |nil=>intro _ t e h;simp at h
  |cons u K ih=>
   intro ha t e h
   obtain⟨x,hx⟩:=ha u (by simp)
   rw[List.filterMap_cons,hx]at h
   cases t with
   |zero=>simp only[Yu]at h;cases h;exact⟨u,rfl,hx⟩
   |succ t=>simp only[Y2]at h⊢;exact ih (fun u hu=>ha u (by simp[hu])) t e h
 rw[k1]at he
 exact hfm K hall t e he
theorem Tk {Γ:Ctx}{P:Program}{f z:Nat}(hv:U0 P f z):Tb Γ P f z:=by
 intro c cs es p hth hsd
 have ent:∀fc,kf fc=some c→∀(args:Array Value)(w:World),(callFunc fc args).run P w= .ok (.enter fc args) w:=fun fc hfc args w=>by
  obtain⟨fn,h1,h2,h3⟩:=hth fc hfc
  simp only[callFunc,run_program,Sem.run_bind,Result.andThen_ok,h1,h2,h3]
  simp
 constructor
 ·intro hes M w g ad hG hg
  obtain⟨fc,csv,rfl,hfc,hlen,hcap⟩:=hg
  exact(hv w fc csv (fun _=>false) (ent fc hfc)).1 ad
 ·intro hz hes
  refine⟨fun e he=>hes e (List.mem_filter.1 he).1,List.length_filter_le _ _,?_⟩
  intro M w g b cap cur hG hB hM hg hMb hrow hsz hn hcapm hread
  obtain⟨fc,csv,rfl,hfc,hlen,hcap⟩:=hg
  obtain⟨f1,f2⟩:=Lg p es
  obtain⟨pN,hpN⟩:∃pN:Nat→Bool,pN=fun j=>match es[j]? with|some e=>p e|none=>false:=⟨_,rfl⟩
  rw[←hpN]at f1 f2
  have hpe:∀j(hj:j<es.length),pN j=p es[j]:=fun j hj=>by rw[hpN];simp only[Zn hj]
  refine((hv w fc csv pN (ent fc hfc)).2 b es.length cap cur hrow hsz hn hcapm ?_ ?_).mono ?_
  ·intro u v hu hc
   have hd:=Nat.div_add_mod u z
   have hm:=Nat.mod_lt u hz
   have hj:u/z<es.length:=(Nat.div_lt_iff_lt_mul hz).2 hu
   have he:=Zn hj
   have hl:=hes _ (Zf hj)
   obtain⟨v',hv',hr⟩:=hread (u/z) _ (u%z) _ he (Zn (by rw[hl];exact hm))
   rw[Xh,hd,hc]at hv'
   cases hv'
   exact hr.one
  ·intro j hj W hW
   have he:=Zn hj
   have hl:=hes _ (Zf hj)
   have hgo:Go' M M w W:=⟨hW.size,fun _ _ h=>h,fun k hk hm=>hW.block k hk (fun e=>hm (e▸hMb))⟩
   have hGW:Γ.G W:=Γ.keep w W hG ⟨hW.os,hW.tape,hW.output,hW.size,fun k hk=>hW.block k (Z0 hk (Γ.size w hG)) (by omega)⟩
   have hrange:j*z+z≤cur.size:=by
    rw[hsz]
    calc j*z+z=(j+1)*z:=by rw[Z6,Yx]
     _≤cap*z:=Zz _ (by omega)
   have hs:=hsd _ (Zf hj) fc hfc
   rw[hpe j hj]
   have ha:qc M W (.agg (es[j].map .pv)::cs.map tR) (#[Value.agg (cur.extract (j*z) (j*z+z))]++csv).toList:=by
    refine⟨by simp[hlen],fun i x u hx hu=> ?_⟩
    cases i with
    |zero=>
     simp only[Yu]at hx
     cases hx
     have hu2:Value.agg (cur.extract (j*z) (j*z+z))=u:=by simpa using hu
     rw[←hu2]
     refine⟨_,rfl,by simp[hl];omega,fun q l v hq hv=> ?_⟩
     rw[Zq]at hq
     cases hp:es[j][q]? with
     |none=>rw[hp]at hq;cases hq
     |some pv=>
      rw[hp]at hq
      cases hq
      have hqz:q<z:=by have:=(Zb.1 hp).1;omega
      obtain⟨v',hv',hr⟩:=hread j _ q pv he hp
      have hvv:(cur.extract (j*z) (j*z+z))[q]? =some v:=by rw[←Array.getElem?_toList];exact hv
      rw[Array.getElem?_extract,if_pos (by omega),hv']at hvv
      cases hvv
      exact av.go hgo pv _ hr
    |succ i=>
     rw[Y2,Zq]at hx
     have hu':csv[i]? =some u:=by simpa using hu
     cases hc:cs[i]? with
     |none=>rw[hc]at hx;cases hx
     |some e=>
      rw[hc]at hx
      cases hx
      exact((hcap i e u hc hu').go hgo).arg
   have hS:=hs.2 M W _ hGW (fun k hk=>Z0 (hM k hk) hW.size) ha
   refine hS.mono fun e w'⟨v,he',hb,ρ',_,hvr⟩=> ?_
   have hvr2:av (Mu M ρ' []) w' (.bool (p es[j])) v:=hvr
   have:v= .bool (p es[j]):=by simpa only[av]using hvr2
   subst this
   exact⟨he',hb⟩
  ·intro e w' ⟨cur',he,hr',hs',hd,hcells⟩
   refine⟨cur',by rw[he,f1],hr',hs',hd.os,hd.tape,hd.output,hd.size,hd.block,?_⟩
   intro i e j pv hi hj
   obtain⟨u,hu,heu⟩:=f2 i e hi
   have hgo:Go' M M w w':=⟨hd.size,fun _ _ h=>h,fun k hk hm=>hd.block k hk (fun e=>hm (e▸hMb))⟩
   have hjz:j<z:=by
    have h1:=(Zb.1 hj).1
    rw[hes e (Zl heu)]at h1;exact h1
   obtain⟨v,hv',hr⟩:=hread u e j pv heu hj
   exact⟨v,by rw[hcells i u hu j hjz];exact hv',hr⟩
end Gi
namespace Gi
open Go Go.RowKit
mutual
def Vz :PTy→Bool
 | .lst ts=>decide (ts.length≤64)&&NA ts
 |_=>true
def NA :List PTy→Bool
 |[]=>true
 |t::ts=>Vz t&&NA ts
end
mutual
theorem TG (mT:Int→List UInt8):∀(p:PV)(t:PTy)(k:Int),oQ t p→Vz t=true→(k7 mT p k).2≤k+1+64*(sz p:Int)
 | .int κ n,t,k,h,hn=>by simp only[k7,sz];omega
 | .bool b,t,k,h,hn=>by simp only[k7,sz];omega
 | .str s,t,k,h,hn=>by simp only[k7,sz];omega
 | .lst rows,t,k,h,hn=>by
  cases t with
  |lst ts=>
   simp only[Vz,Zh,decide_eq_true_eq]at hn
   have:=Jx mT rows ts k (bw h).2 hn.1 hn.2
   rw[ly]
   simp only[k7]
   omega
  |int κ=>simp[oQ]at h
  |bool=>simp[oQ]at h
  |str=>simp[oQ]at h
theorem OR (mT:Int→List UInt8):∀(ps:List PV)(ts:List PTy)(k:Int),bM ts ps→NA ts=true→(p9 mT ps k).2≤k+ps.length+64*(fg ps:Int)
 |[],ts,k,h,hn=>by simp only[p9,fg,Z4];omega
 |p::ps,[],k,h,hn=>by simp[bM]at h
 |p::ps,t::ts,k,h,hn=>by
  simp only[NA,Zh]at hn
  have h1:oQ t p∧bM ts ps:=by simpa only[bM]using h
  have a:=TG mT p t k h1.1 hn.1
  have b:=OR mT ps ts (k7 mT p k).2 h1.2 hn.2
  simp only[p9,fg,Zo]
  omega
theorem Jx (mT:Int→List UInt8):∀(rows:List (List PV))(ts:List PTy)(k:Int),(∀r∈rows,bM ts r)→ts.length≤64→NA ts=true→(cN mT rows k).2≤k+64*((rows.length:Int)+(cM rows:Int))
 |[],ts,k,h,hl,hn=>by simp only[cN,cM,Z4];omega
 |r::rows,ts,k,h,hl,hn=>by
  have hr:=h r (by simp)
  have a:=OR mT r ts k hr hn
  have b:=Jx mT rows ts (p9 mT r k).2 (fun r m=>h r (by simp[m])) hl hn
  have:=km hr
  simp only[cN,cM,Zo]
  omega
end
theorem wn (mT:Int→List UInt8):∀(ps:List PV)(ts:List PTy)(k:Int),bM ts ps→NA ts=true→(fL mT ps k).2≤k+64*(fg ps:Int)
 |[],ts,k,h,hn=>by simp only[fL,fg];omega
 |p::ps,[],k,h,hn=>by simp[bM]at h
 |p::ps,t::ts,k,h,hn=>by
  simp only[NA,Zh]at hn
  have h1:oQ t p∧bM ts ps:=by simpa only[bM]using h
  cases p with
  |lst rows=>
   cases t with
   |lst us=>
    have hn1:=hn.1
    simp only[Vz,Zh,decide_eq_true_eq]at hn1
    have a:=Jx mT rows us k (bw h1.1).2 hn1.1 hn1.2
    have b:=wn mT ps ts (cN mT rows k).2 h1.2 hn.2
    simp only[fL,fg,ly]
    omega
   |int κ=>simp[oQ]at h1
   |bool=>simp[oQ]at h1
   |str=>simp[oQ]at h1
  |int κ n=>have b:=wn mT ps ts k h1.2 hn.2;simp only[fL,fg];omega
  |bool c=>have b:=wn mT ps ts k h1.2 hn.2;simp only[fL,fg];omega
  |str s=>have b:=wn mT ps ts k h1.2 hn.2;simp only[fL,fg];omega
theorem TQ {ts:List PTy}{ps:List PV}(h:bM ts ps):(iE ts ps).map da=ps.map .pv:=by
 refine gy (P:=fun ts ps=>(iE ts ps).map da=ps.map .pv) rfl ?_ ?_ ts ps h
 ·intro us rows ts ps _ _ ih
  cases rows<;>simp only[iE,yf,Zv,da,ih]
 ·intro t p ts ps h1 ht hp _ ih
  simp only[iE,zt ht h1,Zv,da,ih]
theorem QG {ts:List PTy}{ps:List PV}(h:bM ts ps)(hh:List AObj):sf hh (.agg (iE ts ps))=(.agg (jN hh.length ts ps),hh++iq ts ps):=by
 have key:∀(ts:List PTy)(ps:List PV),bM ts ps→∀hh:List AObj,∃ds,thawL hh (iE ts ps)=(jN hh.length ts ps,hh++ds)∧ds.map AObj.zone=iq ts ps:=by
  refine gy ?_ ?_ ?_
  ·intro hh;exact⟨[],by simp[iE,thawL,jN],rfl⟩
  ·intro us rows ts ps _ _ ih hh
   cases rows with
   |nil=>
    obtain⟨ds,e1,e2⟩:=ih (hh++[.arr us.length []])
    refine⟨.arr us.length []::ds,?_,by simp only[Zv,e2,AObj.zone,iq]⟩
    simp only[iE,yf,thawL,e1,jN,Zw,Z7,Zp,Zg,Zi]
   |cons r rows=>
    obtain⟨ds,e1,e2⟩:=ih (hh++[.darr us.length (r::rows)])
    refine⟨.darr us.length (r::rows)::ds,?_,by simp only[Zv,e2,AObj.zone,iq]⟩
    simp only[iE,yf,thawL,e1,jN,Zw,Z7,Zp,Zg,Zi]
  ·intro t p ts ps h1 ht hp _ ih hh
   obtain⟨ds,e1,e2⟩:=ih hh
   refine⟨ds,?_,by rw[e2,iC ht]⟩
   simp only[iE,zt ht h1]
   rw[mR ht]
   simp only[thawL,e1]
 obtain⟨ds,e1,_⟩:=key ts ps h hh
 obtain⟨ds',f1,f2⟩:=key ts ps h []
 simp only[sf,thaw,e1,f1,Zi,f2]
end Gi
