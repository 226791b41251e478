/- Of this proof. -/
import Derived.Test.YtebnmoogdmpepaaGreatGsr
import Derived.Test.YtebnmoogdmpepaaGreatGxt
import Derived.Lib.Bytealg
import Derived.Test.YtebnmoogdmpepaaGreatGip
import Derived.Test.YtebnmoogdmpepaaGreatGps
set_option linter.unusedSimpArgs false
set_option linter.unusedVariables false
namespace Gi
open Go Go.RowKit
set_option maxHeartbeats 4000000
set_option maxRecDepth 4000
def au :Nat→List V→Option V:=fun k xz=>match k,xz with
 |363,[.one (.pv (.str a)), .one (.pv (.str b))]=>some (aa .i64 (Lib.compareBytes a b))
 |_,_=>none
theorem aU :qv (ah Ph au):=Ny fun k xz r h=>by
 unfold au at h
 split at h
 ·cases h;rfl
 ·cases h
theorem pC {a b:List UInt8}:je .neq a b=some (av (!(a==b))):=rfl
theorem pB {a b:List UInt8}:je .eql a b=some (av (a==b)):=rfl
theorem cz :IntKind.i64.wrap 1=1:=by rw[IntKind.wrap_i64];rfl
theorem od {j n:Nat}(hn:n≤maxLen)(hj:j+1<n):IntKind.i64.wrap ((j:Int)+1+1)=(j:Int)+1+1∧IntKind.i64.wrap (j:Int)=(j:Int)∧(0:Int)<(j:Int)+1∧(0:Int)≤(j:Int)+1∧((j:Int)+1).toNat=j+1∧(j:Int)+1<(n:Int):=by
 unfold maxLen at hn
 refine⟨?_,?_,by omega,by omega,by omega,by omega⟩<;>rw[IntKind.wrap_i64]<;>omega
theorem ew {m z:Nat}(hm:m≤4194304)(hz:z≤4096):m*z≤140737488355328∧m≤9223372036854775807∧m≤9223372036854775806∧m<9223372036854775807:=by
 refine⟨?_,by omega,by omega,by omega⟩
 calc m*z≤4194304*4096:=Nat.mul_le_mul hm hz
  _≤140737488355328:=by decide
theorem cu {α:Type}{e:α→List PV}{xs:List α}{k:Nat}(hk:k<xs.length):(xs.map e).take (k+1)=(xs.map e).take k++[e xs[k]]:=by
 rw[Z5 (by simpa using hk)];simp
theorem ep {α:Type}{e:α→List PV}(h:∀x,(e x).all PV.flat=true)(xs:List α):mL (xs.map e)=true:=by
 simp only[mL,List.all_map,Zw,Function.comp];exact fun x _=>by simpa[Zw]using h x
theorem dQ {α:Type}{e:α→List PV}{z:Nat}(h:∀x,(e x).length=z)(xs:List α):((xs.map e).all fun r=>r.length==z)=true:=by
 simp only[List.all_map,Zw,Function.comp,beq_iff_eq];exact fun x _=>h x
theorem ji (s:List UInt8):mL (ag s)=true:=ep (e:=fun b:UInt8=>[PV.int .u8 b.toNat]) (fun _=>rfl) s
theorem dy (s:List UInt8):((ag s).all fun r=>r.length==1)=true:=dQ (e:=fun b:UInt8=>[PV.int .u8 b.toNat]) (z:=1) (fun _=>rfl) s
def nd (z:Nat):List (List PV)→L
 |[]=> .nil
 |r::rs=> .down z (r::rs)
def xv (z:Nat):List (List PV)→L
 |[]=> .nil
 |r::rs=> .own z (r::rs)
def sJ :List (List PV)→L
 |[]=> .nil
 |r::rs=> .pv (.lst (r::rs))
theorem eu (z:Nat)(rows:List (List PV)):(rows=[]∧nd z rows= .nil)∨(rows≠[]∧nd z rows= .down z rows):=by
 cases rows with
 |nil=>exact .inl ⟨rfl,rfl⟩
 |cons r rs=>exact .inr ⟨by simp,rfl⟩
theorem cd {z:Nat}{rows:List (List PV)}:di (nd z rows)=sJ rows:=by cases rows<;>rfl
theorem bE {z:Nat}{rows:List (List PV)}:di (xv z rows)=sJ rows:=by cases rows<;>rfl
theorem bD {rows:List (List PV)}:di (sJ rows)=sJ rows:=by cases rows<;>rfl
theorem bG {h:List AObj}{rows:List (List PV)}:L.view h (sJ rows)=some (.lst rows):=by cases rows<;>rfl
theorem bc {rows:List (List PV)}:plain (sJ rows)=true:=by cases rows<;>rfl
theorem ca {h:List AObj}{rows:List (List PV)}:L.mut h (sJ rows)=false:=by cases rows<;>rfl
theorem aN {h:List AObj}{rows:List (List PV)}:freezeL h (sJ rows)=h:=by cases rows<;>rfl
theorem bB {h:List AObj}{rows:List (List PV)}:bH h (sJ rows)=some (sJ rows):=by cases rows<;>rfl
theorem aT {f:List Nat}{rows:List (List PV)}:(sJ rows).ren f=some (sJ rows):=by cases rows<;>rfl
theorem aO {o:Nat}{rows:List (List PV)}:L.notArr o (sJ rows)=true:=by cases rows<;>rfl
theorem bA {rows:List (List PV)}:L.flat (sJ rows)=false:=by cases rows<;>rfl
theorem bF {h:List AObj}{rows:List (List PV)}{ls:List L}:thawL h (sJ rows::ls)=((sJ rows::(thawL h ls).1),(thawL h ls).2):=by cases rows<;>rfl
theorem df :al []=[]:=rfl
theorem bY {p:PV}{ls:List L}:al (.pv p::ls)=al ls:=rfl
theorem bz {ls:List L}:al (.nil::ls)=al ls:=rfl
theorem bw {o:Nat}{ls:List L}:al (.arr o::ls)=o::al ls:=rfl
theorem bx {rows:List (List PV)}{ls:List L}:al (sJ rows::ls)=al ls:=by cases rows<;>rfl
theorem Kn.q (f:List Nat){t t':List V}{h h':List AObj}(ho:bf f h' f h:=by simp[aS,aQ,aR,eJ,bp,aW,bm,aF,dz,bL,bf,bS,L.ren,aT])(ht:aW f t t':=by simp[aS,aQ,aR,eJ,bp,aW,bm,aF,dz,bL,bf,bS,L.ren,aT])(nd:f.Nodup:=by decide):Kn ⟨t,h⟩ ⟨t',h'⟩:=Kn.of f nd ho ht
def ie :List AObj→Nat→List Nat
 |[],_=>[]
 |_::r,k=>k::ie r (k+1)
theorem OK :∀{h:List AObj}{k x:Nat},x∈ie h k→k≤x
 |_::_,_,_,h=>by
  rcases Yh.1 h with rfl|h
  ·exact Zl _
  ·have:=OK h;omega
theorem Gn :∀(h:List AObj)(k:Nat),(ie h k).Nodup
 |[],_=>List.nodup_nil
 |_::r,k=>Yx.2 ⟨fun h=>by have:=OK h;omega,Gn r (k+1)⟩
theorem ez {t t':List V}{h h':List AObj}(hh:bf (ie h 0) h' (ie h 0) h∧aW (ie h 0) t t'):Kn ⟨t,h⟩ ⟨t',h'⟩:=Kn.of _ (Gn h 0) hh.1 hh.2
theorem fv {p:PV}:L.ow (.pv p)= .pv p:=rfl
theorem dK :L.ow .nil= .nil:=rfl
theorem dL {z:Nat}{rows:List (List PV)}:L.ow (.own z rows)= .own z rows:=rfl
theorem cE {z:Nat}{rows:List (List PV)}:L.ow (.down z rows)= .own z rows:=rfl
theorem fu {z:Nat}{rows:List (List PV)}:L.ow (nd z rows)=xv z rows:=by cases rows<;>rfl
theorem cF {z:Nat}{rows:List (List PV)}:L.ow (xv z rows)=xv z rows:=by cases rows<;>rfl
theorem dJ {rows:List (List PV)}:L.ow (sJ rows)=sJ rows:=by cases rows<;>rfl
theorem mU (z:Nat)(rows:List (List PV)):(rows=[]∧nd z rows= .nil∧xv z rows= .nil)∨(rows≠[]∧nd z rows= .down z rows∧xv z rows= .own z rows):=by
 cases rows with
 |nil=>exact .inl ⟨rfl,rfl,rfl⟩
 |cons r rs=>exact .inr ⟨by simp,rfl,rfl⟩
abbrev XKey.v (x:XKey):V:= .agg [.pv (.int .i64 x.kind), .pv (.int .i64 x.n), .pv (.str x.text)]
abbrev XField.v (x:XField):V:= .agg [.pv (.str x.name), .pv (.int .i64 x.n)]
abbrev XRecord.v (x:XRecord):V:= .agg [.pv (.lst (x.fs.map XField.e))]
abbrev XItem.v (x:XItem):V:= .agg [.pv (.int .i64 x.key.kind), .pv (.int .i64 x.key.n), .pv (.str x.key.text), .pv (.lst (x.rcd.fs.map XField.e))]
abbrev XStore.v (x:XStore):V:= .agg [.pv (.str x.name), .pv (.lst (x.items.map XItem.e)), .pv (.int .i64 x.auto)]
abbrev XWrite.v (x:XWrite):V:= .agg [.pv (.int .i64 x.dev), .pv (.int .i64 x.seq), .pv (.int .i64 x.key.kind), .pv (.int .i64 x.key.n), .pv (.str x.key.text), .pv (.str x.field), .pv (.int .i64 x.n)]
abbrev XApplied.v (x:XApplied):V:= .agg [.pv (.int .i64 x.dev), .pv (.int .i64 x.seq)]
abbrev XServer.v (x:XServer):V:= .agg [.pv (.str x.store.name), .pv (.lst (x.store.items.map XItem.e)), .pv (.int .i64 x.store.auto), .pv (.lst (x.applied.map XApplied.e)), .pv (.lst (x.changes.map XWrite.e))]
abbrev XOutbox.v (x:XOutbox):V:= .agg [.pv (.int .i64 x.dev), .pv (.int .i64 x.next), .pv (.lst (x.writes.map XWrite.e))]
abbrev XSync.v (x:XSync):V:= .agg [.pv (.int .i64 x.outbox.dev), .pv (.int .i64 x.outbox.next), .pv (.lst (x.outbox.writes.map XWrite.e)), .pv (.int .i64 x.tries), .pv (.int .i64 x.wait)]
abbrev XReplica.v (x:XReplica):V:= .agg [.pv (.str x.base.name), .pv (.lst (x.base.items.map XItem.e)), .pv (.int .i64 x.base.auto), .pv (.int .i64 x.seen), .pv (.int .i64 x.sync.outbox.dev), .pv (.int .i64 x.sync.outbox.next), .pv (.lst (x.sync.outbox.writes.map XWrite.e)), .pv (.int .i64 x.sync.tries), .pv (.int .i64 x.sync.wait)]
abbrev XResponse.v (x:XResponse):V:= .agg [.pv (.int .i64 x.type), .pv (.int .i64 x.status), .pv (.int .i64 x.version), .pv (.lst (ag x.body)), .pv (.bool x.shares)]
abbrev XCached.v (x:XCached):V:= .agg [.pv (.str x.site), .pv (.str x.path), .pv (.int .i64 x.resp.type), .pv (.int .i64 x.resp.status), .pv (.int .i64 x.resp.version), .pv (.lst (ag x.resp.body)), .pv (.bool x.resp.shares)]
abbrev XCache.v (x:XCache):V:= .agg [.pv (.int .i64 x.version), .pv (.lst (x.entries.map XCached.e))]
abbrev XCacheSet.v (x:XCacheSet):V:= .agg [.pv (.lst (x.caches.map XCache.e))]
abbrev XRegistration.v (x:XRegistration):V:= .agg [.pv (.str x.site), .pv (.int .i64 x.installing), .pv (.int .i64 x.waiting), .pv (.int .i64 x.active)]
abbrev XLoaded.v (x:XLoaded):V:= .agg [.pv (.str x.path), .pv (.int .i64 x.version)]
abbrev XInstr.v (x:XInstr):V:= .agg [.pv (.int .i64 x.kind), .pv (.int .i64 x.r), .pv (.int .i64 x.n), .pv (.str x.text)]
abbrev XMachine.v (x:XMachine):V:= .agg [.pv (.lst (x.script.map XInstr.e)), .pv (.int .i64 x.pc), .pv (.lst (x.regs.map oV)), .pv (.int .i64 x.steps), .pv (.bool x.done), .pv (.bool x.wait)]
abbrev XPage.v (x:XPage):V:= .agg [.pv (.int .i64 x.id), .pv (.str x.site), .pv (.str x.top), .pv (.int .i64 x.version), .pv (.lst (x.loaded.map XLoaded.e)), .pv (.lst (x.machine.script.map XInstr.e)), .pv (.int .i64 x.machine.pc), .pv (.lst (x.machine.regs.map oV)), .pv (.int .i64 x.machine.steps), .pv (.bool x.machine.done), .pv (.bool x.machine.wait)]
abbrev XIndexDef.v (x:XIndexDef):V:= .agg [.pv (.str x.store), .pv (.str x.field)]
abbrev XDatabase.v (x:XDatabase):V:= .agg [.pv (.str x.name), .pv (.int .i64 x.version), .pv (.lst (x.stores.map XStore.e)), .pv (.lst (x.unique.map XIndexDef.e))]
abbrev XDisk.v (x:XDisk):V:= .agg [.pv (.str x.base.name), .pv (.int .i64 x.base.version), .pv (.lst (x.base.stores.map XStore.e)), .pv (.lst (x.base.unique.map XIndexDef.e)), .pv (.lst (ag x.log)), .pv (.int .i64 x.count)]
abbrev XBucket.v (x:XBucket):V:= .agg [.pv (.str x.site), .pv (.str x.top), .pv (.str x.reg.site), .pv (.int .i64 x.reg.installing), .pv (.int .i64 x.reg.waiting), .pv (.int .i64 x.reg.active), .pv (.lst (x.caches.caches.map XCache.e)), .pv (.str x.disk.base.name), .pv (.int .i64 x.disk.base.version), .pv (.lst (x.disk.base.stores.map XStore.e)), .pv (.lst (x.disk.base.unique.map XIndexDef.e)), .pv (.lst (ag x.disk.log)), .pv (.int .i64 x.disk.count), .pv (.str x.replica.base.name), .pv (.lst (x.replica.base.items.map XItem.e)), .pv (.int .i64 x.replica.base.auto), .pv (.int .i64 x.replica.seen), .pv (.int .i64 x.replica.sync.outbox.dev), .pv (.int .i64 x.replica.sync.outbox.next), .pv (.lst (x.replica.sync.outbox.writes.map XWrite.e)), .pv (.int .i64 x.replica.sync.tries), .pv (.int .i64 x.replica.sync.wait), .pv (.int .i64 x.lastUsed), .pv (.bool x.persistent)]
abbrev XStorage.v (x:XStorage):V:= .agg [.pv (.lst (x.buckets.map XBucket.e))]
abbrev XLock.v (x:XLock):V:= .agg [.pv (.str x.name), .pv (.int .i64 x.page), .pv (.bool x.shared), .pv (.bool x.held)]
abbrev XLockTable.v (x:XLockTable):V:= .agg [.pv (.lst (x.locks.map XLock.e))]
abbrev XMail.v (x:XMail):V:= .agg [.pv (.int .i64 x.to), .pv (.int .i64 x.sender), .pv (.int .i64 x.n)]
abbrev XChannel.v (x:XChannel):V:= .agg [.pv (.lst (x.mails.map XMail.e))]
abbrev XSite.v (x:XSite):V:= .agg [.pv (.str x.name), .pv (.int .i64 x.version), .pv (.lst (x.files.map xA)), .pv (.bool x.shared)]
abbrev XWorld.v (x:XWorld):V:= .agg [.pv (.int .i64 x.now), .pv (.bool x.online), .pv (.int .i64 x.device), .pv (.lst (x.storage.buckets.map XBucket.e)), .pv (.lst (x.pages.map XPage.e)), .pv (.int .i64 x.nextPage), .pv (.lst (x.locks.locks.map XLock.e)), .pv (.lst (x.channel.mails.map XMail.e)), .pv (.lst (x.sites.map XSite.e)), .pv (.lst (x.servers.map XServer.e))]
def cQ (a b:Int):Bool:=decide (a<b)
theorem VT (a b:Int):decide (a≤b)= !(cQ b a):=by unfold cQ;by_cases h:a≤b<;>simp[h]<;>omega
theorem hY {a b:Int}(h:a<b):cQ a b=true:=decide_eq_true h
theorem kQ {a b:Int}(h:b≤a):cQ a b=false:=decide_eq_false (by omega)
theorem Fo :∀(a b:List UInt8),(Op.bytesLess a b||a==b)= !(Op.bytesLess b a)
 |[],[]=>rfl
 |[],_::_=>rfl
 |_::_,[]=>rfl
 |a::xz,b::bs=>by
  have ih:=Fo xz bs
  simp only[Op.bytesLess]
  by_cases h1:a<b
  ·have h2:¬b<a:=fun h=>absurd (UInt8.lt_trans h1 h) (UInt8.lt_irrefl _)
   have h3:¬b=a:=fun h=>by subst h;exact absurd h1 (UInt8.lt_irrefl _)
   simp[h1,h2,h3]
  ·by_cases h2:b<a
   ·have h3:¬a=b:=fun h=>by subst h;exact absurd h2 (UInt8.lt_irrefl _)
    simp[h1,h2,h3]
   ·obtain rfl:a=b:=UInt8.le_antisymm (UInt8.not_lt.1 h2) (UInt8.not_lt.1 h1)
    simpa[UInt8.lt_irrefl]using ih
def iT (op:BinOp)(k:IntKind)(a b:Int):Option V:=
 match op with
 | .add=>some (aa k (k.wrap (a+b)))
 | .sub=>some (aa k (k.wrap (a-b)))
 | .mul=>some (aa k (k.wrap (a*b)))
 | .quo=>if b=0 then none else some (aa k (k.wrap (a.tdiv b)))
 | .rem=>if b=0 then none else some (aa k (a.tmod b))
 | .and=>some (aa k (k.wrap ((BitVec.ofInt k.bits a&&&BitVec.ofInt k.bits b).toNat)))
 | .or=>some (aa k (k.wrap ((BitVec.ofInt k.bits a|||BitVec.ofInt k.bits b).toNat)))
 | .eql=>some (av (a==b))
 | .neq=>some (av (!(a==b)))
 | .lss=>some (av (cQ a b))
 | .leq=>some (av (!(cQ b a)))
 | .gtr=>some (av (cQ b a))
 | .geq=>some (av (!(cQ a b)))
 |_=>none
theorem cC (op:BinOp)(k:IntKind)(a b:Int):bV op k a b=iT op k a b:=by cases op<;>simp only[bV,iT,VT]<;>rfl
def iU (op:BinOp)(a b:List UInt8):Option V:=
 match op with
 | .add=>if a.length+b.length≤9223372036854775807 then some (f9 (a++b))else none
 | .eql=>some (av (a==b))
 | .neq=>some (av (!(a==b)))
 | .lss=>some (av (Op.bytesLess a b))
 | .leq=>some (av (!(Op.bytesLess b a)))
 | .gtr=>some (av (Op.bytesLess b a))
 | .geq=>some (av (!(Op.bytesLess a b)))
 |_=>none
theorem cD (op:BinOp)(a b:List UInt8):je op a b=iU op a b:=by cases op<;>simp only[je,iU,Fo]<;>simp
theorem aE {n k:Nat}(hn:n≤maxLen)(hk:k<n):IntKind.i64.wrap ((k:Int)+1)=(k:Int)+1:=by
 unfold maxLen at hn;rw[IntKind.wrap_i64];omega
theorem aZ {n k:Nat}(h:k<n):cQ (k:Int) (n:Int)=true:=hY (by omega)
theorem fq (n:Nat):cQ (n:Int) (n:Int)=false:=kQ (Int.le_refl _)
theorem vQ {n k:Nat}(hn:n≤maxLen)(hk:k<n):(cQ 0 (k:Int)=true→IntKind.i64.wrap ((k:Int)-1)=((k-1:Nat):Int))∧k-1<n:=by
 refine⟨fun h=> ?_,by omega⟩
 have:=of_decide_eq_true h
 unfold maxLen at hn;rw[IntKind.wrap_i64];omega
variable {KI:KF}
structure DRel (w W:World) (b:Nat):Prop where
 os:W.os=w.os
 tape:W.tape=w.tape
 output:W.output=w.output
 size:w.heap.size≤W.heap.size
 block:∀k,k<w.heap.size→k≠b→W.heap[k]? =w.heap[k]?
theorem DRel.below {w W W':World}{b:Nat}(h:DRel w W b)(g:Below W.heap.size W W'):DRel w W' b:=
 ⟨g.os.trans h.os,g.tape.trans h.tape,g.output.trans h.output,Zc h.size g.size,fun k hk hb=>(g.block k (Z3 hk h.size)).trans (h.block k hk hb)⟩
theorem Below.drel {w W:World}{b:Nat}(g:Below w.heap.size w W):DRel w W b:=⟨g.os,g.tape,g.output,g.size,fun k hk _=>g.block k hk⟩
theorem gg.below {w W:World}{b:Nat}{cur:Array Value}(h:gg w b cur)(g:Below w.heap.size w W):gg W b cur:=by
 obtain⟨T,hT⟩:=h
 have hlt:b<w.heap.size:=by
  rcases Nat.lt_or_ge b w.heap.size with q|q
  ·exact q
  ·rw[Y7 q]at hT;cases hT
 exact⟨T,(g.block b hlt).trans hT⟩
def sa (p:Nat→Bool)(n:Nat):List Nat:=(List.range n).filter fun j=> !p j
theorem I8 (p:Nat→Bool)(n:Nat):sa p (n+1)=sa p n++(if p n then []else [n]):=by
 unfold sa
 rw[List.range_succ,List.filter_append]
 congr 1
 cases h:p n<;>simp[List.filter_cons,h]
theorem PS {p:Nat→Bool}{n:Nat}(h:∀j,j<n→p j=false):sa p n=List.range n:=by
 unfold sa
 rw[List.filter_eq_self]
 intro j hj
 rw[h j (by simpa using hj)];rfl
structure KInv (p:Nat→Bool) (z:Nat) (w wr:World) (b:Nat) (cur ck:Array Value) (i j:Nat):Prop where
 rel:DRel w wr b
 row:gg wr b ck
 size:ck.size=cur.size
 len:i=(sa p j).length
 lt:i<j
 low:∀(t u:Nat),(sa p j)[t]? =some u→∀q,q<z→ck[t*z+q]? =cur[u*z+q]?
 high:∀u,j*z≤u→ck[u]? =cur[u]?
theorem KInv.start {p:Nat→Bool}{z:Nat}{w wr:World}{b k:Nat}{cur:Array Value}(h:Below w.heap.size w wr)(hr:gg w b cur)(hk:p k=true)(hj:∀j,j<k→p j=false):KInv p z w wr b cur cur k (k+1):=by
 have e:sa p (k+1)=List.range k:=by rw[I8,PS hj,hk];simp
 refine⟨Below.drel h,gg.below hr h,rfl,by rw[e,List.length_range],by omega,fun t u ht q hq=> ?_,fun _ _=>rfl⟩
 rw[e]at ht
 obtain⟨h1,h2⟩:=Zb.1 ht
 simp at h2
 rw[h2]
theorem Fu {i j z:Nat}(h:i<j):i*z+z≤j*z:=by
 calc i*z+z=(i+1)*z:=by rw[Z7,Yv]
  _≤j*z:=Zx _ h
section
variable {p:Nat→Bool}{z:Nat}{w wr w2:World}{b i j:Nat}{cur ck:Array Value}
theorem KInv.skip (h:KInv p z w wr b cur ck i j)(hp:p j=true)(hd:Below wr.heap.size wr w2):KInv p z w w2 b cur ck i (j+1):=by
 have e:sa p (j+1)=sa p j:=by rw[I8,hp];simp
 refine⟨h.rel.below hd,h.row.below hd,h.size,by rw[e];exact h.len,Nat.lt_succ_of_lt h.lt,by rw[e];exact h.low,fun u hu=>h.high u ?_⟩
 have:=Fu (z:=z) (show j<j+1 by omega)
 omega
theorem KInv.keep (h:KInv p z w wr b cur ck i j)(hp:p j=false)(hd:Below wr.heap.size wr w2){vs:List Value}(hl:vs.length=z)(hv:∀q,q<z→vs[q]? =cur[j*z+q]?)(hj:j*z+z≤cur.size):∃ck',KInv p z w (w2.setCells b (i*z) vs) b cur ck' (i+1) (j+1):=by
 have e:sa p (j+1)=sa p j++[j]:=by rw[I8,hp];simp
 have hij:=Fu (z:=z) h.lt
 have hj1:=Fu (z:=z) (show j<j+1 by omega)
 obtain⟨ck',h1,h2,h3⟩:=de b vs (i*z) w2 ck (h.row.below hd) (by rw[hl,h.size];omega)
 have bel:=bN b 0 (Nat.zero_le _) vs (i*z) w2 w2 (Below.refl _ _)
 have d2:=h.rel.below hd
 refine⟨ck',⟨bel.os.trans d2.os,bel.tape.trans d2.tape,bel.output.trans d2.output,by rw[cr];exact d2.size,fun k hk hb=>(co b vs (i*z) w2 k hb).trans (d2.block k hk hb)⟩,h1,h2.trans h.size,by rw[e,Zu,←h.len];rfl,Nat.succ_lt_succ h.lt,fun t u htu q hq=> ?_,fun u hu=> ?_⟩
 ·rw[e]at htu
  rw[h3]
  by_cases ht:t<i
  ·rw[Ze (by rw[←h.len];exact ht)]at htu
   have:=DN ht hq
   rw[if_neg (by omega)]
   exact h.low t u htu q hq
  ·have htl:=(Zb.1 htu).1
   rw[Zu,←h.len]at htl
   simp only[Zn,Z8]at htl
   obtain rfl:t=i:=by omega
   rw[Zh (by rw[←h.len];exact Zl _),←h.len,Y4,Yz]at htu
   cases htu
   rw[if_pos ⟨by omega,by omega⟩,show t*z+q-t*z=q by omega]
   exact hv q hq
 ·rw[h3,if_neg (by omega)]
  exact h.high u (by omega)
theorem KInv.done (h:KInv p z w wr b cur ck i j){vs:List Value}(hl:vs.length=(j-i)*z)(hj:j*z≤cur.size):∃ck',gg (wr.setCells b (i*z) vs) b ck'∧ck'.size=cur.size∧DRel w (wr.setCells b (i*z) vs) b∧∀(t u:Nat),(sa p j)[t]? =some u→∀q,q<z→ck'[t*z+q]? =cur[u*z+q]? :=by
 have hm:i*z+(j-i)*z=j*z:=by rw[←Z7,show i+(j-i)=j by have:=h.lt;omega]
 obtain⟨ck',h1,h2,h3⟩:=de b vs (i*z) wr ck h.row (by rw[hl,h.size,hm];exact hj)
 have bel:=bN b 0 (Nat.zero_le _) vs (i*z) wr wr (Below.refl _ _)
 refine⟨ck',h1,h2.trans h.size,⟨bel.os.trans h.rel.os,bel.tape.trans h.rel.tape,bel.output.trans h.rel.output,by rw[cr];exact h.rel.size,fun k hk hb=>(co b vs (i*z) wr k hb).trans (h.rel.block k hk hb)⟩,fun t u htu q hq=> ?_⟩
 have ht:t<i:=by rw[h.len];exact(Zb.1 htu).1
 have:=DN ht hq
 rw[h3,if_neg (by omega)]
 exact h.low t u htu q hq
end
theorem He {zs:Array Value}{n:Nat}{P:Value→Prop}(h:∀v∈zs,P v)(hz:0<zs.size):∀v∈(Builtin.zeroCells zs n).toList,P v:=by
 intro v hv
 simp only[Builtin.zeroCells,Yj,Yo]at hv
 obtain⟨i,_,rfl⟩:=hv
 have hlt:=Nat.mod_lt i hz
 rw[getElem!_pos zs _ hlt]
 exact h _ (Array.getElem_mem hlt)
theorem Lt {P:Program}(w:World)(t e ty:TypeId)(zv:Value)(z:Nat)(ht:P.underlying t=some (.slice e))(hv:∀w,(zeroValue e).run P w= .ok zv w)(hz:zv.cells.size=z)(hz0:0<z)(h1:∀v∈zv.cells,v.oneCell'=true)(b o n c:Nat)(hn:0<n)
 (hc:∀j,j<n*z→(w.cell? ⟨b,o+j,none⟩).isSome=true) (hf:∀j,j<n*z→w.frozen? ⟨b,o+j,none⟩=false):
 (Builtin.clear_ #[t] ty #[.slice (some ⟨b,o,none⟩) n c]).run P w= .ok (.tuple #[]) (w.setCells b o (Builtin.zeroCells zv.cells n).toList):=by
 have hl:(Builtin.zeroCells zv.cells n).toList.length=n*z:=by rw[Yu,←hz];unfold Builtin.zeroCells;rw[Array.size_map,Array.size_range]
 have hst:=run_storeCells_cells (P:=P) b o (Builtin.zeroCells zv.cells n).toList 0 w (by rw[hl];simpa using hc) (by rw[hl];simpa using hf) (He h1 (by omega))
 simp only[Y1]at hst
 obtain⟨m,rfl⟩:∃m,n=m+1:=⟨n-1,by omega⟩
 simp[Builtin.clear_,run_underlying ht,hv,hst]
end Gi
namespace Gi
open Go Go.RowKit
mutual
def U1 :PTy→Bool
 | .lst ts=>decide (ts.length≤64)&&M4 ts
 |_=>true
def M4 :List PTy→Bool
 |[]=>true
 |t::ts=>U1 t&&M4 ts
end
mutual
theorem S8 (mT:Int→List UInt8):∀(p:PV)(t:PTy)(k:Int),nQ t p→U1 t=true→(kw mT p k).2≤k+1+64*(sz p:Int)
 | .int κ n,t,k,h,hn=>by simp only[kw,sz];omega
 | .bool b,t,k,h,hn=>by simp only[kw,sz];omega
 | .str s,t,k,h,hn=>by simp only[kw,sz];omega
 | .lst rows,t,k,h,hn=>by
  cases t with
  |lst ts=>
   simp only[U1,Zm,decide_eq_true_eq]at hn
   have:=zg mT rows ts k (aL h).2 hn.1 hn.2
   rw[ik]
   simp only[kw]
   omega
  |int κ=>simp[nQ]at h
  |bool=>simp[nQ]at h
  |str=>simp[nQ]at h
theorem Oh (mT:Int→List UInt8):∀(ps:List PV)(ts:List PTy)(k:Int),bi ts ps→M4 ts=true→(pw mT ps k).2≤k+ps.length+64*(fA ps:Int)
 |[],ts,k,h,hn=>by simp only[pw,fA,Z8];omega
 |p::ps,[],k,h,hn=>by simp[bi]at h
 |p::ps,t::ts,k,h,hn=>by
  simp only[M4,Zm]at hn
  have h1:nQ t p∧bi ts ps:=by simpa only[bi]using h
  have a:=S8 mT p t k h1.1 hn.1
  have b:=Oh mT ps ts (kw mT p k).2 h1.2 hn.2
  simp only[pw,fA,Zn]
  omega
theorem zg (mT:Int→List UInt8):∀(rows:List (List PV))(ts:List PTy)(k:Int),(∀r∈rows,bi ts r)→ts.length≤64→M4 ts=true→(bJ mT rows k).2≤k+64*((rows.length:Int)+(bI rows:Int))
 |[],ts,k,h,hl,hn=>by simp only[bJ,bI,Z8];omega
 |r::rows,ts,k,h,hl,hn=>by
  have hr:=h r (by simp)
  have a:=Oh mT r ts k hr hn
  have b:=zg mT rows ts (pw mT r k).2 (fun r m=>h r (by simp[m])) hl hn
  have:=jM hr
  simp only[bJ,bI,Zn]
  omega
end
theorem qK (mT:Int→List UInt8):∀(ps:List PV)(ts:List PTy)(k:Int),bi ts ps→M4 ts=true→(ft mT ps k).2≤k+64*(fA ps:Int)
 |[],ts,k,h,hn=>by simp only[ft,fA];omega
 |p::ps,[],k,h,hn=>by simp[bi]at h
 |p::ps,t::ts,k,h,hn=>by
  simp only[M4,Zm]at hn
  have h1:nQ t p∧bi ts ps:=by simpa only[bi]using h
  cases p with
  |lst rows=>
   cases t with
   |lst us=>
    have hn1:=hn.1
    simp only[U1,Zm,decide_eq_true_eq]at hn1
    have a:=zg mT rows us k (aL h1.1).2 hn1.1 hn1.2
    have b:=qK mT ps ts (bJ mT rows k).2 h1.2 hn.2
    simp only[ft,fA,ik]
    omega
   |int κ=>simp[nQ]at h1
   |bool=>simp[nQ]at h1
   |str=>simp[nQ]at h1
  |int κ n=>have b:=qK mT ps ts k h1.2 hn.2;simp only[ft,fA];omega
  |bool c=>have b:=qK mT ps ts k h1.2 hn.2;simp only[ft,fA];omega
  |str s=>have b:=qK mT ps ts k h1.2 hn.2;simp only[ft,fA];omega
theorem Ov {ts:List PTy}{ps:List PV}(h:bi ts ps):(gD ts ps).map di=ps.map .pv:=by
 refine f4 (P:=fun ts ps=>(gD ts ps).map di=ps.map .pv) rfl ?_ ?_ ts ps h
 ·intro us rows ts ps _ _ ih
  cases rows<;>simp only[gD,mS,Zv,di,ih]
 ·intro t p ts ps h1 ht hp _ ih
  simp only[gD,yC ht h1,Zv,di,ih]
theorem HU {ts:List PTy}{ps:List PV}(h:bi ts ps)(hh:List AObj):m8 hh (.agg (gD ts ps))=(.agg (jr hh.length ts ps),hh++gX ts ps):=by
 have key:∀(ts:List PTy)(ps:List PV),bi ts ps→∀hh:List AObj,∃ds,thawL hh (gD ts ps)=(jr hh.length ts ps,hh++ds)∧ds.map AObj.zone=gX ts ps:=by
  refine f4 ?_ ?_ ?_
  ·intro hh;exact⟨[],by simp[gD,thawL,jr],rfl⟩
  ·intro us rows ts ps _ _ ih hh
   cases rows with
   |nil=>
    obtain⟨ds,e1,e2⟩:=ih (hh++[.arr us.length []])
    refine⟨.arr us.length []::ds,?_,by simp only[Zv,e2,AObj.zone,gX]⟩
    simp only[gD,mS,thawL,e1,jr,Zu,Z6,Zo,Zf,Zi]
   |cons r rows=>
    obtain⟨ds,e1,e2⟩:=ih (hh++[.darr us.length (r::rows)])
    refine⟨.darr us.length (r::rows)::ds,?_,by simp only[Zv,e2,AObj.zone,gX]⟩
    simp only[gD,mS,thawL,e1,jr,Zu,Z6,Zo,Zf,Zi]
  ·intro t p ts ps h1 ht hp _ ih hh
   obtain⟨ds,e1,e2⟩:=ih hh
   refine⟨ds,?_,by rw[e2,ig ht]⟩
   simp only[gD,yC ht h1]
   rw[me ht]
   simp only[thawL,e1]
 obtain⟨ds,e1,_⟩:=key ts ps h hh
 obtain⟨ds',f1,f2⟩:=key ts ps h []
 simp only[m8,thaw,e1,f1,Zi,f2]
end Gi
namespace Gi
open Go Go.RowKit
set_option maxHeartbeats 8000000
set_option maxRecDepth 8000
attribute [local simp] start fL aq ai az aK bj cf Opd.ev put V.cells plain bo gn isInt isStr isBool bin bV un asList L.view am V.view viewL aY ar bQ bM comp aJ bH al V.flat L.flat dO di bv putAt freezeVs freezeLs freezeL V.mut L.mut lent AObj.unz L.unsub qc tf jO tw kH wg PV.bare PV.flat jK dE thaw thawL AObj.zone ij ul ET gM qd P0 Up P1 MS.ts gT gS gF eU gE
def ln (z:Nat):List (List PV)→L
 |[]=> .pv (.lst [])
 |r::rs=> .down z (r::rs)
def oz (z:Nat)(rows rows':List (List PV)):List (Bool×List L):=match rows with
 |[]=>[]
 |_::_=>[(false,[.down z rows'])]
theorem tx (z:Nat)(c:List (List PV)):(c=[]∧nd z c= .nil∧ln z c= .pv (.lst [])∧(∀r,oz z c r=[])∧xv z c= .nil)∨(c≠[]∧nd z c= .down z c∧ln z c= .down z c∧(∀r,oz z c r=[(false,[.down z r])])∧xv z c= .own z c):=by
 cases c with
 |nil=>exact .inl ⟨rfl,rfl,rfl,fun _=>rfl,rfl⟩
 |cons r rs=>exact .inr ⟨by simp,rfl,rfl,fun _=>rfl,rfl⟩
def qs (c3 c4 c6 c7 c8 c9:List (List PV))(k:Int):List (List (List PV)×Int):=
 let q3:=bJ aj c3 k
 let q4:=bJ aj c4 q3.2
 let q6:=bJ aj c6 q4.2
 let q7:=bJ aj c7 q6.2
 let q8:=bJ aj c8 q7.2
 let q9:=bJ aj c9 q8.2
 [q3,q4,q6,q7,q8,q9]
theorem tz (k:Int):ah Ph au (426+hZ) [.agg [.pv (.lst [])],aa .i64 k]=some (.tup [(false,[.pv (.int .i64 k)])]):=by
 have c:=(uK (ext:=au)).1 k
 refine nZ (fn:=lL) rfl rfl rfl ?_
 simp[lL,c]
theorem VU {c0 c2 c5:Int}{on:Bool}{c3 c4 c6 c7 c8 c9:List (List PV)}(h:bi dh [.int .i64 c0, .bool on, .int .i64 c2, .lst c3, .lst c4, .int .i64 c5, .lst c6, .lst c7, .lst c8, .lst c9]){k:Int}(k0:0≤k)(hk:(bJ aj c9 (bJ aj c8 (bJ aj c7 (bJ aj c6 (bJ aj c4 (bJ aj c3 k).2).2).2).2).2).2≤sE):
 ah Ph au (420+hZ) [.agg [.pv (.int .i64 c0), .pv (.bool on), .pv (.int .i64 c2),ln 24 c3, .down 11 c4, .pv (.int .i64 c5), .down 4 c6, .down 3 c7,ln 4 c8,ln 5 c9],aa .i64 k]=some (.tup ((false,[.pv (.int .i64 (bJ aj c9 (bJ aj c8 (bJ aj c7 (bJ aj c6 (bJ aj c4 (bJ aj c3 k).2).2).2).2).2).2)])::(oz 24 c3 (bJ aj c3 k).1++((false,[.down 11 (bJ aj c4 (bJ aj c3 k).2).1])::(false,[.down 4 (bJ aj c6 (bJ aj c4 (bJ aj c3 k).2).2).1])::(false,[.down 3 (bJ aj c7 (bJ aj c6 (bJ aj c4 (bJ aj c3 k).2).2).2).1])::(oz 4 c8 (bJ aj c8 (bJ aj c7 (bJ aj c6 (bJ aj c4 (bJ aj c3 k).2).2).2).2).1++oz 5 c9 (bJ aj c9 (bJ aj c8 (bJ aj c7 (bJ aj c6 (bJ aj c4 (bJ aj c3 k).2).2).2).2).2).1))))):=by
 simp only[dh,bi]at h
 obtain⟨_,_,_,g3,g4,_,g6,g7,g8,g9,_⟩:=h
 have l3:=jX (mT:=aj) c3 k
 have l4:=jX (mT:=aj) c4 (bJ aj c3 k).2
 have l6:=jX (mT:=aj) c6 (bJ aj c4 (bJ aj c3 k).2).2
 have l7:=jX (mT:=aj) c7 (bJ aj c6 (bJ aj c4 (bJ aj c3 k).2).2).2
 have l8:=jX (mT:=aj) c8 (bJ aj c7 (bJ aj c6 (bJ aj c4 (bJ aj c3 k).2).2).2).2
 have l9:=jX (mT:=aj) c9 (bJ aj c8 (bJ aj c7 (bJ aj c6 (bJ aj c4 (bJ aj c3 k).2).2).2).2).2
 have s3:ah Ph au (426+hZ) [.agg [ln 24 c3],aa .i64 k]=some (.tup ((false,[.pv (.int .i64 (bJ aj c3 k).2)])::oz 24 c3 (bJ aj c3 k).1)):=by
  cases c3 with
  |nil=>exact tz k
  |cons r rs=>exact qe (ext:=au) [.lst (r::rs)] ⟨g3,trivial⟩ k k0 (by show(bJ aj (r::rs) k).2≤sE;omega)
 have s4:ah Ph au (427+hZ) [.one (.down 11 c4),aa .i64 (bJ aj c3 k).2]=some (.tup [(false,[.pv (.int .i64 (bJ aj c4 (bJ aj c3 k).2).2)]),(false,[.down 11 (bJ aj c4 (bJ aj c3 k).2).1])]):=(tb (ext:=au)).2 c4 g4 _ (by omega) (by omega)
 have s6:ah Ph au (428+hZ) [.agg [.down 4 c6],aa .i64 (bJ aj c4 (bJ aj c3 k).2).2]=some (.tup [(false,[.pv (.int .i64 (bJ aj c6 (bJ aj c4 (bJ aj c3 k).2).2).2)]),(false,[.down 4 (bJ aj c6 (bJ aj c4 (bJ aj c3 k).2).2).1])]):=sh (ext:=au) [.lst c6] ⟨g6,trivial⟩ _ (by omega) (by show(bJ aj c6 _).2≤sE;omega)
 have s7:ah Ph au (429+hZ) [.agg [.down 3 c7],aa .i64 (bJ aj c6 (bJ aj c4 (bJ aj c3 k).2).2).2]=some (.tup [(false,[.pv (.int .i64 (bJ aj c7 (bJ aj c6 (bJ aj c4 (bJ aj c3 k).2).2).2).2)]),(false,[.down 3 (bJ aj c7 (bJ aj c6 (bJ aj c4 (bJ aj c3 k).2).2).2).1])]):=uL (ext:=au) [.lst c7] ⟨g7,trivial⟩ _ (by omega) (by show(bJ aj c7 _).2≤sE;omega)
 have s8:ah Ph au (430+hZ) [.one (ln 4 c8),aa .i64 (bJ aj c7 (bJ aj c6 (bJ aj c4 (bJ aj c3 k).2).2).2).2]=some (.tup ((false,[.pv (.int .i64 (bJ aj c8 (bJ aj c7 (bJ aj c6 (bJ aj c4 (bJ aj c3 k).2).2).2).2).2)])::oz 4 c8 (bJ aj c8 (bJ aj c7 (bJ aj c6 (bJ aj c4 (bJ aj c3 k).2).2).2).2).1)):=by
  cases c8 with
  |nil=>exact(mR (ext:=au)).1 _
  |cons r rs=>exact(mR (ext:=au)).2 (r::rs) g8 _ (by omega) (by omega)
 have s9:ah Ph au (431+hZ) [.one (ln 5 c9),aa .i64 (bJ aj c8 (bJ aj c7 (bJ aj c6 (bJ aj c4 (bJ aj c3 k).2).2).2).2).2]=some (.tup ((false,[.pv (.int .i64 (bJ aj c9 (bJ aj c8 (bJ aj c7 (bJ aj c6 (bJ aj c4 (bJ aj c3 k).2).2).2).2).2).2)])::oz 5 c9 (bJ aj c9 (bJ aj c8 (bJ aj c7 (bJ aj c6 (bJ aj c4 (bJ aj c3 k).2).2).2).2).2).1)):=by
  cases c9 with
  |nil=>exact(jW (ext:=au)).1 _
  |cons r rs=>exact(jW (ext:=au)).2 (r::rs) g9 _ (by omega) (by omega)
 clear hk k0 g3 g4 g6 g7 g8 g9 l3 l4 l6 l7 l8 l9
 generalize bJ aj c3 k=q3 at s3 s4 s6 s7 s8 s9⊢
 generalize bJ aj c4 q3.2=q4 at s4 s6 s7 s8 s9⊢
 generalize bJ aj c6 q4.2=q6 at s6 s7 s8 s9⊢
 generalize bJ aj c7 q6.2=q7 at s7 s8 s9⊢
 generalize bJ aj c8 q7.2=q8 at s8 s9⊢
 generalize bJ aj c9 q8.2=q9 at s9⊢
 rcases tx 24 c3 with⟨_,_,u3,v3,_⟩|⟨_,_,u3,v3,_⟩<;>rcases tx 4 c8 with⟨_,_,u8,v8,_⟩|⟨_,_,u8,v8,_⟩<;>rcases tx 5 c9 with⟨_,_,u9,v9,_⟩|⟨_,_,u9,v9,_⟩<;>simp only[u3,v3,u8,v8,u9,v9]at s3 s8 s9⊢ <;>(refine nZ (fn:=iG) rfl rfl rfl ?_;simp[iG,s3,s4,s6,s7,s8,s9])
def WR (c0:Int)(c1:Bool)(c2:Int)(c3 c4:List (List PV))(c5:Int)(c6 c7 c8 c9:List (List PV)):List PV:=[.int .i64 c0, .bool c1, .int .i64 c2, .lst c3, .lst c4, .int .i64 c5, .lst c6, .lst c7, .lst c8, .lst c9]
def WP (c0:Int)(c1:Bool)(c2:Int)(c3 c4:List (List PV))(c5:Int)(c6 c7 c8 c9:List (List PV)):List L:=[.pv (.int .i64 c0), .pv (.bool c1), .pv (.int .i64 c2), .pv (.lst c3), .pv (.lst c4), .pv (.int .i64 c5), .pv (.lst c6), .pv (.lst c7), .pv (.lst c8), .pv (.lst c9)]
theorem Ja (k:Int):bJ aj [] k=([],k):=rfl
end Gi
