/- Of this proof. -/
import Derived.Test.YtgmnakghjemjlabGreatGsr
import Derived.Test.YtgmnakghjemjlabGreatGxt
import Derived.Lib.Bytealg
import Derived.Test.YtgmnakghjemjlabGreatGpr
set_option linter.unusedSimpArgs false
set_option linter.unusedVariables false
namespace Gi
open Go Go.RowKit
set_option maxHeartbeats 4000000
set_option maxRecDepth 4000
def aE :Nat→List V→Option V:=fun k xz=>match k,xz with
 |363,[.one (.pv (.str a)), .one (.pv (.str b))]=>some (aa .i64 (Lib.compareBytes a b))
 |_,_=>none
theorem aT :k9 (ag Ph aE):=KB fun k xz r h=>by
 unfold aE at h
 split at h
 ·cases h;rfl
 ·cases h
theorem oe {a b:List UInt8}:iB .neq a b=some (au (!(a==b))):=rfl
theorem od {a b:List UInt8}:iB .eql a b=some (au (a==b)):=rfl
theorem bX :IntKind.i64.wrap 1=1:=by rw[IntKind.wrap_i64];rfl
theorem mZ {j n:Nat}(hn:n≤maxLen)(hj:j+1<n):IntKind.i64.wrap ((j:Int)+1+1)=(j:Int)+1+1∧IntKind.i64.wrap (j:Int)=(j:Int)∧(0:Int)<(j:Int)+1∧(0:Int)≤(j:Int)+1∧((j:Int)+1).toNat=j+1∧(j:Int)+1<(n:Int):=by
 unfold maxLen at hn
 refine⟨?_,?_,by omega,by omega,by omega,by omega⟩<;>rw[IntKind.wrap_i64]<;>omega
theorem eF {m z:Nat}(hm:m≤4194304)(hz:z≤4096):m*z≤140737488355328∧m≤9223372036854775807∧m≤9223372036854775806∧m<9223372036854775807:=by
 refine⟨?_,by omega,by omega,by omega⟩
 calc m*z≤4194304*4096:=Nat.mul_le_mul hm hz
  _≤140737488355328:=by decide
theorem bW {α:Type}{e:α→List PV}{xs:List α}{k:Nat}(hk:k<xs.length):(xs.map e).take (k+1)=(xs.map e).take k++[e xs[k]]:=by
 rw[List.take_succ_eq_append_getElem (by simpa using hk)];simp
theorem dH {α:Type}{e:α→List PV}(h:∀x,(e x).all PV.flat=true)(xs:List α):lP (xs.map e)=true:=by
 simp only[lP,List.all_map,List.all_eq_true,Function.comp];exact fun x _=>by simpa[List.all_eq_true]using h x
theorem dC {α:Type}{e:α→List PV}{z:Nat}(h:∀x,(e x).length=z)(xs:List α):((xs.map e).all fun r=>r.length==z)=true:=by
 simp only[List.all_map,List.all_eq_true,Function.comp,beq_iff_eq];exact fun x _=>h x
theorem oR (s:List UInt8):lP (am s)=true:=dH (e:=fun b:UInt8=>[PV.int .u8 b.toNat]) (fun _=>rfl) s
theorem iP (s:List UInt8):((am s).all fun r=>r.length==1)=true:=dC (e:=fun b:UInt8=>[PV.int .u8 b.toNat]) (z:=1) (fun _=>rfl) s
def nd (z:Nat):List (List PV)→L
 |[]=> .nil
 |r::rs=> .down z (r::rs)
def A8 (z:Nat):List (List PV)→L
 |[]=> .nil
 |r::rs=> .own z (r::rs)
def qL :List (List PV)→L
 |[]=> .nil
 |r::rs=> .pv (.lst (r::rs))
theorem eG (z:Nat)(rows:List (List PV)):(rows=[]∧nd z rows= .nil)∨(rows≠[]∧nd z rows= .down z rows):=by
 cases rows with
 |nil=>exact .inl ⟨rfl,rfl⟩
 |cons r rs=>exact .inr ⟨by simp,rfl⟩
theorem bV {z:Nat}{rows:List (List PV)}:dk (nd z rows)=qL rows:=by cases rows<;>rfl
theorem bJ {z:Nat}{rows:List (List PV)}:dk (A8 z rows)=qL rows:=by cases rows<;>rfl
theorem bI {rows:List (List PV)}:dk (qL rows)=qL rows:=by cases rows<;>rfl
theorem bx {h:List AObj}{rows:List (List PV)}:L.view h (qL rows)=some (.lst rows):=by cases rows<;>rfl
theorem bc {rows:List (List PV)}:plain (qL rows)=true:=by cases rows<;>rfl
theorem bU {h:List AObj}{rows:List (List PV)}:L.mut h (qL rows)=false:=by cases rows<;>rfl
theorem aO {h:List AObj}{rows:List (List PV)}:freezeL h (qL rows)=h:=by cases rows<;>rfl
theorem bH {h:List AObj}{rows:List (List PV)}:bu h (qL rows)=some (qL rows):=by cases rows<;>rfl
theorem aS {f:List Nat}{rows:List (List PV)}:(qL rows).ren f=some (qL rows):=by cases rows<;>rfl
theorem aX {o:Nat}{rows:List (List PV)}:L.notArr o (qL rows)=true:=by cases rows<;>rfl
theorem bG {rows:List (List PV)}:L.flat (qL rows)=false:=by cases rows<;>rfl
theorem bK {h:List AObj}{rows:List (List PV)}{ls:List L}:thawL h (qL rows::ls)=((qL rows::(thawL h ls).1),(thawL h ls).2):=by cases rows<;>rfl
theorem dz :ai []=[]:=rfl
theorem cr {p:PV}{ls:List L}:ai (.pv p::ls)=ai ls:=rfl
theorem bD {ls:List L}:ai (.nil::ls)=ai ls:=rfl
theorem bB {o:Nat}{ls:List L}:ai (.arr o::ls)=o::ai ls:=rfl
theorem bC {rows:List (List PV)}{ls:List L}:ai (qL rows::ls)=ai ls:=by cases rows<;>rfl
theorem Kn.q (f:List Nat){t t':List V}{h h':List AObj}(ho:bi f h' f h:=by simp[aR,aP,aQ,dY,bp,aN,be,aG,dv,bM,bi,bS,L.ren,aS])(ht:aN f t t':=by simp[aR,aP,aQ,dY,bp,aN,be,aG,dv,bM,bi,bS,L.ren,aS])(nd:f.Nodup:=by decide):Kn ⟨t,h⟩ ⟨t',h'⟩:=Kn.of f nd ho ht
def iK :List AObj→Nat→List Nat
 |[],_=>[]
 |_::r,k=>k::iK r (k+1)
theorem LC :∀{h:List AObj}{k x:Nat},x∈iK h k→k≤x
 |_::_,_,_,h=>by
  rcases List.mem_cons.1 h with rfl|h
  ·exact Nat.le_refl _
  ·have:=LC h;omega
theorem D4 :∀(h:List AObj)(k:Nat),(iK h k).Nodup
 |[],_=>List.nodup_nil
 |_::r,k=>List.nodup_cons.2 ⟨fun h=>by have:=LC h;omega,D4 r (k+1)⟩
theorem cG {t t':List V}{h h':List AObj}(hh:bi (iK h 0) h' (iK h 0) h∧aN (iK h 0) t t'):Kn ⟨t,h⟩ ⟨t',h'⟩:=Kn.of _ (D4 h 0) hh.1 hh.2
theorem f5 {p:PV}:L.ow (.pv p)= .pv p:=rfl
theorem dW :L.ow .nil= .nil:=rfl
theorem dX {z:Nat}{rows:List (List PV)}:L.ow (.own z rows)= .own z rows:=rfl
theorem cV {z:Nat}{rows:List (List PV)}:L.ow (.down z rows)= .own z rows:=rfl
theorem f4 {z:Nat}{rows:List (List PV)}:L.ow (nd z rows)=A8 z rows:=by cases rows<;>rfl
theorem cW {z:Nat}{rows:List (List PV)}:L.ow (A8 z rows)=A8 z rows:=by cases rows<;>rfl
theorem dV {rows:List (List PV)}:L.ow (qL rows)=qL rows:=by cases rows<;>rfl
theorem Bz (z:Nat)(rows:List (List PV)):(rows=[]∧nd z rows= .nil∧A8 z rows= .nil)∨(rows≠[]∧nd z rows= .down z rows∧A8 z rows= .own z rows):=by
 cases rows with
 |nil=>exact .inl ⟨rfl,rfl,rfl⟩
 |cons r rs=>exact .inr ⟨by simp,rfl,rfl⟩
abbrev XKey.v (x:XKey):V:= .agg [.pv (.int .i64 x.kind), .pv (.int .i64 x.n), .pv (.str x.text)]
abbrev XField.v (x:XField):V:= .agg [.pv (.str x.name), .pv (.int .i64 x.n)]
abbrev XRecord.v (x:XRecord):V:= .agg [.pv (.lst (x.fs.map XField.e))]
abbrev XItem.v (x:XItem):V:= .agg [.pv (.int .i64 x.key.kind), .pv (.int .i64 x.key.n), .pv (.str x.key.text), .pv (.lst (x.rcd.fs.map XField.e))]
abbrev XStore.v (x:XStore):V:= .agg [.pv (.str x.name), .pv (.lst (x.items.map XItem.e)), .pv (.int .i64 x.auto)]
abbrev XWrite.v (x:XWrite):V:= .agg [.pv (.int .i64 x.dev), .pv (.int .i64 x.seq), .pv (.int .i64 x.key.kind), .pv (.int .i64 x.key.n), .pv (.str x.key.text), .pv (.str x.field), .pv (.int .i64 x.n)]
abbrev XApplied.v (x:XApplied):V:= .agg [.pv (.int .i64 x.dev), .pv (.int .i64 x.seq)]
abbrev XServer.v (x:XServer):V:= .agg [.pv (.str x.store.name), .pv (.lst (x.store.items.map XItem.e)), .pv (.int .i64 x.store.auto), .pv (.lst (x.applied.map XApplied.e)), .pv (.lst (x.changes.map XWrite.e))]
abbrev XOutbox.v (x:XOutbox):V:= .agg [.pv (.int .i64 x.dev), .pv (.int .i64 x.next), .pv (.lst (x.writes.map XWrite.e))]
abbrev XSync.v (x:XSync):V:= .agg [.pv (.int .i64 x.outbox.dev), .pv (.int .i64 x.outbox.next), .pv (.lst (x.outbox.writes.map XWrite.e)), .pv (.int .i64 x.tries), .pv (.int .i64 x.wait)]
abbrev XReplica.v (x:XReplica):V:= .agg [.pv (.str x.base.name), .pv (.lst (x.base.items.map XItem.e)), .pv (.int .i64 x.base.auto), .pv (.int .i64 x.seen), .pv (.int .i64 x.sync.outbox.dev), .pv (.int .i64 x.sync.outbox.next), .pv (.lst (x.sync.outbox.writes.map XWrite.e)), .pv (.int .i64 x.sync.tries), .pv (.int .i64 x.sync.wait)]
abbrev XResponse.v (x:XResponse):V:= .agg [.pv (.int .i64 x.type), .pv (.int .i64 x.status), .pv (.int .i64 x.version), .pv (.lst (am x.body)), .pv (.bool x.shares)]
abbrev XCached.v (x:XCached):V:= .agg [.pv (.str x.site), .pv (.str x.path), .pv (.int .i64 x.resp.type), .pv (.int .i64 x.resp.status), .pv (.int .i64 x.resp.version), .pv (.lst (am x.resp.body)), .pv (.bool x.resp.shares)]
abbrev XCache.v (x:XCache):V:= .agg [.pv (.int .i64 x.version), .pv (.lst (x.entries.map XCached.e))]
abbrev XCacheSet.v (x:XCacheSet):V:= .agg [.pv (.lst (x.caches.map XCache.e))]
abbrev XRegistration.v (x:XRegistration):V:= .agg [.pv (.str x.site), .pv (.int .i64 x.installing), .pv (.int .i64 x.waiting), .pv (.int .i64 x.active)]
abbrev XLoaded.v (x:XLoaded):V:= .agg [.pv (.str x.path), .pv (.int .i64 x.version)]
abbrev XInstr.v (x:XInstr):V:= .agg [.pv (.int .i64 x.kind), .pv (.int .i64 x.r), .pv (.int .i64 x.n), .pv (.str x.text)]
abbrev XMachine.v (x:XMachine):V:= .agg [.pv (.lst (x.script.map XInstr.e)), .pv (.int .i64 x.pc), .pv (.lst (x.regs.map tC)), .pv (.int .i64 x.steps), .pv (.bool x.done), .pv (.bool x.wait)]
abbrev XPage.v (x:XPage):V:= .agg [.pv (.int .i64 x.id), .pv (.str x.site), .pv (.str x.top), .pv (.int .i64 x.version), .pv (.lst (x.loaded.map XLoaded.e)), .pv (.lst (x.machine.script.map XInstr.e)), .pv (.int .i64 x.machine.pc), .pv (.lst (x.machine.regs.map tC)), .pv (.int .i64 x.machine.steps), .pv (.bool x.machine.done), .pv (.bool x.machine.wait)]
abbrev XIndexDef.v (x:XIndexDef):V:= .agg [.pv (.str x.store), .pv (.str x.field)]
abbrev XDatabase.v (x:XDatabase):V:= .agg [.pv (.str x.name), .pv (.int .i64 x.version), .pv (.lst (x.stores.map XStore.e)), .pv (.lst (x.unique.map XIndexDef.e))]
abbrev XDisk.v (x:XDisk):V:= .agg [.pv (.str x.base.name), .pv (.int .i64 x.base.version), .pv (.lst (x.base.stores.map XStore.e)), .pv (.lst (x.base.unique.map XIndexDef.e)), .pv (.lst (am x.log)), .pv (.int .i64 x.count)]
abbrev XBucket.v (x:XBucket):V:= .agg [.pv (.str x.site), .pv (.str x.top), .pv (.str x.reg.site), .pv (.int .i64 x.reg.installing), .pv (.int .i64 x.reg.waiting), .pv (.int .i64 x.reg.active), .pv (.lst (x.caches.caches.map XCache.e)), .pv (.str x.disk.base.name), .pv (.int .i64 x.disk.base.version), .pv (.lst (x.disk.base.stores.map XStore.e)), .pv (.lst (x.disk.base.unique.map XIndexDef.e)), .pv (.lst (am x.disk.log)), .pv (.int .i64 x.disk.count), .pv (.str x.replica.base.name), .pv (.lst (x.replica.base.items.map XItem.e)), .pv (.int .i64 x.replica.base.auto), .pv (.int .i64 x.replica.seen), .pv (.int .i64 x.replica.sync.outbox.dev), .pv (.int .i64 x.replica.sync.outbox.next), .pv (.lst (x.replica.sync.outbox.writes.map XWrite.e)), .pv (.int .i64 x.replica.sync.tries), .pv (.int .i64 x.replica.sync.wait), .pv (.int .i64 x.lastUsed), .pv (.bool x.persistent)]
abbrev XStorage.v (x:XStorage):V:= .agg [.pv (.lst (x.buckets.map XBucket.e))]
abbrev XLock.v (x:XLock):V:= .agg [.pv (.str x.name), .pv (.int .i64 x.page), .pv (.bool x.shared), .pv (.bool x.held)]
abbrev XLockTable.v (x:XLockTable):V:= .agg [.pv (.lst (x.locks.map XLock.e))]
abbrev XMail.v (x:XMail):V:= .agg [.pv (.int .i64 x.to), .pv (.int .i64 x.sender), .pv (.int .i64 x.n)]
abbrev XChannel.v (x:XChannel):V:= .agg [.pv (.lst (x.mails.map XMail.e))]
abbrev XSite.v (x:XSite):V:= .agg [.pv (.str x.name), .pv (.int .i64 x.version), .pv (.lst (x.files.map nI)), .pv (.bool x.shared)]
abbrev XWorld.v (x:XWorld):V:= .agg [.pv (.int .i64 x.now), .pv (.bool x.online), .pv (.int .i64 x.device), .pv (.lst (x.storage.buckets.map XBucket.e)), .pv (.lst (x.pages.map XPage.e)), .pv (.int .i64 x.nextPage), .pv (.lst (x.locks.locks.map XLock.e)), .pv (.lst (x.channel.mails.map XMail.e)), .pv (.lst (x.sites.map XSite.e)), .pv (.lst (x.servers.map XServer.e))]
def dA (a b:Int):Bool:=decide (a<b)
theorem R4 (a b:Int):decide (a≤b)= !(dA b a):=by unfold dA;by_cases h:a≤b<;>simp[h]<;>omega
theorem lY {a b:Int}(h:a<b):dA a b=true:=decide_eq_true h
theorem ud {a b:Int}(h:b≤a):dA a b=false:=decide_eq_false (by omega)
theorem De :∀(a b:List UInt8),(Op.bytesLess a b||a==b)= !(Op.bytesLess b a)
 |[],[]=>rfl
 |[],_::_=>rfl
 |_::_,[]=>rfl
 |a::xz,b::bs=>by
  have ih:=De xz bs
  simp only[Op.bytesLess]
  by_cases h1:a<b
  ·have h2:¬b<a:=fun h=>absurd (UInt8.lt_trans h1 h) (UInt8.lt_irrefl _)
   have h3:¬b=a:=fun h=>by subst h;exact absurd h1 (UInt8.lt_irrefl _)
   simp[h1,h2,h3]
  ·by_cases h2:b<a
   ·have h3:¬a=b:=fun h=>by subst h;exact absurd h2 (UInt8.lt_irrefl _)
    simp[h1,h2,h3]
   ·obtain rfl:a=b:=UInt8.le_antisymm (UInt8.not_lt.1 h2) (UInt8.not_lt.1 h1)
    simpa[UInt8.lt_irrefl]using ih
def jF (op:BinOp)(k:IntKind)(a b:Int):Option V:=
 match op with
 | .add=>some (aa k (k.wrap (a+b)))
 | .sub=>some (aa k (k.wrap (a-b)))
 | .mul=>some (aa k (k.wrap (a*b)))
 | .quo=>if b=0 then none else some (aa k (k.wrap (a.tdiv b)))
 | .rem=>if b=0 then none else some (aa k (a.tmod b))
 | .and=>some (aa k (k.wrap ((BitVec.ofInt k.bits a&&&BitVec.ofInt k.bits b).toNat)))
 | .or=>some (aa k (k.wrap ((BitVec.ofInt k.bits a|||BitVec.ofInt k.bits b).toNat)))
 | .eql=>some (au (a==b))
 | .neq=>some (au (!(a==b)))
 | .lss=>some (au (dA a b))
 | .leq=>some (au (!(dA b a)))
 | .gtr=>some (au (dA b a))
 | .geq=>some (au (!(dA a b)))
 |_=>none
theorem cT (op:BinOp)(k:IntKind)(a b:Int):bN op k a b=jF op k a b:=by cases op<;>simp only[bN,jF,R4]<;>rfl
def jG (op:BinOp)(a b:List UInt8):Option V:=
 match op with
 | .add=>if a.length+b.length≤9223372036854775807 then some (fM (a++b))else none
 | .eql=>some (au (a==b))
 | .neq=>some (au (!(a==b)))
 | .lss=>some (au (Op.bytesLess a b))
 | .leq=>some (au (!(Op.bytesLess b a)))
 | .gtr=>some (au (Op.bytesLess b a))
 | .geq=>some (au (!(Op.bytesLess a b)))
 |_=>none
theorem cU (op:BinOp)(a b:List UInt8):iB op a b=jG op a b:=by cases op<;>simp only[iB,jG,De]<;>simp
theorem aF {n k:Nat}(hn:n≤maxLen)(hk:k<n):IntKind.i64.wrap ((k:Int)+1)=(k:Int)+1:=by
 unfold maxLen at hn;rw[IntKind.wrap_i64];omega
theorem aY {n k:Nat}(h:k<n):dA (k:Int) (n:Int)=true:=lY (by omega)
theorem fZ (n:Nat):dA (n:Int) (n:Int)=false:=ud (Int.le_refl _)
theorem tN {n k:Nat}(hn:n≤maxLen)(hk:k<n):(dA 0 (k:Int)=true→IntKind.i64.wrap ((k:Int)-1)=((k-1:Nat):Int))∧k-1<n:=by
 refine⟨fun h=> ?_,by omega⟩
 have:=of_decide_eq_true h
 unfold maxLen at hn;rw[IntKind.wrap_i64];omega
mutual
def Re :PTy→Bool
 | .lst ts=>decide (ts.length≤64)&&J9 ts
 |_=>true
def J9 :List PTy→Bool
 |[]=>true
 |t::ts=>Re t&&J9 ts
end
mutual
theorem Ps (mT:Int→List UInt8):∀(p:PV)(t:PTy)(k:Int),nE t p→Re t=true→(jQ mT p k).2≤k+1+64*(sz p:Int)
 | .int κ n,t,k,h,hn=>by simp only[jQ,sz];omega
 | .bool b,t,k,h,hn=>by simp only[jQ,sz];omega
 | .str s,t,k,h,hn=>by simp only[jQ,sz];omega
 | .lst rows,t,k,h,hn=>by
  cases t with
  |lst ts=>
   simp only[Re,Bool.and_eq_true,decide_eq_true_eq]at hn
   have:=GJ mT rows ts k (aL h).2 hn.1 hn.2
   rw[jZ]
   simp only[jQ]
   omega
  |int κ=>simp[nE]at h
  |bool=>simp[nE]at h
  |str=>simp[nE]at h
theorem Lh (mT:Int→List UInt8):∀(ps:List PV)(ts:List PTy)(k:Int),bf ts ps→J9 ts=true→(nY mT ps k).2≤k+ps.length+64*(eV ps:Int)
 |[],ts,k,h,hn=>by simp only[nY,eV,List.length_nil];omega
 |p::ps,[],k,h,hn=>by simp[bf]at h
 |p::ps,t::ts,k,h,hn=>by
  simp only[J9,Bool.and_eq_true]at hn
  have h1:nE t p∧bf ts ps:=by simpa only[bf]using h
  have a:=Ps mT p t k h1.1 hn.1
  have b:=Lh mT ps ts (jQ mT p k).2 h1.2 hn.2
  simp only[nY,eV,List.length_cons]
  omega
theorem GJ (mT:Int→List UInt8):∀(rows:List (List PV))(ts:List PTy)(k:Int),(∀r∈rows,bf ts r)→ts.length≤64→J9 ts=true→(bR mT rows k).2≤k+64*((rows.length:Int)+(cu rows:Int))
 |[],ts,k,h,hl,hn=>by simp only[bR,cu,List.length_nil];omega
 |r::rows,ts,k,h,hl,hn=>by
  have hr:=h r (by simp)
  have a:=Lh mT r ts k hr hn
  have b:=GJ mT rows ts (nY mT r k).2 (fun r m=>h r (by simp[m])) hl hn
  have:=jl hr
  simp only[bR,cu,List.length_cons]
  omega
end
theorem qZ (mT:Int→List UInt8):∀(ps:List PV)(ts:List PTy)(k:Int),bf ts ps→J9 ts=true→(eI mT ps k).2≤k+64*(eV ps:Int)
 |[],ts,k,h,hn=>by simp only[eI,eV];omega
 |p::ps,[],k,h,hn=>by simp[bf]at h
 |p::ps,t::ts,k,h,hn=>by
  simp only[J9,Bool.and_eq_true]at hn
  have h1:nE t p∧bf ts ps:=by simpa only[bf]using h
  cases p with
  |lst rows=>
   cases t with
   |lst us=>
    have hn1:=hn.1
    simp only[Re,Bool.and_eq_true,decide_eq_true_eq]at hn1
    have a:=GJ mT rows us k (aL h1.1).2 hn1.1 hn1.2
    have b:=qZ mT ps ts (bR mT rows k).2 h1.2 hn.2
    simp only[eI,eV,jZ]
    omega
   |int κ=>simp[nE]at h1
   |bool=>simp[nE]at h1
   |str=>simp[nE]at h1
  |int κ n=>have b:=qZ mT ps ts k h1.2 hn.2;simp only[eI,eV];omega
  |bool c=>have b:=qZ mT ps ts k h1.2 hn.2;simp only[eI,eV];omega
  |str s=>have b:=qZ mT ps ts k h1.2 hn.2;simp only[eI,eV];omega
theorem PA {ts:List PTy}{ps:List PV}(h:bf ts ps):(gM ts ps).map dk=ps.map .pv:=by
 refine fH (P:=fun ts ps=>(gM ts ps).map dk=ps.map .pv) rfl ?_ ?_ ts ps h
 ·intro us rows ts ps _ _ ih
  cases rows<;>simp only[gM,vB,List.map_cons,dk,ih]
 ·intro t p ts ps h1 ht hp _ ih
  simp only[gM,wG ht h1,List.map_cons,dk,ih]
theorem MV {ts:List PTy}{ps:List PV}(h:bf ts ps)(hh:List AObj):pk hh (.agg (gM ts ps))=(.agg (iQ hh.length ts ps),hh++gD ts ps):=by
 have key:∀(ts:List PTy)(ps:List PV),bf ts ps→∀hh:List AObj,∃ds,thawL hh (gM ts ps)=(iQ hh.length ts ps,hh++ds)∧ds.map AObj.zone=gD ts ps:=by
  refine fH ?_ ?_ ?_
  ·intro hh;exact⟨[],by simp[gM,thawL,iQ],rfl⟩
  ·intro us rows ts ps _ _ ih hh
   cases rows with
   |nil=>
    obtain⟨ds,e1,e2⟩:=ih (hh++[.arr us.length []])
    refine⟨.arr us.length []::ds,?_,by simp only[List.map_cons,e2,AObj.zone,gD]⟩
    simp only[gM,vB,thawL,e1,iQ,List.length_append,List.length_singleton,List.append_assoc,List.cons_append,List.nil_append]
   |cons r rows=>
    obtain⟨ds,e1,e2⟩:=ih (hh++[.darr us.length (r::rows)])
    refine⟨.darr us.length (r::rows)::ds,?_,by simp only[List.map_cons,e2,AObj.zone,gD]⟩
    simp only[gM,vB,thawL,e1,iQ,List.length_append,List.length_singleton,List.append_assoc,List.cons_append,List.nil_append]
  ·intro t p ts ps h1 ht hp _ ih hh
   obtain⟨ds,e1,e2⟩:=ih hh
   refine⟨ds,?_,by rw[e2,gK ht]⟩
   simp only[gM,wG ht h1]
   rw[lf ht]
   simp only[thawL,e1]
 obtain⟨ds,e1,_⟩:=key ts ps h hh
 obtain⟨ds',f1,f2⟩:=key ts ps h []
 simp only[pk,thaw,e1,f1,List.nil_append,f2]
end Gi
namespace Gi
open Go Go.RowKit
set_option maxHeartbeats 8000000
set_option maxRecDepth 8000
attribute [local simp] bw fm aj ah aw aH bg bY Opd.ev put V.cells plain bo gr isInt isStr isBool bin bN un asList L.view ap V.view viewL aU ar bz bP comp aK bu ai V.flat L.flat dJ dk bt putAt freezeVs freezeLs freezeL V.mut L.mut lent AObj.unz L.unsub oX rh jn ru jY ub PV.bare PV.flat jg dq thaw thawL AObj.zone ij tX EJ gv pH Nv Q0 Nw MS.ts gI gu gC eZ gB
def ln (z:Nat):List (List PV)→L
 |[]=> .pv (.lst [])
 |r::rs=> .down z (r::rs)
def oz (z:Nat)(rows rows':List (List PV)):List (Bool×List L):=match rows with
 |[]=>[]
 |_::_=>[(false,[.down z rows'])]
theorem Fv (z:Nat)(c:List (List PV)):(c=[]∧nd z c= .nil∧ln z c= .pv (.lst [])∧(∀r,oz z c r=[])∧A8 z c= .nil)∨(c≠[]∧nd z c= .down z c∧ln z c= .down z c∧(∀r,oz z c r=[(false,[.down z r])])∧A8 z c= .own z c):=by
 cases c with
 |nil=>exact .inl ⟨rfl,rfl,rfl,fun _=>rfl,rfl⟩
 |cons r rs=>exact .inr ⟨by simp,rfl,rfl,fun _=>rfl,rfl⟩
def qs (c3 c4 c6 c7 c8 c9:List (List PV))(k:Int):List (List (List PV)×Int):=
 let q3:=bR ak c3 k
 let q4:=bR ak c4 q3.2
 let q6:=bR ak c6 q4.2
 let q7:=bR ak c7 q6.2
 let q8:=bR ak c8 q7.2
 let q9:=bR ak c9 q8.2
 [q3,q4,q6,q7,q8,q9]
theorem A7 (k:Int):ag Ph aE (426+jJ) [.agg [.pv (.lst [])],aa .i64 k]=some (.tup [(false,[.pv (.int .i64 k)])]):=by
 have c:=(sy (ext:=aE)).1 k
 refine rZ (fn:=kQ) rfl rfl rfl ?_
 simp[kQ,c]
theorem R5 {c0 c2 c5:Int}{on:Bool}{c3 c4 c6 c7 c8 c9:List (List PV)}(h:bf eE [.int .i64 c0, .bool on, .int .i64 c2, .lst c3, .lst c4, .int .i64 c5, .lst c6, .lst c7, .lst c8, .lst c9]){k:Int}(k0:0≤k)(hk:(bR ak c9 (bR ak c8 (bR ak c7 (bR ak c6 (bR ak c4 (bR ak c3 k).2).2).2).2).2).2≤tn):
 ag Ph aE (420+jJ) [.agg [.pv (.int .i64 c0), .pv (.bool on), .pv (.int .i64 c2),ln 24 c3, .down 11 c4, .pv (.int .i64 c5), .down 4 c6, .down 3 c7,ln 4 c8,ln 5 c9],aa .i64 k]=some (.tup ((false,[.pv (.int .i64 (bR ak c9 (bR ak c8 (bR ak c7 (bR ak c6 (bR ak c4 (bR ak c3 k).2).2).2).2).2).2)])::(oz 24 c3 (bR ak c3 k).1++((false,[.down 11 (bR ak c4 (bR ak c3 k).2).1])::(false,[.down 4 (bR ak c6 (bR ak c4 (bR ak c3 k).2).2).1])::(false,[.down 3 (bR ak c7 (bR ak c6 (bR ak c4 (bR ak c3 k).2).2).2).1])::(oz 4 c8 (bR ak c8 (bR ak c7 (bR ak c6 (bR ak c4 (bR ak c3 k).2).2).2).2).1++oz 5 c9 (bR ak c9 (bR ak c8 (bR ak c7 (bR ak c6 (bR ak c4 (bR ak c3 k).2).2).2).2).2).1))))):=by
 simp only[eE,bf]at h
 obtain⟨_,_,_,g3,g4,_,g6,g7,g8,g9,_⟩:=h
 have l3:=mR (mT:=ak) c3 k
 have l4:=mR (mT:=ak) c4 (bR ak c3 k).2
 have l6:=mR (mT:=ak) c6 (bR ak c4 (bR ak c3 k).2).2
 have l7:=mR (mT:=ak) c7 (bR ak c6 (bR ak c4 (bR ak c3 k).2).2).2
 have l8:=mR (mT:=ak) c8 (bR ak c7 (bR ak c6 (bR ak c4 (bR ak c3 k).2).2).2).2
 have l9:=mR (mT:=ak) c9 (bR ak c8 (bR ak c7 (bR ak c6 (bR ak c4 (bR ak c3 k).2).2).2).2).2
 have s3:ag Ph aE (426+jJ) [.agg [ln 24 c3],aa .i64 k]=some (.tup ((false,[.pv (.int .i64 (bR ak c3 k).2)])::oz 24 c3 (bR ak c3 k).1)):=by
  cases c3 with
  |nil=>exact A7 k
  |cons r rs=>exact sB (ext:=aE) [.lst (r::rs)] ⟨g3,trivial⟩ k k0 (by show(bR ak (r::rs) k).2≤tn;omega)
 have s4:ag Ph aE (427+jJ) [.one (.down 11 c4),aa .i64 (bR ak c3 k).2]=some (.tup [(false,[.pv (.int .i64 (bR ak c4 (bR ak c3 k).2).2)]),(false,[.down 11 (bR ak c4 (bR ak c3 k).2).1])]):=(xd (ext:=aE)).2 c4 g4 _ (by omega) (by omega)
 have s6:ag Ph aE (428+jJ) [.agg [.down 4 c6],aa .i64 (bR ak c4 (bR ak c3 k).2).2]=some (.tup [(false,[.pv (.int .i64 (bR ak c6 (bR ak c4 (bR ak c3 k).2).2).2)]),(false,[.down 4 (bR ak c6 (bR ak c4 (bR ak c3 k).2).2).1])]):=qq (ext:=aE) [.lst c6] ⟨g6,trivial⟩ _ (by omega) (by show(bR ak c6 _).2≤tn;omega)
 have s7:ag Ph aE (429+jJ) [.agg [.down 3 c7],aa .i64 (bR ak c6 (bR ak c4 (bR ak c3 k).2).2).2]=some (.tup [(false,[.pv (.int .i64 (bR ak c7 (bR ak c6 (bR ak c4 (bR ak c3 k).2).2).2).2)]),(false,[.down 3 (bR ak c7 (bR ak c6 (bR ak c4 (bR ak c3 k).2).2).2).1])]):=sA (ext:=aE) [.lst c7] ⟨g7,trivial⟩ _ (by omega) (by show(bR ak c7 _).2≤tn;omega)
 have s8:ag Ph aE (430+jJ) [.one (ln 4 c8),aa .i64 (bR ak c7 (bR ak c6 (bR ak c4 (bR ak c3 k).2).2).2).2]=some (.tup ((false,[.pv (.int .i64 (bR ak c8 (bR ak c7 (bR ak c6 (bR ak c4 (bR ak c3 k).2).2).2).2).2)])::oz 4 c8 (bR ak c8 (bR ak c7 (bR ak c6 (bR ak c4 (bR ak c3 k).2).2).2).2).1)):=by
  cases c8 with
  |nil=>exact(qY (ext:=aE)).1 _
  |cons r rs=>exact(qY (ext:=aE)).2 (r::rs) g8 _ (by omega) (by omega)
 have s9:ag Ph aE (431+jJ) [.one (ln 5 c9),aa .i64 (bR ak c8 (bR ak c7 (bR ak c6 (bR ak c4 (bR ak c3 k).2).2).2).2).2]=some (.tup ((false,[.pv (.int .i64 (bR ak c9 (bR ak c8 (bR ak c7 (bR ak c6 (bR ak c4 (bR ak c3 k).2).2).2).2).2).2)])::oz 5 c9 (bR ak c9 (bR ak c8 (bR ak c7 (bR ak c6 (bR ak c4 (bR ak c3 k).2).2).2).2).2).1)):=by
  cases c9 with
  |nil=>exact(oY (ext:=aE)).1 _
  |cons r rs=>exact(oY (ext:=aE)).2 (r::rs) g9 _ (by omega) (by omega)
 clear hk k0 g3 g4 g6 g7 g8 g9 l3 l4 l6 l7 l8 l9
 generalize bR ak c3 k=q3 at s3 s4 s6 s7 s8 s9⊢
 generalize bR ak c4 q3.2=q4 at s4 s6 s7 s8 s9⊢
 generalize bR ak c6 q4.2=q6 at s6 s7 s8 s9⊢
 generalize bR ak c7 q6.2=q7 at s7 s8 s9⊢
 generalize bR ak c8 q7.2=q8 at s8 s9⊢
 generalize bR ak c9 q8.2=q9 at s9⊢
 rcases Fv 24 c3 with⟨_,_,u3,v3,_⟩|⟨_,_,u3,v3,_⟩<;>rcases Fv 4 c8 with⟨_,_,u8,v8,_⟩|⟨_,_,u8,v8,_⟩<;>rcases Fv 5 c9 with⟨_,_,u9,v9,_⟩|⟨_,_,u9,v9,_⟩<;>simp only[u3,v3,u8,v8,u9,v9]at s3 s8 s9⊢ <;>(refine rZ (fn:=mK) rfl rfl rfl ?_;simp[mK,s3,s4,s6,s7,s8,s9])
end Gi
namespace Gi
open Go Go.RowKit
set_option maxHeartbeats 4000000
set_option maxRecDepth 4000
attribute [local simp] bw rW bg bY dS fY dR fX f7 f6 um uB uo uC uq uD ur uE ut uF uu uG uw uH uy uI uz uJ V.cells plain bo gr isInt isStr isBool bin cT jF cU jG fZ un asList L.view ap V.view viewL aU ar cX bZ bP comp aK bu dz cr bD bB bC bx bc bU aO bH aS aX bJ bV bI bG bK V.flat L.flat dJ dk bt putAt thaw thawL thawT V.ow f5 dW dX cV f4 cW dV freezeVs freezeLs freezeL V.mut L.mut aJ cG iK aN be aG dv bM bi bS L.ren aV dL ce dO bQ bF wp_seq wp_block bA ed cY ca cZ wp_skip wp_exit wp_ret cK cI cS cL df dg de cq aW L.notArr aR aP aQ dZ bp storeD a9 fT br cE bh nK L.mov L.closed V.closed PV.bare PV.flat
def rg (n a b:Int):Bool:= !(dA n a)&& !(dA b n)
theorem aZ (n a b:Int):ag Ph aE 61 [aa .i64 n,aa .i64 a,aa .i64 b]=some (au (rg n a b)):=by
 refine ae (fn:=og) rfl ?_
 simp +contextual (maxSteps:=9999999) [og,rg]
theorem bq (n a b:Int):ag Ph aE 58 [aa .i64 n,aa .i64 a,aa .i64 b]=some (au (rg n a b)):=by
 refine ae (fn:=se) rfl ?_
 simp +contextual (maxSteps:=9999999) [se,rg]
def Qw (a b:Int):Int:=if dA a b then-1 else if dA b a then 1 else 0
theorem tH (a b:Int):ag Ph aE 362 [aa .i64 a,aa .i64 b]=some (aa .i64 (Qw a b)):=by
 refine ae (fn:=kK) rfl ?_
 simp +contextual (maxSteps:=9999999) [kK,Qw]
theorem DB (a b:Bool):ag Ph aE 359 [au a,au b]=some (aa .i64 (if a=true then-1 else if b=true then 1 else 0)):=by
 refine ae (fn:=pT) rfl ?_
 simp +contextual (maxSteps:=9999999) [pT]
def JC (sl:Bool)(s:List UInt8)(k:Nat):Bool:=match s[k]? with
 |some b=>(dA b.toNat 97||dA 122 b.toNat)&& !(sl&&(b.toNat:Int)==47)
 |none=>false
def p5 (s:List UInt8)(m:Int)(sl:Bool):Bool:= !(fA s.length (JC sl s))&&rg s.length 1 m
abbrev cC (s:List UInt8):Bool:=p5 s 8 false
theorem su {s:List UInt8}(h:s.length≤maxLen)(m:Int)(sl:Bool):ag Ph aE 213 [fM s,aa .i64 m,au sl]=some (au (p5 s m sl)):=by
 refine ae (fn:=pP) rfl ?_
 simp +contextual (maxSteps:=9999999) [pP]
 refine aC aT Cl.fin [.t,.t,.t,.f,.f,.f,.f,.t,.f,.f,.f,.f,.f,.f,.f,.f,.f,.f,.f,.f,.f,.f,.f,.f,.f,.f,.f,.f,.f,.f,.f,.f,.f,.f,.f,.f,.f,.f] (fun k=>[(7,aa .i64 k)]) s.length (JC sl s) rfl (by simp) (fun k hk _=> ?_) (fun _ hp=> ?_)
 ·simp +contextual (maxSteps:=9999999) [ki,JC,p5,hk,aF h hk,aY hk]
 ·simp +contextual (maxSteps:=9999999) [ki,p5,hp,aZ]
theorem bn {s:List UInt8}(h:s.length≤maxLen):ag Ph aE 178 [fM s]=some (au (cC s)):=by
 refine ae (fn:=pM) rfl ?_
 simp[pM,su h]
theorem co {s:List UInt8}(h:s.length≤maxLen):ag Ph aE 177 [fM s]=some (au (cC s)):=by
 refine ae (fn:=pQ) rfl ?_
 simp +contextual (maxSteps:=9999999) [pQ]
 refine aC aT Cl.fin [.t,.f,.f,.t,.f,.f,.f,.f,.f,.f,.f,.f,.f,.f,.f,.f,.f,.f,.f,.f,.f,.f,.f] (fun k=>[(3,aa .i64 k)]) s.length (JC false s) rfl (by simp) (fun k hk _=> ?_) (fun _ hp=> ?_)
 ·simp +contextual (maxSteps:=9999999) [kj,JC,cC,p5,hk,aF h hk,aY hk]
 ·simp +contextual (maxSteps:=9999999) [kj,cC,p5,hp,bq]
def NM (s:List UInt8)(k:Nat):Bool:=match s[k]? with
 |some b=>(dA b.toNat 97||dA 122 b.toNat)&&(dA b.toNat 48||dA 57 b.toNat)
 |none=>false
def sv (s:List UInt8):Bool:= !(fA s.length (NM s))&& !(dA 12 s.length)
theorem wX {s:List UInt8}(h:s.length≤maxLen):ag Ph aE 90 [fM s]=some (au (sv s)):=by
 refine ae (fn:=mJ) rfl ?_
 simp +contextual (maxSteps:=9999999) [mJ]
 refine aC aT Cl.fin [.t,.f,.f,.t,.f,.f,.f,.f,.f,.f,.f,.f,.f,.f,.f,.f,.f,.f,.f,.f,.f,.f,.f,.f,.f,.f,.f,.f,.f,.f,.f,.f,.f,.f,.f,.f] (fun k=>[(3,aa .i64 k)]) s.length (NM s) rfl (by simp) (fun k hk _=> ?_) (fun _ hp=> ?_)
 ·simp +contextual (maxSteps:=9999999) [ix,NM,sv,hk,aF h hk,aY hk]
 ·simp +contextual (maxSteps:=9999999) [ix,sv,hp]
theorem DC {s:List UInt8}(h:s.length≤maxLen):ag Ph aE 88 [fM s]=some (au (sv s)):=by
 refine ae (fn:=pU) rfl ?_
 simp +contextual (maxSteps:=9999999) [pU]
 refine aC aT Cl.fin [.t,.f,.f,.t,.f,.f,.f,.f,.f,.f,.f,.f,.f,.f,.f,.f,.f,.f,.f,.f,.f,.f,.f,.f,.f,.f,.f,.f,.f,.f,.f,.f,.f,.f,.f] (fun k=>[(3,aa .i64 k)]) s.length (NM s) rfl (by simp) (fun k hk _=> ?_) (fun _ hp=> ?_)
 ·simp +contextual (maxSteps:=9999999) [kq,NM,sv,hk,aF h hk,aY hk]
 ·simp +contextual (maxSteps:=9999999) [kq,sv,hp]
def ql (a:XKey):Bool:=rg a.kind 1 3&&rg a.n (-1000000000000) 1000000000000&&(!(a.kind==2)||a.n==0)&&sv a.text&&(!(a.kind==1)||a.text==[])
theorem mW {a:XKey}(h:a.Ok maxLen):ag Ph aE 67 [a.v]=some (au (ql a)):=by
 refine ae (fn:=qN) rfl ?_
 simp +contextual (maxSteps:=9999999) [qN,aZ,wX h.2.2,ql]<;>grind
theorem mX {a:XKey}(h:a.Ok maxLen):ag Ph aE 65 [a.v]=some (au (ql a)):=by
 refine ae (fn:=qO) rfl ?_
 simp +contextual (maxSteps:=9999999) [qO,bq,DC h.2.2,ql]<;>grind
theorem EW (a b:List UInt8):ag Ph aE 363 [fM a,fM b]=some (aa .i64 (Lib.compareBytes a b)):=L2 rfl rfl
theorem pC :∀(a b:List UInt8),Lib.compareBytes a b=if Op.bytesLess a b=true then-1 else if Op.bytesLess b a=true then 1 else 0
 |[],[]=>rfl
 |[],_::_=>rfl
 |_::_,[]=>rfl
 |a::xz,b::bs=>by
  have ih:=pC xz bs
  simp only[Lib.compareBytes,Op.bytesLess,ih]
  by_cases h1:a<b
  ·simp[h1]
  ·by_cases h2:b<a
   ·have h3:¬a=b:=fun h=>by subst h;exact absurd h2 (UInt8.lt_irrefl _)
    simp[h1,h2,h3]
   ·obtain rfl:a=b:=UInt8.le_antisymm (UInt8.not_lt.1 h2) (UInt8.not_lt.1 h1)
    simp[UInt8.lt_irrefl]
def L7 (a b:XKey):Int:=if ql a=false∨ql b=false then 0 else if a.kind≠b.kind then Qw a.kind b.kind else if a.n≠b.n then Qw a.n b.n else Lib.compareBytes a.text b.text
theorem nG {a b:XKey}(ha:a.Ok maxLen)(hb:b.Ok maxLen):ag Ph aE 355 [a.v,b.v]=some (aa .i64 (L7 a b)):=by
 refine ae (fn:=kG) rfl ?_
 simp +contextual (maxSteps:=9999999) [kG,mW,tH,EW,ha,hb,L7]
 grind [Qw,dA]
theorem nJ {a b:XKey}(ha:a.Ok maxLen)(hb:b.Ok maxLen):ag Ph aE 351 [a.v,b.v]=some (aa .i64 (L7 a b)):=by
 refine ae (fn:=kS) rfl ?_
 simp +contextual (maxSteps:=9999999) [kS,mX,DB,ha,hb,L7,pC]
 grind [Qw,dA]
def LS (fs:List XField)(k:Nat):Bool:=match fs[k]?,fs[k-1]? with
 |some x,some y=> !(cC x.name)||(!(rg x.n 0 1000000000)||(dA 0 k&& !(Op.bytesLess y.name x.name)))
 |_,_=>false
def nH (fs:List XField):Bool:= !(fA fs.length (LS fs))&& !(dA 6 fs.length)
theorem qi {r:XRecord}(h:r.Ok maxLen):ag Ph aE 246 [r.v]=some (au (nH r.fs)):=by
 refine ae (fn:=ng) rfl ?_
 simp +contextual (maxSteps:=9999999) [ng]
 refine aC aT Cl.fin [.f,.t,.f,.f,.f,.f,.t,.t,.t,.f,.f,.f,.f,.f,.f,.f,.f,.f,.f,.f,.f,.f,.f,.f,.f,.f,.f,.f,.f,.f,.f,.f,.f,.f,.f,.f,.f,.f,.f,.f,.f,.f,.f,.f] (fun k=>[(8,aa .i64 k)]) r.fs.length (LS r.fs) rfl (by simp) (fun k hk _=> ?_) (fun _ hp=> ?_)
 ·obtain⟨q1,q2⟩:=tN h.1 hk
  simp +contextual (maxSteps:=9999999) [i9,LS,nH,hk,q1,q2,aF h.1 hk,aY hk,XField.e.eq_1 r.fs[k],XField.e.eq_1 r.fs[k-1],bn (h.2 _ (List.getElem_mem hk)).1,aZ]
 ·simp +contextual (maxSteps:=9999999) [i9,nH,hp]
theorem qv {r:XRecord}(h:r.Ok maxLen):ag Ph aE 243 [r.v]=some (au (nH r.fs)):=by
 refine ae (fn:=nv) rfl ?_
 simp +contextual (maxSteps:=9999999) [nv]
 refine aC aT Cl.fin [.f,.t,.f,.t,.f,.f,.f,.f,.f,.f,.f,.f,.f,.f,.f,.f,.f,.f,.f,.f,.f,.f,.f,.f,.f,.f,.f,.f,.f,.f,.f,.f,.f,.f,.f,.f,.f,.f,.f,.f,.f,.f,.f,.f,.f,.f,.f,.f,.f,.f,.f,.f,.f] (fun k=>[(3,aa .i64 k)]) r.fs.length (LS r.fs) rfl (by simp) (fun k hk _=> ?_) (fun _ hp=> ?_)
 ·obtain⟨q1,q2⟩:=tN h.1 hk
  simp +contextual (maxSteps:=9999999) [jd,LS,nH,hk,q1,q2,aF h.1 hk,aY hk,XField.e.eq_1 r.fs[k],XField.e.eq_1 r.fs[k-1],co (h.2 _ (List.getElem_mem hk)).1,bq]
 ·simp +contextual (maxSteps:=9999999) [jd,nH,hp]
end Gi
