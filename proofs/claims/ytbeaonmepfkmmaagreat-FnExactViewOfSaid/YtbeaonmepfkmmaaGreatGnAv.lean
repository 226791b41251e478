/- Of this proof. -/
import Derived.Test.YtbeaonmepfkmmaaGreatGsrv
import Derived.Test.YtbeaonmepfkmmaaGreatGxtv
import Derived.Lib.Bytealg
import Derived.Test.YtbeaonmepfkmmaaGreatGipv
import Derived.Test.YtbeaonmepfkmmaaGreatGdcv
set_option linter.unusedSimpArgs false
set_option linter.unusedVariables false
namespace Gi
open Go Go.RowKit
set_option maxHeartbeats 4000000
set_option maxRecDepth 4000
def aH :Nat→List V→Option V:=fun k xz=>match k,xz with
 |363,[.one (.pv (.str a)), .one (.pv (.str b))]=>some (ae .i64 (Lib.compareBytes a b))
 |_,_=>none
theorem bX :qu (ah Ph aH):=M6 fun k xz r h=>by
 unfold aH at h
 split at h
 ·cases h;rfl
 ·cases h
theorem LN {a b:List UInt8}:i7 .neq a b=some (aF (!(a==b))):=rfl
theorem LM {a b:List UInt8}:i7 .eql a b=some (aF (a==b)):=rfl
theorem mR :IntKind.i64.wrap 1=1:=by rw[IntKind.wrap_i64];rfl
theorem Pv {j n:Nat}(hn:n≤maxLen)(hj:j+1<n):IntKind.i64.wrap ((j:Int)+1+1)=(j:Int)+1+1∧IntKind.i64.wrap (j:Int)=(j:Int)∧(0:Int)<(j:Int)+1∧(0:Int)≤(j:Int)+1∧((j:Int)+1).toNat=j+1∧(j:Int)+1<(n:Int):=by
 unfold maxLen at hn
 refine⟨?_,?_,by omega,by omega,by omega,by omega⟩<;>rw[IntKind.wrap_i64]<;>omega
theorem gx {m z:Nat}(hm:m≤4194304)(hz:z≤4096):m*z≤140737488355328∧m≤9223372036854775807∧m≤9223372036854775806∧m<9223372036854775807:=by
 refine⟨?_,by omega,by omega,by omega⟩
 calc m*z≤4194304*4096:=Nat.mul_le_mul hm hz
  _≤140737488355328:=by decide
theorem tc {α:Type}{e:α→List PV}{xs:List α}{k:Nat}(hk:k<xs.length):(xs.map e).take (k+1)=(xs.map e).take k++[e xs[k]]:=by
 rw[Zx (by simpa using hk)];simp
theorem jO {α:Type}{e:α→List PV}(h:∀x,(e x).all PV.flat=true)(xs:List α):mz (xs.map e)=true:=by
 simp only[mz,List.all_map,Zs,Function.comp];exact fun x _=>by simpa[Zs]using h x
theorem eM {α:Type}{e:α→List PV}{z:Nat}(h:∀x,(e x).length=z)(xs:List α):((xs.map e).all fun r=>r.length==z)=true:=by
 simp only[List.all_map,Zs,Function.comp,beq_iff_eq];exact fun x _=>h x
theorem we (s:List UInt8):mz (ag s)=true:=jO (e:=fun b:UInt8=>[PV.int .u8 b.toNat]) (fun _=>rfl) s
theorem eu (s:List UInt8):((ag s).all fun r=>r.length==1)=true:=eM (e:=fun b:UInt8=>[PV.int .u8 b.toNat]) (z:=1) (fun _=>rfl) s
def nd (z:Nat):List (List PV)→L
 |[]=> .nil
 |r::rs=> .down z (r::rs)
def oR (z:Nat):List (List PV)→L
 |[]=> .nil
 |r::rs=> .own z (r::rs)
def lf :List (List PV)→L
 |[]=> .nil
 |r::rs=> .pv (.lst (r::rs))
theorem AS (z:Nat)(rows:List (List PV)):(rows=[]∧nd z rows= .nil)∨(rows≠[]∧nd z rows= .down z rows):=by
 cases rows with
 |nil=>exact .inl ⟨rfl,rfl⟩
 |cons r rs=>exact .inr ⟨by simp,rfl⟩
theorem bC {z:Nat}{rows:List (List PV)}:cS (nd z rows)=lf rows:=by cases rows<;>rfl
theorem aY {z:Nat}{rows:List (List PV)}:cS (oR z rows)=lf rows:=by cases rows<;>rfl
theorem aD {rows:List (List PV)}:cS (lf rows)=lf rows:=by cases rows<;>rfl
theorem av {h:List AObj}{rows:List (List PV)}:L.view h (lf rows)=some (.lst rows):=by cases rows<;>rfl
theorem aj {rows:List (List PV)}:plain (lf rows)=true:=by cases rows<;>rfl
theorem aE {h:List AObj}{rows:List (List PV)}:L.mut h (lf rows)=false:=by cases rows<;>rfl
theorem ai {h:List AObj}{rows:List (List PV)}:freezeL h (lf rows)=h:=by cases rows<;>rfl
theorem au {h:List AObj}{rows:List (List PV)}:bA h (lf rows)=some (lf rows):=by cases rows<;>rfl
theorem aQ {f:List Nat}{rows:List (List PV)}:(lf rows).ren f=some (lf rows):=by cases rows<;>rfl
theorem aq {o:Nat}{rows:List (List PV)}:L.notArr o (lf rows)=true:=by cases rows<;>rfl
theorem bd {rows:List (List PV)}:L.flat (lf rows)=false:=by cases rows<;>rfl
theorem bf {h:List AObj}{rows:List (List PV)}{ls:List L}:thawL h (lf rows::ls)=((lf rows::(thawL h ls).1),(thawL h ls).2):=by cases rows<;>rfl
theorem cz :ar []=[]:=rfl
theorem bI {p:PV}{ls:List L}:ar (.pv p::ls)=ar ls:=rfl
theorem bc {ls:List L}:ar (.nil::ls)=ar ls:=rfl
theorem a9 {o:Nat}{ls:List L}:ar (.arr o::ls)=o::ar ls:=rfl
theorem ba {rows:List (List PV)}{ls:List L}:ar (lf rows::ls)=ar ls:=by cases rows<;>rfl
theorem Kn.q (f:List Nat){t t':List V}{h h':List AObj}(ho:bE f h' f h:=by simp[bu,br,bt,ub,b6,aZ,bB,aP,dL,cf,bE,cy,L.ren,aQ])(ht:aZ f t t':=by simp[bu,br,bt,ub,b6,aZ,bB,aP,dL,cf,bE,cy,L.ren,aQ])(nd:f.Nodup:=by decide):Kn ⟨t,h⟩ ⟨t',h'⟩:=Kn.of f nd ho ht
def fu :List AObj→Nat→List Nat
 |[],_=>[]
 |_::r,k=>k::fu r (k+1)
theorem Ot :∀{h:List AObj}{k x:Nat},x∈fu h k→k≤x
 |_::_,_,_,h=>by
  rcases Z6.1 h with rfl|h
  ·exact Zk _
  ·have:=Ot h;omega
theorem E8 :∀(h:List AObj)(k:Nat),(fu h k).Nodup
 |[],_=>List.nodup_nil
 |_::r,k=>List.nodup_cons.2 ⟨fun h=>by have:=Ot h;omega,E8 r (k+1)⟩
theorem bY {t t':List V}{h h':List AObj}(hh:bE (fu h 0) h' (fu h 0) h∧aZ (fu h 0) t t'):Kn ⟨t,h⟩ ⟨t',h'⟩:=Kn.of _ (E8 h 0) hh.1 hh.2
theorem dH {p:PV}:L.ow (.pv p)= .pv p:=rfl
theorem cG :L.ow .nil= .nil:=rfl
theorem cH {z:Nat}{rows:List (List PV)}:L.ow (.own z rows)= .own z rows:=rfl
theorem bM {z:Nat}{rows:List (List PV)}:L.ow (.down z rows)= .own z rows:=rfl
theorem dG {z:Nat}{rows:List (List PV)}:L.ow (nd z rows)=oR z rows:=by cases rows<;>rfl
theorem bN {z:Nat}{rows:List (List PV)}:L.ow (oR z rows)=oR z rows:=by cases rows<;>rfl
theorem cF {rows:List (List PV)}:L.ow (lf rows)=lf rows:=by cases rows<;>rfl
theorem uS (z:Nat)(rows:List (List PV)):(rows=[]∧nd z rows= .nil∧oR z rows= .nil)∨(rows≠[]∧nd z rows= .down z rows∧oR z rows= .own z rows):=by
 cases rows with
 |nil=>exact .inl ⟨rfl,rfl,rfl⟩
 |cons r rs=>exact .inr ⟨by simp,rfl,rfl⟩
abbrev XKey.v (x:XKey):V:= .agg [.pv (.int .i64 x.kind), .pv (.int .i64 x.n), .pv (.str x.text)]
abbrev XField.v (x:XField):V:= .agg [.pv (.str x.name), .pv (.int .i64 x.n)]
abbrev XRecord.v (x:XRecord):V:= .agg [.pv (.lst (x.fs.map XField.e))]
abbrev XItem.v (x:XItem):V:= .agg [.pv (.int .i64 x.key.kind), .pv (.int .i64 x.key.n), .pv (.str x.key.text), .pv (.lst (x.rcd.fs.map XField.e))]
abbrev XStore.v (x:XStore):V:= .agg [.pv (.str x.name), .pv (.lst (x.items.map XItem.e)), .pv (.int .i64 x.auto)]
abbrev XWrite.v (x:XWrite):V:= .agg [.pv (.int .i64 x.dev), .pv (.int .i64 x.seq), .pv (.int .i64 x.key.kind), .pv (.int .i64 x.key.n), .pv (.str x.key.text), .pv (.str x.field), .pv (.int .i64 x.n)]
abbrev XApplied.v (x:XApplied):V:= .agg [.pv (.int .i64 x.dev), .pv (.int .i64 x.seq)]
abbrev XServer.v (x:XServer):V:= .agg [.pv (.str x.store.name), .pv (.lst (x.store.items.map XItem.e)), .pv (.int .i64 x.store.auto), .pv (.lst (x.applied.map XApplied.e)), .pv (.lst (x.changes.map XWrite.e))]
abbrev XOutbox.v (x:XOutbox):V:= .agg [.pv (.int .i64 x.dev), .pv (.int .i64 x.next), .pv (.lst (x.writes.map XWrite.e))]
abbrev XSync.v (x:XSync):V:= .agg [.pv (.int .i64 x.outbox.dev), .pv (.int .i64 x.outbox.next), .pv (.lst (x.outbox.writes.map XWrite.e)), .pv (.int .i64 x.tries), .pv (.int .i64 x.wait)]
abbrev XReplica.v (x:XReplica):V:= .agg [.pv (.str x.base.name), .pv (.lst (x.base.items.map XItem.e)), .pv (.int .i64 x.base.auto), .pv (.int .i64 x.seen), .pv (.int .i64 x.sync.outbox.dev), .pv (.int .i64 x.sync.outbox.next), .pv (.lst (x.sync.outbox.writes.map XWrite.e)), .pv (.int .i64 x.sync.tries), .pv (.int .i64 x.sync.wait)]
abbrev XResponse.v (x:XResponse):V:= .agg [.pv (.int .i64 x.type), .pv (.int .i64 x.status), .pv (.int .i64 x.version), .pv (.lst (ag x.body)), .pv (.bool x.shares)]
abbrev XCached.v (x:XCached):V:= .agg [.pv (.str x.site), .pv (.str x.path), .pv (.int .i64 x.resp.type), .pv (.int .i64 x.resp.status), .pv (.int .i64 x.resp.version), .pv (.lst (ag x.resp.body)), .pv (.bool x.resp.shares)]
abbrev XCache.v (x:XCache):V:= .agg [.pv (.int .i64 x.version), .pv (.lst (x.entries.map XCached.e))]
abbrev XCacheSet.v (x:XCacheSet):V:= .agg [.pv (.lst (x.caches.map XCache.e))]
abbrev XRegistration.v (x:XRegistration):V:= .agg [.pv (.str x.site), .pv (.int .i64 x.installing), .pv (.int .i64 x.waiting), .pv (.int .i64 x.active)]
abbrev XLoaded.v (x:XLoaded):V:= .agg [.pv (.str x.path), .pv (.int .i64 x.version)]
abbrev XInstr.v (x:XInstr):V:= .agg [.pv (.int .i64 x.kind), .pv (.int .i64 x.r), .pv (.int .i64 x.n), .pv (.str x.text)]
abbrev XMachine.v (x:XMachine):V:= .agg [.pv (.lst (x.script.map XInstr.e)), .pv (.int .i64 x.pc), .pv (.lst (x.regs.map kM)), .pv (.int .i64 x.steps), .pv (.bool x.done), .pv (.bool x.wait)]
abbrev XPage.v (x:XPage):V:= .agg [.pv (.int .i64 x.id), .pv (.str x.site), .pv (.str x.top), .pv (.int .i64 x.version), .pv (.lst (x.loaded.map XLoaded.e)), .pv (.lst (x.machine.script.map XInstr.e)), .pv (.int .i64 x.machine.pc), .pv (.lst (x.machine.regs.map kM)), .pv (.int .i64 x.machine.steps), .pv (.bool x.machine.done), .pv (.bool x.machine.wait)]
abbrev XIndexDef.v (x:XIndexDef):V:= .agg [.pv (.str x.store), .pv (.str x.field)]
abbrev XDatabase.v (x:XDatabase):V:= .agg [.pv (.str x.name), .pv (.int .i64 x.version), .pv (.lst (x.stores.map XStore.e)), .pv (.lst (x.unique.map XIndexDef.e))]
abbrev XDisk.v (x:XDisk):V:= .agg [.pv (.str x.base.name), .pv (.int .i64 x.base.version), .pv (.lst (x.base.stores.map XStore.e)), .pv (.lst (x.base.unique.map XIndexDef.e)), .pv (.lst (ag x.log)), .pv (.int .i64 x.count)]
abbrev XBucket.v (x:XBucket):V:= .agg [.pv (.str x.site), .pv (.str x.top), .pv (.str x.reg.site), .pv (.int .i64 x.reg.installing), .pv (.int .i64 x.reg.waiting), .pv (.int .i64 x.reg.active), .pv (.lst (x.caches.caches.map XCache.e)), .pv (.str x.disk.base.name), .pv (.int .i64 x.disk.base.version), .pv (.lst (x.disk.base.stores.map XStore.e)), .pv (.lst (x.disk.base.unique.map XIndexDef.e)), .pv (.lst (ag x.disk.log)), .pv (.int .i64 x.disk.count), .pv (.str x.replica.base.name), .pv (.lst (x.replica.base.items.map XItem.e)), .pv (.int .i64 x.replica.base.auto), .pv (.int .i64 x.replica.seen), .pv (.int .i64 x.replica.sync.outbox.dev), .pv (.int .i64 x.replica.sync.outbox.next), .pv (.lst (x.replica.sync.outbox.writes.map XWrite.e)), .pv (.int .i64 x.replica.sync.tries), .pv (.int .i64 x.replica.sync.wait), .pv (.int .i64 x.lastUsed), .pv (.bool x.persistent)]
abbrev XStorage.v (x:XStorage):V:= .agg [.pv (.lst (x.buckets.map XBucket.e))]
abbrev XLock.v (x:XLock):V:= .agg [.pv (.str x.name), .pv (.int .i64 x.page), .pv (.bool x.shared), .pv (.bool x.held)]
abbrev XLockTable.v (x:XLockTable):V:= .agg [.pv (.lst (x.locks.map XLock.e))]
abbrev XMail.v (x:XMail):V:= .agg [.pv (.int .i64 x.to), .pv (.int .i64 x.sender), .pv (.int .i64 x.n)]
abbrev XChannel.v (x:XChannel):V:= .agg [.pv (.lst (x.mails.map XMail.e))]
abbrev XSite.v (x:XSite):V:= .agg [.pv (.str x.name), .pv (.int .i64 x.version), .pv (.lst (x.files.map VP)), .pv (.bool x.shared)]
abbrev XWorld.v (x:XWorld):V:= .agg [.pv (.int .i64 x.now), .pv (.bool x.online), .pv (.int .i64 x.device), .pv (.lst (x.storage.buckets.map XBucket.e)), .pv (.lst (x.pages.map XPage.e)), .pv (.int .i64 x.nextPage), .pv (.lst (x.locks.locks.map XLock.e)), .pv (.lst (x.channel.mails.map XMail.e)), .pv (.lst (x.sites.map XSite.e)), .pv (.lst (x.servers.map XServer.e))]
def b9 (a b:Int):Bool:=decide (a<b)
theorem VY (a b:Int):decide (a≤b)= !(b9 b a):=by unfold b9;by_cases h:a≤b<;>simp[h]<;>omega
theorem d6 {a b:Int}(h:a<b):b9 a b=true:=decide_eq_true h
theorem fG {a b:Int}(h:b≤a):b9 a b=false:=decide_eq_false (by omega)
theorem p5 :∀(a b:List UInt8),(Op.bytesLess a b||a==b)= !(Op.bytesLess b a)
 |[],[]=>rfl
 |[],_::_=>rfl
 |_::_,[]=>rfl
 |a::xz,b::bs=>by
  have ih:=p5 xz bs
  simp only[Op.bytesLess]
  by_cases h1:a<b
  ·have h2:¬b<a:=fun h=>absurd (UInt8.lt_trans h1 h) (UInt8.lt_irrefl _)
   have h3:¬b=a:=fun h=>by subst h;exact absurd h1 (UInt8.lt_irrefl _)
   simp[h1,h2,h3]
  ·by_cases h2:b<a
   ·have h3:¬a=b:=fun h=>by subst h;exact absurd h2 (UInt8.lt_irrefl _)
    simp[h1,h2,h3]
   ·obtain rfl:a=b:=UInt8.le_antisymm (UInt8.not_lt.1 h2) (UInt8.not_lt.1 h1)
    simpa[UInt8.lt_irrefl]using ih
def fR (op:BinOp)(k:IntKind)(a b:Int):Option V:=
 match op with
 | .add=>some (ae k (k.wrap (a+b)))
 | .sub=>some (ae k (k.wrap (a-b)))
 | .mul=>some (ae k (k.wrap (a*b)))
 | .quo=>if b=0 then none else some (ae k (k.wrap (a.tdiv b)))
 | .rem=>if b=0 then none else some (ae k (a.tmod b))
 | .and=>some (ae k (k.wrap ((BitVec.ofInt k.bits a&&&BitVec.ofInt k.bits b).toNat)))
 | .or=>some (ae k (k.wrap ((BitVec.ofInt k.bits a|||BitVec.ofInt k.bits b).toNat)))
 | .eql=>some (aF (a==b))
 | .neq=>some (aF (!(a==b)))
 | .lss=>some (aF (b9 a b))
 | .leq=>some (aF (!(b9 b a)))
 | .gtr=>some (aF (b9 b a))
 | .geq=>some (aF (!(b9 a b)))
 |_=>none
theorem bK (op:BinOp)(k:IntKind)(a b:Int):cA op k a b=fR op k a b:=by cases op<;>simp only[cA,fR,VY]<;>rfl
def fS (op:BinOp)(a b:List UInt8):Option V:=
 match op with
 | .add=>if a.length+b.length≤9223372036854775807 then some (cU (a++b))else none
 | .eql=>some (aF (a==b))
 | .neq=>some (aF (!(a==b)))
 | .lss=>some (aF (Op.bytesLess a b))
 | .leq=>some (aF (!(Op.bytesLess b a)))
 | .gtr=>some (aF (Op.bytesLess b a))
 | .geq=>some (aF (!(Op.bytesLess a b)))
 |_=>none
theorem bL (op:BinOp)(a b:List UInt8):i7 op a b=fS op a b:=by cases op<;>simp only[i7,fS,p5]<;>simp
theorem bw {n k:Nat}(hn:n≤maxLen)(hk:k<n):IntKind.i64.wrap ((k:Int)+1)=(k:Int)+1:=by
 unfold maxLen at hn;rw[IntKind.wrap_i64];omega
theorem bU {n k:Nat}(h:k<n):b9 (k:Int) (n:Int)=true:=d6 (by omega)
theorem dF (n:Nat):b9 (n:Int) (n:Int)=false:=fG (Int.le_refl _)
theorem PU {n k:Nat}(hn:n≤maxLen)(hk:k<n):(b9 0 (k:Int)=true→IntKind.i64.wrap ((k:Int)-1)=((k-1:Nat):Int))∧k-1<n:=by
 refine⟨fun h=> ?_,by omega⟩
 have:=of_decide_eq_true h
 unfold maxLen at hn;rw[IntKind.wrap_i64];omega
variable {KI:KF}
structure DRel (w W:World) (b:Nat):Prop where
 os:W.os=w.os
 tape:W.tape=w.tape
 output:W.output=w.output
 size:w.heap.size≤W.heap.size
 block:∀k,k<w.heap.size→k≠b→W.heap[k]? =w.heap[k]?
theorem DRel.below {w W W':World}{b:Nat}(h:DRel w W b)(g:Below W.heap.size W W'):DRel w W' b:=
 ⟨g.os.trans h.os,g.tape.trans h.tape,g.output.trans h.output,Zc h.size g.size,fun k hk hb=>(g.block k (Z7 hk h.size)).trans (h.block k hk hb)⟩
theorem Below.drel {w W:World}{b:Nat}(g:Below w.heap.size w W):DRel w W b:=⟨g.os,g.tape,g.output,g.size,fun k hk _=>g.block k hk⟩
theorem eY.below {w W:World}{b:Nat}{cur:Array Value}(h:eY w b cur)(g:Below w.heap.size w W):eY W b cur:=by
 obtain⟨T,hT⟩:=h
 have hlt:b<w.heap.size:=by
  rcases Nat.lt_or_ge b w.heap.size with q|q
  ·exact q
  ·rw[Array.getElem?_eq_none q]at hT;cases hT
 exact⟨T,(g.block b hlt).trans hT⟩
def jC (p:Nat→Bool)(n:Nat):List Nat:=(List.range n).filter fun j=> !p j
theorem Cf (p:Nat→Bool)(n:Nat):jC p (n+1)=jC p n++(if p n then []else [n]):=by
 unfold jC
 rw[List.range_succ,List.filter_append]
 congr 1
 cases h:p n<;>simp[List.filter_cons,h]
theorem Ro {p:Nat→Bool}{n t u:Nat}(h:(jC p n)[t]? =some u):u<n:=by
 have:=Zi h
 simp only[jC,List.mem_filter,List.mem_range]at this
 exact this.1
theorem zW {p:Nat→Bool}{n:Nat}(h:∀j,j<n→p j=false):jC p n=List.range n:=by
 unfold jC
 rw[List.filter_eq_self]
 intro j hj
 rw[h j (by simpa using hj)];rfl
structure KInv (p:Nat→Bool) (z:Nat) (w wr:World) (b:Nat) (cur ck:Array Value) (i j:Nat):Prop where
 rel:DRel w wr b
 row:eY wr b ck
 size:ck.size=cur.size
 len:i=(jC p j).length
 lt:i<j
 low:∀(t u:Nat),(jC p j)[t]? =some u→∀q,q<z→ck[t*z+q]? =cur[u*z+q]?
 high:∀u,j*z≤u→ck[u]? =cur[u]?
theorem KInv.start {p:Nat→Bool}{z:Nat}{w wr:World}{b k:Nat}{cur:Array Value}(h:Below w.heap.size w wr)(hr:eY w b cur)(hk:p k=true)(hj:∀j,j<k→p j=false):KInv p z w wr b cur cur k (k+1):=by
 have e:jC p (k+1)=List.range k:=by rw[Cf,zW hj,hk];simp
 refine⟨Below.drel h,eY.below hr h,rfl,by rw[e,List.length_range],by omega,fun t u ht q hq=> ?_,fun _ _=>rfl⟩
 rw[e]at ht
 obtain⟨h1,h2⟩:=Zb.1 ht
 simp at h2
 rw[h2]
theorem Eh {i j z:Nat}(h:i<j):i*z+z≤j*z:=by
 calc i*z+z=(i+1)*z:=by rw[Z9,Nat.one_mul]
  _≤j*z:=Z5 _ h
section
variable {p:Nat→Bool}{z:Nat}{w wr w2:World}{b i j:Nat}{cur ck:Array Value}
theorem KInv.skip (h:KInv p z w wr b cur ck i j)(hp:p j=true)(hd:Below wr.heap.size wr w2):KInv p z w w2 b cur ck i (j+1):=by
 have e:jC p (j+1)=jC p j:=by rw[Cf,hp];simp
 refine⟨h.rel.below hd,h.row.below hd,h.size,by rw[e];exact h.len,Nat.lt_succ_of_lt h.lt,by rw[e];exact h.low,fun u hu=>h.high u ?_⟩
 have:=Eh (z:=z) (show j<j+1 by omega)
 omega
theorem KInv.keep (h:KInv p z w wr b cur ck i j)(hp:p j=false)(hd:Below wr.heap.size wr w2){vs:List Value}(hl:vs.length=z)(hv:∀q,q<z→vs[q]? =cur[j*z+q]?)(hj:j*z+z≤cur.size):∃ck',KInv p z w (w2.setCells b (i*z) vs) b cur ck' (i+1) (j+1):=by
 have e:jC p (j+1)=jC p j++[j]:=by rw[Cf,hp];simp
 have hij:=Eh (z:=z) h.lt
 have hj1:=Eh (z:=z) (show j<j+1 by omega)
 obtain⟨ck',h1,h2,h3⟩:=cB b vs (i*z) w2 ck (h.row.below hd) (by rw[hl,h.size];omega)
 have bel:=bj b 0 (Nat.zero_le _) vs (i*z) w2 w2 (Below.refl _ _)
 have d2:=h.rel.below hd
 refine⟨ck',⟨bel.os.trans d2.os,bel.tape.trans d2.tape,bel.output.trans d2.output,by rw[cC];exact d2.size,fun k hk hb=>(cu b vs (i*z) w2 k hb).trans (d2.block k hk hb)⟩,h1,h2.trans h.size,by rw[e,Zp,←h.len];rfl,Nat.succ_lt_succ h.lt,fun t u htu q hq=> ?_,fun u hu=> ?_⟩
 ·rw[e]at htu
  rw[h3]
  by_cases ht:t<i
  ·rw[Ze (by rw[←h.len];exact ht)]at htu
   have:=Jm ht hq
   rw[if_neg (by omega)]
   exact h.low t u htu q hq
  ·have htl:=(Zb.1 htu).1
   rw[Zp,←h.len]at htl
   simp only[Zo,List.length_nil]at htl
   obtain rfl:t=i:=by omega
   rw[Zj (by rw[←h.len];exact Zk _),←h.len,Nat.sub_self,List.getElem?_cons_zero]at htu
   cases htu
   rw[if_pos ⟨by omega,by omega⟩,show t*z+q-t*z=q by omega]
   exact hv q hq
 ·rw[h3,if_neg (by omega)]
  exact h.high u (by omega)
theorem KInv.done (h:KInv p z w wr b cur ck i j){vs:List Value}(hl:vs.length=(j-i)*z)(hj:j*z≤cur.size):∃ck',eY (wr.setCells b (i*z) vs) b ck'∧ck'.size=cur.size∧DRel w (wr.setCells b (i*z) vs) b∧∀(t u:Nat),(jC p j)[t]? =some u→∀q,q<z→ck'[t*z+q]? =cur[u*z+q]? :=by
 have hm:i*z+(j-i)*z=j*z:=by rw[←Z9,show i+(j-i)=j by have:=h.lt;omega]
 obtain⟨ck',h1,h2,h3⟩:=cB b vs (i*z) wr ck h.row (by rw[hl,h.size,hm];exact hj)
 have bel:=bj b 0 (Nat.zero_le _) vs (i*z) wr wr (Below.refl _ _)
 refine⟨ck',h1,h2.trans h.size,⟨bel.os.trans h.rel.os,bel.tape.trans h.rel.tape,bel.output.trans h.rel.output,by rw[cC];exact h.rel.size,fun k hk hb=>(cu b vs (i*z) wr k hb).trans (h.rel.block k hk hb)⟩,fun t u htu q hq=> ?_⟩
 have ht:t<i:=by rw[h.len];exact(Zb.1 htu).1
 have:=Jm ht hq
 rw[h3,if_neg (by omega)]
 exact h.low t u htu q hq
end
theorem FZ {zs:Array Value}{n:Nat}{P:Value→Prop}(h:∀v∈zs,P v)(hz:0<zs.size):∀v∈(Builtin.zeroCells zs n).toList,P v:=by
 intro v hv
 simp only[Builtin.zeroCells,Array.toList_map,List.mem_map]at hv
 obtain⟨i,_,rfl⟩:=hv
 have hlt:=Nat.mod_lt i hz
 rw[getElem!_pos zs _ hlt]
 exact h _ (Array.getElem_mem hlt)
theorem KU {P:Program}(w:World)(t e ty:TypeId)(zv:Value)(z:Nat)(ht:P.underlying t=some (.slice e))(hv:∀w,(zeroValue e).run P w= .ok zv w)(hz:zv.cells.size=z)(hz0:0<z)(h1:∀v∈zv.cells,v.oneCell'=true)(b o n c:Nat)(hn:0<n)
 (hc:∀j,j<n*z→(w.cell? ⟨b,o+j,none⟩).isSome=true) (hf:∀j,j<n*z→w.frozen? ⟨b,o+j,none⟩=false):
 (Builtin.clear_ #[t] ty #[.slice (some ⟨b,o,none⟩) n c]).run P w= .ok (.tuple #[]) (w.setCells b o (Builtin.zeroCells zv.cells n).toList):=by
 have hl:(Builtin.zeroCells zv.cells n).toList.length=n*z:=by rw[Array.length_toList,←hz];unfold Builtin.zeroCells;rw[Array.size_map,Array.size_range]
 have hst:=run_storeCells_cells (P:=P) b o (Builtin.zeroCells zv.cells n).toList 0 w (by rw[hl];simpa using hc) (by rw[hl];simpa using hf) (FZ h1 (by omega))
 simp only[Nat.add_zero]at hst
 obtain⟨m,rfl⟩:∃m,n=m+1:=⟨n-1,by omega⟩
 simp[Builtin.clear_,run_underlying ht,hv,hst]
theorem jH {w W:World}{b o:Nat}{v:Value}(h:w.cell? ⟨b,o,none⟩=some v)(g:Below w.heap.size w W):W.cell? ⟨b,o,none⟩=some v:=by
 have hlt:b<w.heap.size:=by
  rcases Nat.lt_or_ge b w.heap.size with q|q
  ·exact q
  ·simp[World.cell?,Array.getElem?_eq_none q]at h
 unfold World.cell? at*
 rw[g.block b hlt]
 exact h
theorem qy {w W W':World}(h:Below w.heap.size w W)(g:Below W.heap.size W W'):Below w.heap.size w W':=
 ⟨g.os.trans h.os,g.tape.trans h.tape,g.output.trans h.output,Zc h.size g.size,fun k hk=>(g.block k (Z7 hk h.size)).trans (h.block k hk)⟩
theorem tA (w:World)(o:Obj):Below w.heap.size w (w.alloc o):=⟨rfl,rfl,rfl,by simp,fun k hk=>dC w o k hk⟩
def UQ (P:Program)(f z:Nat):Prop:=
 ∀(w:World)(fc:FuncId)(cs:Array Value)(p:Nat→Bool),(∀args w,(callFunc fc args).run P w= .ok (.enter fc args) w)→
  (∀ad:Option Addr,Calls P f #[.slice ad 0 0, .func (.func fc) #[] cs] w fun e w'=>e= .returned (.slice ad 0 0)∧Below w.heap.size w w')∧
  ∀(b n cap:Nat)(cur:Array Value),eY w b cur→cur.size=cap*z→n≤cap→cap≤maxLen→(∀(u:Nat)v,u<n*z→cur[u]? =some v→v.oneCell'=true)→
   (∀j,j<n→∀W,DRel w W b→Calls P fc (#[.agg (cur.extract (j*z) (j*z+z))]++cs) W fun e W'=>e= .returned (.bool (p j))∧Below W.heap.size W W')→
   Calls P f #[.slice (some ⟨b,0,none⟩) n cap, .func (.func fc) #[] cs] w fun e w'=>∃cur',e= .returned (.slice (some ⟨b,0,none⟩) (jC p n).length cap)∧eY w' b cur'∧cur'.size=cur.size∧DRel w w' b∧
    ∀(t u:Nat),(jC p n)[t]? =some u→∀q,q<z→cur'[t*z+q]? =cur[u*z+q]?
theorem J1 (p:List PV→Bool)(es:List (List PV)):(jC (fun j=>match es[j]? with|some e=>p e|none=>false) es.length).length=(es.filter fun e=> !p e).length∧
 ∀(t:Nat)(e:List PV),(es.filter fun e=> !p e)[t]? =some e→∃u,(jC (fun j=>match es[j]? with|some e=>p e|none=>false) es.length)[t]? =some u∧es[u]? =some e:=by
 have key:∀k,k≤es.length→(es.take k).filter (fun e=> !p e)=(jC (fun j=>match es[j]? with|some e=>p e|none=>false) k).filterMap (fun u=>es[u]?)∧
  (jC (fun j=>match es[j]? with|some e=>p e|none=>false) k).length=((es.take k).filter (fun e=> !p e)).length:=by
  intro k
  induction k with
  |zero=>intro _;simp[jC]
  |succ k ih=>
   intro hk
   obtain⟨i1,i2⟩:=ih (by omega)
   have hlt:k<es.length:=by omega
   rw[Zx hlt,List.filter_append,Cf,List.filterMap_append,Zp,Zp,←i1,←i2,Zl hlt]
   cases h:p es[k]<;>simp[List.filter_cons,h,hlt]
 obtain⟨k1,k2⟩:=key es.length (Zk _)
 rw[List.take_length]at k1 k2
 refine⟨k2,fun t e he=> ?_⟩
 generalize hK:jC (fun j=>match es[j]? with|some e=>p e|none=>false) es.length=K at k1 k2
 have hall:∀u∈K,∃x,es[u]? =some x:=fun u hu=>by
  rw[←hK]at hu
  obtain⟨i,hi⟩:=List.mem_iff_getElem?.1 hu
  exact⟨_,Zl (Ro hi)⟩
 have hfm:∀(K:List Nat),(∀u∈K,∃x,es[u]? =some x)→∀(t:Nat)(e:List PV),(K.filterMap fun u=>es[u]?)[t]? =some e→∃u,K[t]? =some u∧es[u]? =some e:=by
  intro K
  induction K with
  |nil=>intro _ t e h;simp at h
  |cons u K ih=>
   intro ha t e h
   obtain⟨x,hx⟩:=ha u (by simp)
   rw[List.filterMap_cons,hx]at h
   cases t with
   |zero=>simp only[List.getElem?_cons_zero]at h;cases h;exact⟨u,rfl,hx⟩
   |succ t=>simp only[List.getElem?_cons_succ]at h⊢;exact ih (fun u hu=>ha u (by simp[hu])) t e h
 rw[k1]at he
 exact hfm K hall t e he
theorem SL {Γ:Ctx}{P:Program}{f z:Nat}(hv:UQ P f z):Sx Γ P f z:=by
 intro c cs es p hth hsd
 have ent:∀fc,kf fc=some c→∀(args:Array Value)(w:World),(callFunc fc args).run P w= .ok (.enter fc args) w:=fun fc hfc args w=>by
  obtain⟨fn,h1,h2,h3⟩:=hth fc hfc
  simp only[callFunc,run_program,Sem.run_bind,Result.andThen_ok,h1,h2,h3]
  simp
 constructor
 ·intro hes M w g ad hG hg
  obtain⟨fc,csv,rfl,hfc,hlen,hcap⟩:=hg
  exact(hv w fc csv (fun _=>false) (ent fc hfc)).1 ad
 ·intro hz hes
  refine⟨fun e he=>hes e (List.mem_filter.1 he).1,List.length_filter_le _ _,?_⟩
  intro M w g b cap cur hG hB hM hg hMb hrow hsz hn hcapm hread
  obtain⟨fc,csv,rfl,hfc,hlen,hcap⟩:=hg
  obtain⟨f1,f2⟩:=J1 p es
  obtain⟨pN,hpN⟩:∃pN:Nat→Bool,pN=fun j=>match es[j]? with|some e=>p e|none=>false:=⟨_,rfl⟩
  rw[←hpN]at f1 f2
  have hpe:∀j(hj:j<es.length),pN j=p es[j]:=fun j hj=>by rw[hpN];simp only[Zl hj]
  refine((hv w fc csv pN (ent fc hfc)).2 b es.length cap cur hrow hsz hn hcapm ?_ ?_).mono ?_
  ·intro u v hu hc
   have hd:=Nat.div_add_mod u z
   have hm:=Nat.mod_lt u hz
   have hj:u/z<es.length:=(Nat.div_lt_iff_lt_mul hz).2 hu
   have he:=Zl hj
   have hl:=hes _ (Zf hj)
   obtain⟨v',hv',hr⟩:=hread (u/z) _ (u%z) _ he (Zl (by rw[hl];exact hm))
   rw[Nat.mul_comm,hd,hc]at hv'
   cases hv'
   exact hr.one
  ·intro j hj W hW
   have he:=Zl hj
   have hl:=hes _ (Zf hj)
   have hgo:Go' M M w W:=⟨hW.size,fun _ _ h=>h,fun k hk hm=>hW.block k hk (fun e=>hm (e▸hMb))⟩
   have hGW:Γ.G W:=Γ.keep w W hG ⟨hW.os,hW.tape,hW.output,hW.size,fun k hk=>hW.block k (Z7 hk (Γ.size w hG)) (by omega)⟩
   have hrange:j*z+z≤cur.size:=by
    rw[hsz]
    calc j*z+z=(j+1)*z:=by rw[Z9,Nat.one_mul]
     _≤cap*z:=Z5 _ (by omega)
   have hs:=hsd _ (Zf hj) fc hfc
   rw[hpe j hj]
   have ha:pC M W (.agg (es[j].map .pv)::cs.map tD) (#[Value.agg (cur.extract (j*z) (j*z+z))]++csv).toList:=by
    refine⟨by simp[hlen],fun i x u hx hu=> ?_⟩
    cases i with
    |zero=>
     simp only[List.getElem?_cons_zero]at hx
     cases hx
     have hu2:Value.agg (cur.extract (j*z) (j*z+z))=u:=by simpa using hu
     rw[←hu2]
     refine⟨_,rfl,by simp[hl];omega,fun q l v hq hv=> ?_⟩
     rw[Zm]at hq
     cases hp:es[j][q]? with
     |none=>rw[hp]at hq;cases hq
     |some pv=>
      rw[hp]at hq
      cases hq
      have hqz:q<z:=by have:=(Zb.1 hp).1;omega
      obtain⟨v',hv',hr⟩:=hread j _ q pv he hp
      have hvv:(cur.extract (j*z) (j*z+z))[q]? =some v:=by rw[←Array.getElem?_toList];exact hv
      rw[Array.getElem?_extract,if_pos (by omega),hv']at hvv
      cases hvv
      exact aw.go hgo pv _ hr
    |succ i=>
     rw[List.getElem?_cons_succ,Zm]at hx
     have hu':csv[i]? =some u:=by simpa using hu
     cases hc:cs[i]? with
     |none=>rw[hc]at hx;cases hx
     |some e=>
      rw[hc]at hx
      cases hx
      exact((hcap i e u hc hu').go hgo).arg
   have hS:=hs.2 M W _ hGW (fun k hk=>Z7 (hM k hk) hW.size) ha
   refine hS.mono fun e w'⟨v,he',hb,ρ',_,hvr⟩=> ?_
   have hvr2:aw (Mu M ρ' []) w' (.bool (p es[j])) v:=hvr
   have:v= .bool (p es[j]):=by simpa only[aw]using hvr2
   subst this
   exact⟨he',hb⟩
  ·intro e w' ⟨cur',he,hr',hs',hd,hcells⟩
   refine⟨cur',by rw[he,f1],hr',hs',hd.os,hd.tape,hd.output,hd.size,hd.block,?_⟩
   intro i e j pv hi hj
   obtain⟨u,hu,heu⟩:=f2 i e hi
   have hgo:Go' M M w w':=⟨hd.size,fun _ _ h=>h,fun k hk hm=>hd.block k hk (fun e=>hm (e▸hMb))⟩
   have hjz:j<z:=by
    have h1:=(Zb.1 hj).1
    rw[hes e (Zi heu)]at h1;exact h1
   obtain⟨v,hv',hr⟩:=hread u e j pv heu hj
   exact⟨v,by rw[hcells i u hu j hjz];exact hv',hr⟩
end Gi
namespace Gi
open Go Go.RowKit
mutual
def Vn :PTy→Bool
 | .lst ts=>decide (ts.length≤64)&&Ms ts
 |_=>true
def Ms :List PTy→Bool
 |[]=>true
 |t::ts=>Vn t&&Ms ts
end
mutual
theorem Td (mT:Int→List UInt8):∀(p:PV)(t:PTy)(k:Int),oI t p→Vn t=true→(ky mT p k).2≤k+1+64*(sz p:Int)
 | .int κ n,t,k,h,hn=>by simp only[ky,sz];omega
 | .bool b,t,k,h,hn=>by simp only[ky,sz];omega
 | .str s,t,k,h,hn=>by simp only[ky,sz];omega
 | .lst rows,t,k,h,hn=>by
  cases t with
  |lst ts=>
   simp only[Vn,Zg,decide_eq_true_eq]at hn
   have:=Ig mT rows ts k (aX h).2 hn.1 hn.2
   rw[lN]
   simp only[ky]
   omega
  |int κ=>simp[oI]at h
  |bool=>simp[oI]at h
  |str=>simp[oI]at h
theorem NS (mT:Int→List UInt8):∀(ps:List PV)(ts:List PTy)(k:Int),bF ts ps→Ms ts=true→(o8 mT ps k).2≤k+ps.length+64*(fC ps:Int)
 |[],ts,k,h,hn=>by simp only[o8,fC,List.length_nil];omega
 |p::ps,[],k,h,hn=>by simp[bF]at h
 |p::ps,t::ts,k,h,hn=>by
  simp only[Ms,Zg]at hn
  have h1:oI t p∧bF ts ps:=by simpa only[bF]using h
  have a:=Td mT p t k h1.1 hn.1
  have b:=NS mT ps ts (ky mT p k).2 h1.2 hn.2
  simp only[o8,fC,Zo]
  omega
theorem Ig (mT:Int→List UInt8):∀(rows:List (List PV))(ts:List PTy)(k:Int),(∀r∈rows,bF ts r)→ts.length≤64→Ms ts=true→(gM mT rows k).2≤k+64*((rows.length:Int)+(db rows:Int))
 |[],ts,k,h,hl,hn=>by simp only[gM,db,List.length_nil];omega
 |r::rows,ts,k,h,hl,hn=>by
  have hr:=h r (by simp)
  have a:=NS mT r ts k hr hn
  have b:=Ig mT rows ts (o8 mT r k).2 (fun r m=>h r (by simp[m])) hl hn
  have:=kG hr
  simp only[gM,db,Zo]
  omega
end
theorem uR (mT:Int→List UInt8):∀(ps:List PV)(ts:List PTy)(k:Int),bF ts ps→Ms ts=true→(ij mT ps k).2≤k+64*(fC ps:Int)
 |[],ts,k,h,hn=>by simp only[ij,fC];omega
 |p::ps,[],k,h,hn=>by simp[bF]at h
 |p::ps,t::ts,k,h,hn=>by
  simp only[Ms,Zg]at hn
  have h1:oI t p∧bF ts ps:=by simpa only[bF]using h
  cases p with
  |lst rows=>
   cases t with
   |lst us=>
    have hn1:=hn.1
    simp only[Vn,Zg,decide_eq_true_eq]at hn1
    have a:=Ig mT rows us k (aX h1.1).2 hn1.1 hn1.2
    have b:=uR mT ps ts (gM mT rows k).2 h1.2 hn.2
    simp only[ij,fC,lN]
    omega
   |int κ=>simp[oI]at h1
   |bool=>simp[oI]at h1
   |str=>simp[oI]at h1
  |int κ n=>have b:=uR mT ps ts k h1.2 hn.2;simp only[ij,fC];omega
  |bool c=>have b:=uR mT ps ts k h1.2 hn.2;simp only[ij,fC];omega
  |str s=>have b:=uR mT ps ts k h1.2 hn.2;simp only[ij,fC];omega
theorem Tp {ts:List PTy}{ps:List PV}(h:bF ts ps):(ig ts ps).map cS=ps.map .pv:=by
 refine gI (P:=fun ts ps=>(ig ts ps).map cS=ps.map .pv) rfl ?_ ?_ ts ps h
 ·intro us rows ts ps _ _ ih
  cases rows<;>simp only[ig,wB,Zu,cS,ih]
 ·intro t p ts ps h1 ht hp _ ih
  simp only[ig,xH ht h1,Zu,cS,ih]
theorem PT {ts:List PTy}{ps:List PV}(h:bF ts ps)(hh:List AObj):qL hh (.agg (ig ts ps))=(.agg (jp hh.length ts ps),hh++gO ts ps):=by
 have key:∀(ts:List PTy)(ps:List PV),bF ts ps→∀hh:List AObj,∃ds,thawL hh (ig ts ps)=(jp hh.length ts ps,hh++ds)∧ds.map AObj.zone=gO ts ps:=by
  refine gI ?_ ?_ ?_
  ·intro hh;exact⟨[],by simp[ig,thawL,jp],rfl⟩
  ·intro us rows ts ps _ _ ih hh
   cases rows with
   |nil=>
    obtain⟨ds,e1,e2⟩:=ih (hh++[.arr us.length []])
    refine⟨.arr us.length []::ds,?_,by simp only[Zu,e2,AObj.zone,gO]⟩
    simp only[ig,wB,thawL,e1,jp,Zp,Z0,Zn,Zr,Zt]
   |cons r rows=>
    obtain⟨ds,e1,e2⟩:=ih (hh++[.darr us.length (r::rows)])
    refine⟨.darr us.length (r::rows)::ds,?_,by simp only[Zu,e2,AObj.zone,gO]⟩
    simp only[ig,wB,thawL,e1,jp,Zp,Z0,Zn,Zr,Zt]
  ·intro t p ts ps h1 ht hp _ ih hh
   obtain⟨ds,e1,e2⟩:=ih hh
   refine⟨ds,?_,by rw[e2,hX ht]⟩
   simp only[ig,xH ht h1]
   rw[lY ht]
   simp only[thawL,e1]
 obtain⟨ds,e1,_⟩:=key ts ps h hh
 obtain⟨ds',f1,f2⟩:=key ts ps h []
 simp only[qL,thaw,e1,f1,Zt,f2]
end Gi
namespace Gi
open Go Go.RowKit
set_option maxHeartbeats 8000000
set_option maxRecDepth 8000
attribute [local simp] start f8 aB am aK aW bo cj Opd.ev put V.cells plain bi fT isInt isStr isBool bin cA un asList L.view az V.view viewL aS aA cN bJ comp aM bA ar V.flat L.flat cT cS bq putAt freezeVs freezeLs freezeL V.mut L.mut lent AObj.unz L.unsub sQ yv la vC mD AO PV.bare PV.flat kY dw thaw thawL AObj.zone iJ vt FS gJ qH Qu Vc Qv MS.ts gY iN kj hC ki
def qs (c3 c4 c6 c7 c8 c9:List (List PV))(k:Int):List (List (List PV)×Int):=
 let q3:=gM d8 c3 k
 let q4:=gM d8 c4 q3.2
 let q6:=gM d8 c6 q4.2
 let q7:=gM d8 c7 q6.2
 let q8:=gM d8 c8 q7.2
 let q9:=gM d8 c9 q8.2
 [q3,q4,q6,q7,q8,q9]
def WR (c0:Int)(c1:Bool)(c2:Int)(c3 c4:List (List PV))(c5:Int)(c6 c7 c8 c9:List (List PV)):List PV:=[.int .i64 c0, .bool c1, .int .i64 c2, .lst c3, .lst c4, .int .i64 c5, .lst c6, .lst c7, .lst c8, .lst c9]
def WP (c0:Int)(c1:Bool)(c2:Int)(c3 c4:List (List PV))(c5:Int)(c6 c7 c8 c9:List (List PV)):List L:=[.pv (.int .i64 c0), .pv (.bool c1), .pv (.int .i64 c2), .pv (.lst c3), .pv (.lst c4), .pv (.int .i64 c5), .pv (.lst c6), .pv (.lst c7), .pv (.lst c8), .pv (.lst c9)]
end Gi
