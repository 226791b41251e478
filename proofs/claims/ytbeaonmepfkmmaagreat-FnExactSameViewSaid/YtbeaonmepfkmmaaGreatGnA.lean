/- Of this proof. -/
import Derived.Test.YtbeaonmepfkmmaaGreatGsr
import Derived.Test.YtbeaonmepfkmmaaGreatGxt
import Derived.Lib.Bytealg
import Derived.Test.YtbeaonmepfkmmaaGreatGip
import Derived.Test.YtbeaonmepfkmmaaGreatGpr
set_option linter.unusedSimpArgs false
set_option linter.unusedVariables false
namespace Gi
open Go Go.RowKit
set_option maxHeartbeats 4000000
set_option maxRecDepth 4000
def aC :Nat→List V→Option V:=fun k xz=>match k,xz with
 |363,[.one (.pv (.str a)), .one (.pv (.str b))]=>some (ai .i64 (Lib.compareBytes a b))
 |_,_=>none
theorem bG :qS (ag Ph aC):=MB fun k xz r h=>by
 unfold aC at h
 split at h
 ·cases h;rfl
 ·cases h
theorem Ln {a b:List UInt8}:j3 .neq a b=some (aD (!(a==b))):=rfl
theorem Lm {a b:List UInt8}:j3 .eql a b=some (aD (a==b)):=rfl
theorem nu :IntKind.i64.wrap 1=1:=by rw[IntKind.wrap_i64];rfl
theorem OL {j n:Nat}(hn:n≤maxLen)(hj:j+1<n):IntKind.i64.wrap ((j:Int)+1+1)=(j:Int)+1+1∧IntKind.i64.wrap (j:Int)=(j:Int)∧(0:Int)<(j:Int)+1∧(0:Int)≤(j:Int)+1∧((j:Int)+1).toNat=j+1∧(j:Int)+1<(n:Int):=by
 unfold maxLen at hn
 refine⟨?_,?_,by omega,by omega,by omega,by omega⟩<;>rw[IntKind.wrap_i64]<;>omega
theorem gV {m z:Nat}(hm:m≤4194304)(hz:z≤4096):m*z≤140737488355328∧m≤9223372036854775807∧m≤9223372036854775806∧m<9223372036854775807:=by
 refine⟨?_,by omega,by omega,by omega⟩
 calc m*z≤4194304*4096:=Nat.mul_le_mul hm hz
  _≤140737488355328:=by decide
theorem tY {α:Type}{e:α→List PV}{xs:List α}{k:Nat}(hk:k<xs.length):(xs.map e).take (k+1)=(xs.map e).take k++[e xs[k]]:=by
 rw[List.take_succ_eq_append_getElem (by simpa using hk)];simp
theorem kl {α:Type}{e:α→List PV}(h:∀x,(e x).all PV.flat=true)(xs:List α):m6 (xs.map e)=true:=by
 simp only[m6,List.all_map,List.all_eq_true,Function.comp];exact fun x _=>by simpa[List.all_eq_true]using h x
theorem fj {α:Type}{e:α→List PV}{z:Nat}(h:∀x,(e x).length=z)(xs:List α):((xs.map e).all fun r=>r.length==z)=true:=by
 simp only[List.all_map,List.all_eq_true,Function.comp,beq_iff_eq];exact fun x _=>h x
theorem xb (s:List UInt8):m6 (ae s)=true:=kl (e:=fun b:UInt8=>[PV.int .u8 b.toNat]) (fun _=>rfl) s
theorem eU (s:List UInt8):((ae s).all fun r=>r.length==1)=true:=fj (e:=fun b:UInt8=>[PV.int .u8 b.toNat]) (z:=1) (fun _=>rfl) s
def nd (z:Nat):List (List PV)→L
 |[]=> .nil
 |r::rs=> .down z (r::rs)
def pF (z:Nat):List (List PV)→L
 |[]=> .nil
 |r::rs=> .own z (r::rs)
def lL :List (List PV)→L
 |[]=> .nil
 |r::rs=> .pv (.lst (r::rs))
theorem Bi (z:Nat)(rows:List (List PV)):(rows=[]∧nd z rows= .nil)∨(rows≠[]∧nd z rows= .down z rows):=by
 cases rows with
 |nil=>exact .inl ⟨rfl,rfl⟩
 |cons r rs=>exact .inr ⟨by simp,rfl⟩
theorem bw {z:Nat}{rows:List (List PV)}:cV (nd z rows)=lL rows:=by cases rows<;>rfl
theorem aR {z:Nat}{rows:List (List PV)}:cV (pF z rows)=lL rows:=by cases rows<;>rfl
theorem aA {rows:List (List PV)}:cV (lL rows)=lL rows:=by cases rows<;>rfl
theorem ar {h:List AObj}{rows:List (List PV)}:L.view h (lL rows)=some (.lst rows):=by cases rows<;>rfl
theorem aj {rows:List (List PV)}:plain (lL rows)=true:=by cases rows<;>rfl
theorem aE {h:List AObj}{rows:List (List PV)}:L.mut h (lL rows)=false:=by cases rows<;>rfl
theorem ah {h:List AObj}{rows:List (List PV)}:freezeL h (lL rows)=h:=by cases rows<;>rfl
theorem aq {h:List AObj}{rows:List (List PV)}:bU h (lL rows)=some (lL rows):=by cases rows<;>rfl
theorem aO {f:List Nat}{rows:List (List PV)}:(lL rows).ren f=some (lL rows):=by cases rows<;>rfl
theorem am {o:Nat}{rows:List (List PV)}:L.notArr o (lL rows)=true:=by cases rows<;>rfl
theorem aZ {rows:List (List PV)}:L.flat (lL rows)=false:=by cases rows<;>rfl
theorem a9 {h:List AObj}{rows:List (List PV)}{ls:List L}:thawL h (lL rows::ls)=((lL rows::(thawL h ls).1),(thawL h ls).2):=by cases rows<;>rfl
theorem cy :aw []=[]:=rfl
theorem bI {p:PV}{ls:List L}:aw (.pv p::ls)=aw ls:=rfl
theorem aY {ls:List L}:aw (.nil::ls)=aw ls:=rfl
theorem aW {o:Nat}{ls:List L}:aw (.arr o::ls)=o::aw ls:=rfl
theorem aX {rows:List (List PV)}{ls:List L}:aw (lL rows::ls)=aw ls:=by cases rows<;>rfl
theorem Kn.q (f:List Nat){t t':List V}{h h':List AObj}(ho:bK f h' f h:=by simp[bq,bo,bp,uW,b7,bg,bF,aP,dN,cu,bK,cH,L.ren,aO])(ht:bg f t t':=by simp[bq,bo,bp,uW,b7,bg,bF,aP,dN,cu,bK,cH,L.ren,aO])(nd:f.Nodup:=by decide):Kn ⟨t,h⟩ ⟨t',h'⟩:=Kn.of f nd ho ht
def eW :List AObj→Nat→List Nat
 |[],_=>[]
 |_::r,k=>k::eW r (k+1)
theorem NM :∀{h:List AObj}{k x:Nat},x∈eW h k→k≤x
 |_::_,_,_,h=>by
  rcases List.mem_cons.1 h with rfl|h
  ·exact Nat.le_refl _
  ·have:=NM h;omega
theorem Fb :∀(h:List AObj)(k:Nat),(eW h k).Nodup
 |[],_=>List.nodup_nil
 |_::r,k=>List.nodup_cons.2 ⟨fun h=>by have:=NM h;omega,Fb r (k+1)⟩
theorem cd {t t':List V}{h h':List AObj}(hh:bK (eW h 0) h' (eW h 0) h∧bg (eW h 0) t t'):Kn ⟨t,h⟩ ⟨t',h'⟩:=Kn.of _ (Fb h 0) hh.1 hh.2
theorem dE {p:PV}:L.ow (.pv p)= .pv p:=rfl
theorem cD :L.ow .nil= .nil:=rfl
theorem cE {z:Nat}{rows:List (List PV)}:L.ow (.own z rows)= .own z rows:=rfl
theorem bO {z:Nat}{rows:List (List PV)}:L.ow (.down z rows)= .own z rows:=rfl
theorem dD {z:Nat}{rows:List (List PV)}:L.ow (nd z rows)=pF z rows:=by cases rows<;>rfl
theorem bP {z:Nat}{rows:List (List PV)}:L.ow (pF z rows)=pF z rows:=by cases rows<;>rfl
theorem cC {rows:List (List PV)}:L.ow (lL rows)=lL rows:=by cases rows<;>rfl
theorem vP (z:Nat)(rows:List (List PV)):(rows=[]∧nd z rows= .nil∧pF z rows= .nil)∨(rows≠[]∧nd z rows= .down z rows∧pF z rows= .own z rows):=by
 cases rows with
 |nil=>exact .inl ⟨rfl,rfl,rfl⟩
 |cons r rs=>exact .inr ⟨by simp,rfl,rfl⟩
abbrev XKey.v (x:XKey):V:= .agg [.pv (.int .i64 x.kind), .pv (.int .i64 x.n), .pv (.str x.text)]
abbrev XField.v (x:XField):V:= .agg [.pv (.str x.name), .pv (.int .i64 x.n)]
abbrev XRecord.v (x:XRecord):V:= .agg [.pv (.lst (x.fs.map XField.e))]
abbrev XItem.v (x:XItem):V:= .agg [.pv (.int .i64 x.key.kind), .pv (.int .i64 x.key.n), .pv (.str x.key.text), .pv (.lst (x.rcd.fs.map XField.e))]
abbrev XStore.v (x:XStore):V:= .agg [.pv (.str x.name), .pv (.lst (x.items.map XItem.e)), .pv (.int .i64 x.auto)]
abbrev XWrite.v (x:XWrite):V:= .agg [.pv (.int .i64 x.dev), .pv (.int .i64 x.seq), .pv (.int .i64 x.key.kind), .pv (.int .i64 x.key.n), .pv (.str x.key.text), .pv (.str x.field), .pv (.int .i64 x.n)]
abbrev XApplied.v (x:XApplied):V:= .agg [.pv (.int .i64 x.dev), .pv (.int .i64 x.seq)]
abbrev XServer.v (x:XServer):V:= .agg [.pv (.str x.store.name), .pv (.lst (x.store.items.map XItem.e)), .pv (.int .i64 x.store.auto), .pv (.lst (x.applied.map XApplied.e)), .pv (.lst (x.changes.map XWrite.e))]
abbrev XOutbox.v (x:XOutbox):V:= .agg [.pv (.int .i64 x.dev), .pv (.int .i64 x.next), .pv (.lst (x.writes.map XWrite.e))]
abbrev XSync.v (x:XSync):V:= .agg [.pv (.int .i64 x.outbox.dev), .pv (.int .i64 x.outbox.next), .pv (.lst (x.outbox.writes.map XWrite.e)), .pv (.int .i64 x.tries), .pv (.int .i64 x.wait)]
abbrev XReplica.v (x:XReplica):V:= .agg [.pv (.str x.base.name), .pv (.lst (x.base.items.map XItem.e)), .pv (.int .i64 x.base.auto), .pv (.int .i64 x.seen), .pv (.int .i64 x.sync.outbox.dev), .pv (.int .i64 x.sync.outbox.next), .pv (.lst (x.sync.outbox.writes.map XWrite.e)), .pv (.int .i64 x.sync.tries), .pv (.int .i64 x.sync.wait)]
abbrev XResponse.v (x:XResponse):V:= .agg [.pv (.int .i64 x.type), .pv (.int .i64 x.status), .pv (.int .i64 x.version), .pv (.lst (ae x.body)), .pv (.bool x.shares)]
abbrev XCached.v (x:XCached):V:= .agg [.pv (.str x.site), .pv (.str x.path), .pv (.int .i64 x.resp.type), .pv (.int .i64 x.resp.status), .pv (.int .i64 x.resp.version), .pv (.lst (ae x.resp.body)), .pv (.bool x.resp.shares)]
abbrev XCache.v (x:XCache):V:= .agg [.pv (.int .i64 x.version), .pv (.lst (x.entries.map XCached.e))]
abbrev XCacheSet.v (x:XCacheSet):V:= .agg [.pv (.lst (x.caches.map XCache.e))]
abbrev XRegistration.v (x:XRegistration):V:= .agg [.pv (.str x.site), .pv (.int .i64 x.installing), .pv (.int .i64 x.waiting), .pv (.int .i64 x.active)]
abbrev XLoaded.v (x:XLoaded):V:= .agg [.pv (.str x.path), .pv (.int .i64 x.version)]
abbrev XInstr.v (x:XInstr):V:= .agg [.pv (.int .i64 x.kind), .pv (.int .i64 x.r), .pv (.int .i64 x.n), .pv (.str x.text)]
abbrev XMachine.v (x:XMachine):V:= .agg [.pv (.lst (x.script.map XInstr.e)), .pv (.int .i64 x.pc), .pv (.lst (x.regs.map jS)), .pv (.int .i64 x.steps), .pv (.bool x.done), .pv (.bool x.wait)]
abbrev XPage.v (x:XPage):V:= .agg [.pv (.int .i64 x.id), .pv (.str x.site), .pv (.str x.top), .pv (.int .i64 x.version), .pv (.lst (x.loaded.map XLoaded.e)), .pv (.lst (x.machine.script.map XInstr.e)), .pv (.int .i64 x.machine.pc), .pv (.lst (x.machine.regs.map jS)), .pv (.int .i64 x.machine.steps), .pv (.bool x.machine.done), .pv (.bool x.machine.wait)]
abbrev XIndexDef.v (x:XIndexDef):V:= .agg [.pv (.str x.store), .pv (.str x.field)]
abbrev XDatabase.v (x:XDatabase):V:= .agg [.pv (.str x.name), .pv (.int .i64 x.version), .pv (.lst (x.stores.map XStore.e)), .pv (.lst (x.unique.map XIndexDef.e))]
abbrev XDisk.v (x:XDisk):V:= .agg [.pv (.str x.base.name), .pv (.int .i64 x.base.version), .pv (.lst (x.base.stores.map XStore.e)), .pv (.lst (x.base.unique.map XIndexDef.e)), .pv (.lst (ae x.log)), .pv (.int .i64 x.count)]
abbrev XBucket.v (x:XBucket):V:= .agg [.pv (.str x.site), .pv (.str x.top), .pv (.str x.reg.site), .pv (.int .i64 x.reg.installing), .pv (.int .i64 x.reg.waiting), .pv (.int .i64 x.reg.active), .pv (.lst (x.caches.caches.map XCache.e)), .pv (.str x.disk.base.name), .pv (.int .i64 x.disk.base.version), .pv (.lst (x.disk.base.stores.map XStore.e)), .pv (.lst (x.disk.base.unique.map XIndexDef.e)), .pv (.lst (ae x.disk.log)), .pv (.int .i64 x.disk.count), .pv (.str x.replica.base.name), .pv (.lst (x.replica.base.items.map XItem.e)), .pv (.int .i64 x.replica.base.auto), .pv (.int .i64 x.replica.seen), .pv (.int .i64 x.replica.sync.outbox.dev), .pv (.int .i64 x.replica.sync.outbox.next), .pv (.lst (x.replica.sync.outbox.writes.map XWrite.e)), .pv (.int .i64 x.replica.sync.tries), .pv (.int .i64 x.replica.sync.wait), .pv (.int .i64 x.lastUsed), .pv (.bool x.persistent)]
abbrev XStorage.v (x:XStorage):V:= .agg [.pv (.lst (x.buckets.map XBucket.e))]
abbrev XLock.v (x:XLock):V:= .agg [.pv (.str x.name), .pv (.int .i64 x.page), .pv (.bool x.shared), .pv (.bool x.held)]
abbrev XLockTable.v (x:XLockTable):V:= .agg [.pv (.lst (x.locks.map XLock.e))]
abbrev XMail.v (x:XMail):V:= .agg [.pv (.int .i64 x.to), .pv (.int .i64 x.sender), .pv (.int .i64 x.n)]
abbrev XChannel.v (x:XChannel):V:= .agg [.pv (.lst (x.mails.map XMail.e))]
abbrev XSite.v (x:XSite):V:= .agg [.pv (.str x.name), .pv (.int .i64 x.version), .pv (.lst (x.files.map UW)), .pv (.bool x.shared)]
abbrev XWorld.v (x:XWorld):V:= .agg [.pv (.int .i64 x.now), .pv (.bool x.online), .pv (.int .i64 x.device), .pv (.lst (x.storage.buckets.map XBucket.e)), .pv (.lst (x.pages.map XPage.e)), .pv (.int .i64 x.nextPage), .pv (.lst (x.locks.locks.map XLock.e)), .pv (.lst (x.channel.mails.map XMail.e)), .pv (.lst (x.sites.map XSite.e)), .pv (.lst (x.servers.map XServer.e))]
def cw (a b:Int):Bool:=decide (a<b)
theorem U4 (a b:Int):decide (a≤b)= !(cw b a):=by unfold cw;by_cases h:a≤b<;>simp[h]<;>omega
theorem eJ {a b:Int}(h:a<b):cw a b=true:=decide_eq_true h
theorem fB {a b:Int}(h:b≤a):cw a b=false:=decide_eq_false (by omega)
theorem qv :∀(a b:List UInt8),(Op.bytesLess a b||a==b)= !(Op.bytesLess b a)
 |[],[]=>rfl
 |[],_::_=>rfl
 |_::_,[]=>rfl
 |a::xz,b::bs=>by
  have ih:=qv xz bs
  simp only[Op.bytesLess]
  by_cases h1:a<b
  ·have h2:¬b<a:=fun h=>absurd (UInt8.lt_trans h1 h) (UInt8.lt_irrefl _)
   have h3:¬b=a:=fun h=>by subst h;exact absurd h1 (UInt8.lt_irrefl _)
   simp[h1,h2,h3]
  ·by_cases h2:b<a
   ·have h3:¬a=b:=fun h=>by subst h;exact absurd h2 (UInt8.lt_irrefl _)
    simp[h1,h2,h3]
   ·obtain rfl:a=b:=UInt8.le_antisymm (UInt8.not_lt.1 h2) (UInt8.not_lt.1 h1)
    simpa[UInt8.lt_irrefl]using ih
def fF (op:BinOp)(k:IntKind)(a b:Int):Option V:=
 match op with
 | .add=>some (ai k (k.wrap (a+b)))
 | .sub=>some (ai k (k.wrap (a-b)))
 | .mul=>some (ai k (k.wrap (a*b)))
 | .quo=>if b=0 then none else some (ai k (k.wrap (a.tdiv b)))
 | .rem=>if b=0 then none else some (ai k (a.tmod b))
 | .and=>some (ai k (k.wrap ((BitVec.ofInt k.bits a&&&BitVec.ofInt k.bits b).toNat)))
 | .or=>some (ai k (k.wrap ((BitVec.ofInt k.bits a|||BitVec.ofInt k.bits b).toNat)))
 | .eql=>some (aD (a==b))
 | .neq=>some (aD (!(a==b)))
 | .lss=>some (aD (cw a b))
 | .leq=>some (aD (!(cw b a)))
 | .gtr=>some (aD (cw b a))
 | .geq=>some (aD (!(cw a b)))
 |_=>none
theorem bM (op:BinOp)(k:IntKind)(a b:Int):ee op k a b=fF op k a b:=by cases op<;>simp only[ee,fF,U4]<;>rfl
def fG (op:BinOp)(a b:List UInt8):Option V:=
 match op with
 | .add=>if a.length+b.length≤9223372036854775807 then some (di (a++b))else none
 | .eql=>some (aD (a==b))
 | .neq=>some (aD (!(a==b)))
 | .lss=>some (aD (Op.bytesLess a b))
 | .leq=>some (aD (!(Op.bytesLess b a)))
 | .gtr=>some (aD (Op.bytesLess b a))
 | .geq=>some (aD (!(Op.bytesLess a b)))
 |_=>none
theorem bN (op:BinOp)(a b:List UInt8):j3 op a b=fG op a b:=by cases op<;>simp only[j3,fG,qv]<;>simp
theorem aU {n k:Nat}(hn:n≤maxLen)(hk:k<n):IntKind.i64.wrap ((k:Int)+1)=(k:Int)+1:=by
 unfold maxLen at hn;rw[IntKind.wrap_i64];omega
theorem a8 {n k:Nat}(h:k<n):cw (k:Int) (n:Int)=true:=eJ (by omega)
theorem dC (n:Nat):cw (n:Int) (n:Int)=false:=fB (Int.le_refl _)
theorem O5 {n k:Nat}(hn:n≤maxLen)(hk:k<n):(cw 0 (k:Int)=true→IntKind.i64.wrap ((k:Int)-1)=((k-1:Nat):Int))∧k-1<n:=by
 refine⟨fun h=> ?_,by omega⟩
 have:=of_decide_eq_true h
 unfold maxLen at hn;rw[IntKind.wrap_i64];omega
variable {KI:KF}
structure DRel (w W:World) (b:Nat):Prop where
 os:W.os=w.os
 tape:W.tape=w.tape
 output:W.output=w.output
 size:w.heap.size≤W.heap.size
 block:∀k,k<w.heap.size→k≠b→W.heap[k]? =w.heap[k]?
theorem DRel.below {w W W':World}{b:Nat}(h:DRel w W b)(g:Below W.heap.size W W'):DRel w W' b:=
 ⟨g.os.trans h.os,g.tape.trans h.tape,g.output.trans h.output,Nat.le_trans h.size g.size,fun k hk hb=>(g.block k (Nat.lt_of_lt_of_le hk h.size)).trans (h.block k hk hb)⟩
theorem Below.drel {w W:World}{b:Nat}(g:Below w.heap.size w W):DRel w W b:=⟨g.os,g.tape,g.output,g.size,fun k hk _=>g.block k hk⟩
theorem fD.below {w W:World}{b:Nat}{cur:Array Value}(h:fD w b cur)(g:Below w.heap.size w W):fD W b cur:=by
 obtain⟨T,hT⟩:=h
 have hlt:b<w.heap.size:=by
  rcases Nat.lt_or_ge b w.heap.size with q|q
  ·exact q
  ·rw[Array.getElem?_eq_none q]at hT;cases hT
 exact⟨T,(g.block b hlt).trans hT⟩
def jV (p:Nat→Bool)(n:Nat):List Nat:=(List.range n).filter fun j=> !p j
theorem Cy (p:Nat→Bool)(n:Nat):jV p (n+1)=jV p n++(if p n then []else [n]):=by
 unfold jV
 rw[List.range_succ,List.filter_append]
 congr 1
 cases h:p n<;>simp[List.filter_cons,h]
theorem QF {p:Nat→Bool}{n t u:Nat}(h:(jV p n)[t]? =some u):u<n:=by
 have:=List.mem_of_getElem? h
 simp only[jV,List.mem_filter,List.mem_range]at this
 exact this.1
theorem AG {p:Nat→Bool}{n:Nat}(h:∀j,j<n→p j=false):jV p n=List.range n:=by
 unfold jV
 rw[List.filter_eq_self]
 intro j hj
 rw[h j (by simpa using hj)];rfl
structure KInv (p:Nat→Bool) (z:Nat) (w wr:World) (b:Nat) (cur ck:Array Value) (i j:Nat):Prop where
 rel:DRel w wr b
 row:fD wr b ck
 size:ck.size=cur.size
 len:i=(jV p j).length
 lt:i<j
 low:∀(t u:Nat),(jV p j)[t]? =some u→∀q,q<z→ck[t*z+q]? =cur[u*z+q]?
 high:∀u,j*z≤u→ck[u]? =cur[u]?
theorem KInv.start {p:Nat→Bool}{z:Nat}{w wr:World}{b k:Nat}{cur:Array Value}(h:Below w.heap.size w wr)(hr:fD w b cur)(hk:p k=true)(hj:∀j,j<k→p j=false):KInv p z w wr b cur cur k (k+1):=by
 have e:jV p (k+1)=List.range k:=by rw[Cy,AG hj,hk];simp
 refine⟨Below.drel h,fD.below hr h,rfl,by rw[e,List.length_range],by omega,fun t u ht q hq=> ?_,fun _ _=>rfl⟩
 rw[e]at ht
 obtain⟨h1,h2⟩:=List.getElem?_eq_some_iff.1 ht
 simp at h2
 rw[h2]
theorem El {i j z:Nat}(h:i<j):i*z+z≤j*z:=by
 calc i*z+z=(i+1)*z:=by rw[Nat.add_mul,Nat.one_mul]
  _≤j*z:=Nat.mul_le_mul_right _ h
section
variable {p:Nat→Bool}{z:Nat}{w wr w2:World}{b i j:Nat}{cur ck:Array Value}
theorem KInv.skip (h:KInv p z w wr b cur ck i j)(hp:p j=true)(hd:Below wr.heap.size wr w2):KInv p z w w2 b cur ck i (j+1):=by
 have e:jV p (j+1)=jV p j:=by rw[Cy,hp];simp
 refine⟨h.rel.below hd,h.row.below hd,h.size,by rw[e];exact h.len,Nat.lt_succ_of_lt h.lt,by rw[e];exact h.low,fun u hu=>h.high u ?_⟩
 have:=El (z:=z) (show j<j+1 by omega)
 omega
theorem KInv.keep (h:KInv p z w wr b cur ck i j)(hp:p j=false)(hd:Below wr.heap.size wr w2){vs:List Value}(hl:vs.length=z)(hv:∀q,q<z→vs[q]? =cur[j*z+q]?)(hj:j*z+z≤cur.size):∃ck',KInv p z w (w2.setCells b (i*z) vs) b cur ck' (i+1) (j+1):=by
 have e:jV p (j+1)=jV p j++[j]:=by rw[Cy,hp];simp
 have hij:=El (z:=z) h.lt
 have hj1:=El (z:=z) (show j<j+1 by omega)
 obtain⟨ck',h1,h2,h3⟩:=cR b vs (i*z) w2 ck (h.row.below hd) (by rw[hl,h.size];omega)
 have bel:=bC b 0 (Nat.zero_le _) vs (i*z) w2 w2 (Below.refl _ _)
 have d2:=h.rel.below hd
 refine⟨ck',⟨bel.os.trans d2.os,bel.tape.trans d2.tape,bel.output.trans d2.output,by rw[cT];exact d2.size,fun k hk hb=>(cO b vs (i*z) w2 k hb).trans (d2.block k hk hb)⟩,h1,h2.trans h.size,by rw[e,List.length_append,←h.len];rfl,Nat.succ_lt_succ h.lt,fun t u htu q hq=> ?_,fun u hu=> ?_⟩
 ·rw[e]at htu
  rw[h3]
  by_cases ht:t<i
  ·rw[List.getElem?_append_left (by rw[←h.len];exact ht)]at htu
   have:=I5 ht hq
   rw[if_neg (by omega)]
   exact h.low t u htu q hq
  ·have htl:=(List.getElem?_eq_some_iff.1 htu).1
   rw[List.length_append,←h.len]at htl
   simp only[List.length_cons,List.length_nil]at htl
   obtain rfl:t=i:=by omega
   rw[List.getElem?_append_right (by rw[←h.len];exact Nat.le_refl _),←h.len,Nat.sub_self,List.getElem?_cons_zero]at htu
   cases htu
   rw[if_pos ⟨by omega,by omega⟩,show t*z+q-t*z=q by omega]
   exact hv q hq
 ·rw[h3,if_neg (by omega)]
  exact h.high u (by omega)
theorem KInv.done (h:KInv p z w wr b cur ck i j){vs:List Value}(hl:vs.length=(j-i)*z)(hj:j*z≤cur.size):∃ck',fD (wr.setCells b (i*z) vs) b ck'∧ck'.size=cur.size∧DRel w (wr.setCells b (i*z) vs) b∧∀(t u:Nat),(jV p j)[t]? =some u→∀q,q<z→ck'[t*z+q]? =cur[u*z+q]? :=by
 have hm:i*z+(j-i)*z=j*z:=by rw[←Nat.add_mul,show i+(j-i)=j by have:=h.lt;omega]
 obtain⟨ck',h1,h2,h3⟩:=cR b vs (i*z) wr ck h.row (by rw[hl,h.size,hm];exact hj)
 have bel:=bC b 0 (Nat.zero_le _) vs (i*z) wr wr (Below.refl _ _)
 refine⟨ck',h1,h2.trans h.size,⟨bel.os.trans h.rel.os,bel.tape.trans h.rel.tape,bel.output.trans h.rel.output,by rw[cT];exact h.rel.size,fun k hk hb=>(cO b vs (i*z) wr k hb).trans (h.rel.block k hk hb)⟩,fun t u htu q hq=> ?_⟩
 have ht:t<i:=by rw[h.len];exact(List.getElem?_eq_some_iff.1 htu).1
 have:=I5 ht hq
 rw[h3,if_neg (by omega)]
 exact h.low t u htu q hq
end
theorem FY {zs:Array Value}{n:Nat}{P:Value→Prop}(h:∀v∈zs,P v)(hz:0<zs.size):∀v∈(Builtin.zeroCells zs n).toList,P v:=by
 intro v hv
 simp only[Builtin.zeroCells,Array.toList_map,List.mem_map]at hv
 obtain⟨i,_,rfl⟩:=hv
 have hlt:=Nat.mod_lt i hz
 rw[getElem!_pos zs _ hlt]
 exact h _ (Array.getElem_mem hlt)
theorem Kv {P:Program}(w:World)(t e ty:TypeId)(zv:Value)(z:Nat)(ht:P.underlying t=some (.slice e))(hv:∀w,(zeroValue e).run P w= .ok zv w)(hz:zv.cells.size=z)(hz0:0<z)(h1:∀v∈zv.cells,v.oneCell'=true)(b o n c:Nat)(hn:0<n)
 (hc:∀j,j<n*z→(w.cell? ⟨b,o+j,none⟩).isSome=true) (hf:∀j,j<n*z→w.frozen? ⟨b,o+j,none⟩=false):
 (Builtin.clear_ #[t] ty #[.slice (some ⟨b,o,none⟩) n c]).run P w= .ok (.tuple #[]) (w.setCells b o (Builtin.zeroCells zv.cells n).toList):=by
 have hl:(Builtin.zeroCells zv.cells n).toList.length=n*z:=by rw[Array.length_toList,←hz];unfold Builtin.zeroCells;rw[Array.size_map,Array.size_range]
 have hst:=run_storeCells_cells (P:=P) b o (Builtin.zeroCells zv.cells n).toList 0 w (by rw[hl];simpa using hc) (by rw[hl];simpa using hf) (FY h1 (by omega))
 simp only[Nat.add_zero]at hst
 obtain⟨m,rfl⟩:∃m,n=m+1:=⟨n-1,by omega⟩
 simp[Builtin.clear_,run_underlying ht,hv,hst]
theorem j5 {w W:World}{b o:Nat}{v:Value}(h:w.cell? ⟨b,o,none⟩=some v)(g:Below w.heap.size w W):W.cell? ⟨b,o,none⟩=some v:=by
 have hlt:b<w.heap.size:=by
  rcases Nat.lt_or_ge b w.heap.size with q|q
  ·exact q
  ·simp[World.cell?,Array.getElem?_eq_none q]at h
 unfold World.cell? at*
 rw[g.block b hlt]
 exact h
theorem qV {w W W':World}(h:Below w.heap.size w W)(g:Below W.heap.size W W'):Below w.heap.size w W':=
 ⟨g.os.trans h.os,g.tape.trans h.tape,g.output.trans h.output,Nat.le_trans h.size g.size,fun k hk=>(g.block k (Nat.lt_of_lt_of_le hk h.size)).trans (h.block k hk)⟩
theorem ut (w:World)(o:Obj):Below w.heap.size w (w.alloc o):=⟨rfl,rfl,rfl,by simp,fun k hk=>dX w o k hk⟩
def TR (P:Program)(f z:Nat):Prop:=
 ∀(w:World)(fc:FuncId)(cs:Array Value)(p:Nat→Bool),(∀args w,(callFunc fc args).run P w= .ok (.enter fc args) w)→
  (∀ad:Option Addr,Calls P f #[.slice ad 0 0, .func (.func fc) #[] cs] w fun e w'=>e= .returned (.slice ad 0 0)∧Below w.heap.size w w')∧
  ∀(b n cap:Nat)(cur:Array Value),fD w b cur→cur.size=cap*z→n≤cap→cap≤maxLen→(∀(u:Nat)v,u<n*z→cur[u]? =some v→v.oneCell'=true)→
   (∀j,j<n→∀W,DRel w W b→Calls P fc (#[.agg (cur.extract (j*z) (j*z+z))]++cs) W fun e W'=>e= .returned (.bool (p j))∧Below W.heap.size W W')→
   Calls P f #[.slice (some ⟨b,0,none⟩) n cap, .func (.func fc) #[] cs] w fun e w'=>∃cur',e= .returned (.slice (some ⟨b,0,none⟩) (jV p n).length cap)∧fD w' b cur'∧cur'.size=cur.size∧DRel w w' b∧
    ∀(t u:Nat),(jV p n)[t]? =some u→∀q,q<z→cur'[t*z+q]? =cur[u*z+q]?
theorem JI (p:List PV→Bool)(es:List (List PV)):(jV (fun j=>match es[j]? with|some e=>p e|none=>false) es.length).length=(es.filter fun e=> !p e).length∧
 ∀(t:Nat)(e:List PV),(es.filter fun e=> !p e)[t]? =some e→∃u,(jV (fun j=>match es[j]? with|some e=>p e|none=>false) es.length)[t]? =some u∧es[u]? =some e:=by
 have key:∀k,k≤es.length→(es.take k).filter (fun e=> !p e)=(jV (fun j=>match es[j]? with|some e=>p e|none=>false) k).filterMap (fun u=>es[u]?)∧
  (jV (fun j=>match es[j]? with|some e=>p e|none=>false) k).length=((es.take k).filter (fun e=> !p e)).length:=by
  intro k
  induction k with
  |zero=>intro _;simp[jV]
  |succ k ih=>
   intro hk
   obtain⟨i1,i2⟩:=ih (by omega)
   have hlt:k<es.length:=by omega
   rw[List.take_succ_eq_append_getElem hlt,List.filter_append,Cy,List.filterMap_append,List.length_append,List.length_append,←i1,←i2,List.getElem?_eq_getElem hlt]
   cases h:p es[k]<;>simp[List.filter_cons,h,hlt]
 obtain⟨k1,k2⟩:=key es.length (Nat.le_refl _)
 rw[List.take_length]at k1 k2
 refine⟨k2,fun t e he=> ?_⟩
 generalize hK:jV (fun j=>match es[j]? with|some e=>p e|none=>false) es.length=K at k1 k2
 have hall:∀u∈K,∃x,es[u]? =some x:=fun u hu=>by
  rw[←hK]at hu
  obtain⟨i,hi⟩:=List.mem_iff_getElem?.1 hu
  exact⟨_,List.getElem?_eq_getElem (QF hi)⟩
 have hfm:∀(K:List Nat),(∀u∈K,∃x,es[u]? =some x)→∀(t:Nat)(e:List PV),(K.filterMap fun u=>es[u]?)[t]? =some e→∃u,K[t]? =some u∧es[u]? =some e:=by
  intro K
  induction K with
  |nil=>intro _ t e h;simp at h
  |cons u K ih=>
   intro ha t e h
   obtain⟨x,hx⟩:=ha u (by simp)
   rw[List.filterMap_cons,hx]at h
   cases t with
   |zero=>simp only[List.getElem?_cons_zero]at h;cases h;exact⟨u,rfl,hx⟩
   |succ t=>simp only[List.getElem?_cons_succ]at h⊢;exact ih (fun u hu=>ha u (by simp[hu])) t e h
 rw[k1]at he
 exact hfm K hall t e he
theorem RS {Γ:Ctx}{P:Program}{f z:Nat}(hv:TR P f z):RE Γ P f z:=by
 intro c cs es p hth hsd
 have ent:∀fc,kf fc=some c→∀(args:Array Value)(w:World),(callFunc fc args).run P w= .ok (.enter fc args) w:=fun fc hfc args w=>by
  obtain⟨fn,h1,h2,h3⟩:=hth fc hfc
  simp only[callFunc,run_program,Sem.run_bind,Result.andThen_ok,h1,h2,h3]
  simp
 constructor
 ·intro hes M w g ad hG hg
  obtain⟨fc,csv,rfl,hfc,hlen,hcap⟩:=hg
  exact(hv w fc csv (fun _=>false) (ent fc hfc)).1 ad
 ·intro hz hes
  refine⟨fun e he=>hes e (List.mem_filter.1 he).1,List.length_filter_le _ _,?_⟩
  intro M w g b cap cur hG hB hM hg hMb hrow hsz hn hcapm hread
  obtain⟨fc,csv,rfl,hfc,hlen,hcap⟩:=hg
  obtain⟨f1,f2⟩:=JI p es
  obtain⟨pN,hpN⟩:∃pN:Nat→Bool,pN=fun j=>match es[j]? with|some e=>p e|none=>false:=⟨_,rfl⟩
  rw[←hpN]at f1 f2
  have hpe:∀j(hj:j<es.length),pN j=p es[j]:=fun j hj=>by rw[hpN];simp only[List.getElem?_eq_getElem hj]
  refine((hv w fc csv pN (ent fc hfc)).2 b es.length cap cur hrow hsz hn hcapm ?_ ?_).mono ?_
  ·intro u v hu hc
   have hd:=Nat.div_add_mod u z
   have hm:=Nat.mod_lt u hz
   have hj:u/z<es.length:=(Nat.div_lt_iff_lt_mul hz).2 hu
   have he:=List.getElem?_eq_getElem hj
   have hl:=hes _ (List.getElem_mem hj)
   obtain⟨v',hv',hr⟩:=hread (u/z) _ (u%z) _ he (List.getElem?_eq_getElem (by rw[hl];exact hm))
   rw[Nat.mul_comm,hd,hc]at hv'
   cases hv'
   exact hr.one
  ·intro j hj W hW
   have he:=List.getElem?_eq_getElem hj
   have hl:=hes _ (List.getElem_mem hj)
   have hgo:Go' M M w W:=⟨hW.size,fun _ _ h=>h,fun k hk hm=>hW.block k hk (fun e=>hm (e▸hMb))⟩
   have hGW:Γ.G W:=Γ.keep w W hG ⟨hW.os,hW.tape,hW.output,hW.size,fun k hk=>hW.block k (Nat.lt_of_lt_of_le hk (Γ.size w hG)) (by omega)⟩
   have hrange:j*z+z≤cur.size:=by
    rw[hsz]
    calc j*z+z=(j+1)*z:=by rw[Nat.add_mul,Nat.one_mul]
     _≤cap*z:=Nat.mul_le_mul_right _ (by omega)
   have hs:=hsd _ (List.getElem_mem hj) fc hfc
   rw[hpe j hj]
   have ha:pZ M W (.agg (es[j].map .pv)::cs.map rE) (#[Value.agg (cur.extract (j*z) (j*z+z))]++csv).toList:=by
    refine⟨by simp[hlen],fun i x u hx hu=> ?_⟩
    cases i with
    |zero=>
     simp only[List.getElem?_cons_zero]at hx
     cases hx
     have hu2:Value.agg (cur.extract (j*z) (j*z+z))=u:=by simpa using hu
     rw[←hu2]
     refine⟨_,rfl,by simp[hl];omega,fun q l v hq hv=> ?_⟩
     rw[List.getElem?_map]at hq
     cases hp:es[j][q]? with
     |none=>rw[hp]at hq;cases hq
     |some pv=>
      rw[hp]at hq
      cases hq
      have hqz:q<z:=by have:=(List.getElem?_eq_some_iff.1 hp).1;omega
      obtain⟨v',hv',hr⟩:=hread j _ q pv he hp
      have hvv:(cur.extract (j*z) (j*z+z))[q]? =some v:=by rw[←Array.getElem?_toList];exact hv
      rw[Array.getElem?_extract,if_pos (by omega),hv']at hvv
      cases hvv
      exact av.go hgo pv _ hr
    |succ i=>
     rw[List.getElem?_cons_succ,List.getElem?_map]at hx
     have hu':csv[i]? =some u:=by simpa using hu
     cases hc:cs[i]? with
     |none=>rw[hc]at hx;cases hx
     |some e=>
      rw[hc]at hx
      cases hx
      exact((hcap i e u hc hu').go hgo).arg
   have hS:=hs.2 M W _ hGW (fun k hk=>Nat.lt_of_lt_of_le (hM k hk) hW.size) ha
   refine hS.mono fun e w'⟨v,he',hb,ρ',_,hvr⟩=> ?_
   have hvr2:av (Mu M ρ' []) w' (.bool (p es[j])) v:=hvr
   have:v= .bool (p es[j]):=by simpa only[av]using hvr2
   subst this
   exact⟨he',hb⟩
  ·intro e w' ⟨cur',he,hr',hs',hd,hcells⟩
   refine⟨cur',by rw[he,f1],hr',hs',hd.os,hd.tape,hd.output,hd.size,hd.block,?_⟩
   intro i e j pv hi hj
   obtain⟨u,hu,heu⟩:=f2 i e hi
   have hgo:Go' M M w w':=⟨hd.size,fun _ _ h=>h,fun k hk hm=>hd.block k hk (fun e=>hm (e▸hMb))⟩
   have hjz:j<z:=by
    have h1:=(List.getElem?_eq_some_iff.1 hj).1
    rw[hes e (List.mem_of_getElem? heu)]at h1;exact h1
   obtain⟨v,hv',hr⟩:=hread u e j pv heu hj
   exact⟨v,by rw[hcells i u hu j hjz];exact hv',hr⟩
end Gi
namespace Gi
open Go Go.RowKit
theorem Np {ts:List PTy}{ps:List PV}(h:cP ts ps):(gW ts ps).map cV=ps.map .pv:=by
 refine vS (P:=fun ts ps=>(gW ts ps).map cV=ps.map .pv) rfl ?_ ?_ ts ps h
 ·intro us rows ts ps _ _ ih
  cases rows<;>simp only[gW,xv,List.map_cons,cV,ih]
 ·intro t p ts ps h1 ht hp _ ih
  simp only[gW,yx ht h1,List.map_cons,cV,ih]
theorem GC {ts:List PTy}{ps:List PV}(h:cP ts ps)(hh:List AObj):qN hh (.agg (gW ts ps))=(.agg (RN hh.length ts ps),hh++S3 ts ps):=by
 have key:∀(ts:List PTy)(ps:List PV),cP ts ps→∀hh:List AObj,∃ds,thawL hh (gW ts ps)=(RN hh.length ts ps,hh++ds)∧ds.map AObj.zone=S3 ts ps:=by
  refine vS ?_ ?_ ?_
  ·intro hh;exact⟨[],by simp[gW,thawL,RN],rfl⟩
  ·intro us rows ts ps _ _ ih hh
   cases rows with
   |nil=>
    obtain⟨ds,e1,e2⟩:=ih (hh++[.arr us.length []])
    refine⟨.arr us.length []::ds,?_,by simp only[List.map_cons,e2,AObj.zone,S3]⟩
    simp only[gW,xv,thawL,e1,RN,List.length_append,List.length_singleton,List.append_assoc,List.cons_append,List.nil_append]
   |cons r rows=>
    obtain⟨ds,e1,e2⟩:=ih (hh++[.darr us.length (r::rows)])
    refine⟨.darr us.length (r::rows)::ds,?_,by simp only[List.map_cons,e2,AObj.zone,S3]⟩
    simp only[gW,xv,thawL,e1,RN,List.length_append,List.length_singleton,List.append_assoc,List.cons_append,List.nil_append]
  ·intro t p ts ps h1 ht hp _ ih hh
   obtain⟨ds,e1,e2⟩:=ih hh
   refine⟨ds,?_,by rw[e2,Rw ht]⟩
   simp only[gW,yx ht h1]
   rw[P2 ht]
   simp only[thawL,e1]
 obtain⟨ds,e1,_⟩:=key ts ps h hh
 obtain⟨ds',f1,f2⟩:=key ts ps h []
 simp only[qN,thaw,e1,f1,List.nil_append,f2]
end Gi
namespace Gi
open Go Go.RowKit
set_option maxHeartbeats 8000000
set_option maxRecDepth 8000
attribute [local simp] start mr aG aK bA cI bZ cJ Opd.ev put V.cells plain bt gD isInt isStr isBool bin ee un asList L.view au V.view viewL aT az dO b6 comp aN bU aw V.flat L.flat cZ cV br putAt freezeVs freezeLs freezeL V.mut L.mut lent AObj.unz L.unsub xr CJ rB Ei tH Gz PV.bare PV.flat pG eG thaw thawL AObj.zone tV Jk LM ku Ue Uf UO Us MS.ts iA Uh pX mB pW
def qs (c3 c4 c6 c7 c8 c9:List (List PV))(k:Int):List (List (List PV)×Int):=
 let q3:=Rz GA c3 k
 let q4:=Rz GA c4 q3.2
 let q6:=Rz GA c6 q4.2
 let q7:=Rz GA c7 q6.2
 let q8:=Rz GA c8 q7.2
 let q9:=Rz GA c9 q8.2
 [q3,q4,q6,q7,q8,q9]
def WR (c0:Int)(c1:Bool)(c2:Int)(c3 c4:List (List PV))(c5:Int)(c6 c7 c8 c9:List (List PV)):List PV:=[.int .i64 c0, .bool c1, .int .i64 c2, .lst c3, .lst c4, .int .i64 c5, .lst c6, .lst c7, .lst c8, .lst c9]
def WP (c0:Int)(c1:Bool)(c2:Int)(c3 c4:List (List PV))(c5:Int)(c6 c7 c8 c9:List (List PV)):List L:=[.pv (.int .i64 c0), .pv (.bool c1), .pv (.int .i64 c2), .pv (.lst c3), .pv (.lst c4), .pv (.int .i64 c5), .pv (.lst c6), .pv (.lst c7), .pv (.lst c8), .pv (.lst c9)]
end Gi
