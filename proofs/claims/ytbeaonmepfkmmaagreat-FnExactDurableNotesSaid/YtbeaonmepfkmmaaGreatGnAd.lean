/- Of this proof. -/
import Derived.Test.YtbeaonmepfkmmaaGreatGsrd
import Derived.Test.YtbeaonmepfkmmaaGreatGxtd
import Derived.Lib.Bytealg
import Derived.Test.YtbeaonmepfkmmaaGreatGipd
import Derived.Test.YtbeaonmepfkmmaaGreatGprd
set_option linter.unusedSimpArgs false
set_option linter.unusedVariables false
namespace Gi
open Go Go.RowKit
set_option maxHeartbeats 4000000
set_option maxRecDepth 4000
def aN :Nat→List V→Option V:=fun k xz=>match k,xz with
 |363,[.one (.pv (.str a)), .one (.pv (.str b))]=>some (aa .i64 (Lib.compareBytes a b))
 |_,_=>none
theorem cC :pf (ah Ph aN):=LC fun k xz r h=>by
 unfold aN at h
 split at h
 ·cases h;rfl
 ·cases h
theorem Ki {a b:List UInt8}:iK .neq a b=some (aD (!(a==b))):=rfl
theorem Kh {a b:List UInt8}:iK .eql a b=some (aD (a==b)):=rfl
theorem ma :IntKind.i64.wrap 1=1:=by rw[IntKind.wrap_i64];rfl
theorem Ob {j n:Nat}(hn:n≤maxLen)(hj:j+1<n):IntKind.i64.wrap ((j:Int)+1+1)=(j:Int)+1+1∧IntKind.i64.wrap (j:Int)=(j:Int)∧(0:Int)<(j:Int)+1∧(0:Int)≤(j:Int)+1∧((j:Int)+1).toNat=j+1∧(j:Int)+1<(n:Int):=by
 unfold maxLen at hn
 refine⟨?_,?_,by omega,by omega,by omega,by omega⟩<;>rw[IntKind.wrap_i64]<;>omega
theorem iz {m z:Nat}(hm:m≤4194304)(hz:z≤4096):m*z≤140737488355328∧m≤9223372036854775807∧m≤9223372036854775806∧m<9223372036854775807:=by
 refine⟨?_,by omega,by omega,by omega⟩
 calc m*z≤4194304*4096:=Nat.mul_le_mul hm hz
  _≤140737488355328:=by decide
theorem rW {α:Type}{e:α→List PV}{xs:List α}{k:Nat}(hk:k<xs.length):(xs.map e).take (k+1)=(xs.map e).take k++[e xs[k]]:=by
 rw[List.take_succ_eq_append_getElem (by simpa using hk)];simp
theorem sF {α:Type}{e:α→List PV}(h:∀x,(e x).all PV.flat=true)(xs:List α):lG (xs.map e)=true:=by
 simp only[lG,List.all_map,List.all_eq_true,Function.comp];exact fun x _=>by simpa[List.all_eq_true]using h x
theorem gS {α:Type}{e:α→List PV}{z:Nat}(h:∀x,(e x).length=z)(xs:List α):((xs.map e).all fun r=>r.length==z)=true:=by
 simp only[List.all_map,List.all_eq_true,Function.comp,beq_iff_eq];exact fun x _=>h x
theorem uS (s:List UInt8):lG (ag s)=true:=sF (e:=fun b:UInt8=>[PV.int .u8 b.toNat]) (fun _=>rfl) s
theorem ej (s:List UInt8):((ag s).all fun r=>r.length==1)=true:=gS (e:=fun b:UInt8=>[PV.int .u8 b.toNat]) (z:=1) (fun _=>rfl) s
def nd (z:Nat):List (List PV)→L
 |[]=> .nil
 |r::rs=> .down z (r::rs)
def m9 (z:Nat):List (List PV)→L
 |[]=> .nil
 |r::rs=> .own z (r::rs)
def kI :List (List PV)→L
 |[]=> .nil
 |r::rs=> .pv (.lst (r::rs))
theorem zx (z:Nat)(rows:List (List PV)):(rows=[]∧nd z rows= .nil)∨(rows≠[]∧nd z rows= .down z rows):=by
 cases rows with
 |nil=>exact .inl ⟨rfl,rfl⟩
 |cons r rs=>exact .inr ⟨by simp,rfl⟩
theorem bH {z:Nat}{rows:List (List PV)}:cN (nd z rows)=kI rows:=by cases rows<;>rfl
theorem aY {z:Nat}{rows:List (List PV)}:cN (m9 z rows)=kI rows:=by cases rows<;>rfl
theorem aI {rows:List (List PV)}:cN (kI rows)=kI rows:=by cases rows<;>rfl
theorem aB {h:List AObj}{rows:List (List PV)}:L.view h (kI rows)=some (.lst rows):=by cases rows<;>rfl
theorem aq {rows:List (List PV)}:plain (kI rows)=true:=by cases rows<;>rfl
theorem aH {h:List AObj}{rows:List (List PV)}:L.mut h (kI rows)=false:=by cases rows<;>rfl
theorem am {h:List AObj}{rows:List (List PV)}:freezeL h (kI rows)=h:=by cases rows<;>rfl
theorem az {h:List AObj}{rows:List (List PV)}:bv h (kI rows)=some (kI rows):=by cases rows<;>rfl
theorem aW {f:List Nat}{rows:List (List PV)}:(kI rows).ren f=some (kI rows):=by cases rows<;>rfl
theorem ap {o:Nat}{rows:List (List PV)}:L.notArr o (kI rows)=true:=by cases rows<;>rfl
theorem bm {rows:List (List PV)}:L.flat (kI rows)=false:=by cases rows<;>rfl
theorem bo {h:List AObj}{rows:List (List PV)}{ls:List L}:thawL h (kI rows::ls)=((kI rows::(thawL h ls).1),(thawL h ls).2):=by cases rows<;>rfl
theorem cL :al []=[]:=rfl
theorem bK {p:PV}{ls:List L}:al (.pv p::ls)=al ls:=rfl
theorem bj {ls:List L}:al (.nil::ls)=al ls:=rfl
theorem bh {o:Nat}{ls:List L}:al (.arr o::ls)=o::al ls:=rfl
theorem bi {rows:List (List PV)}{ls:List L}:al (kI rows::ls)=al ls:=by cases rows<;>rfl
theorem Kn.q (f:List Nat){t t':List V}{h h':List AObj}(ho:bG f h' f h:=by simp[bA,bw,bz,sV,b8,aX,bu,aP,dN,co,bG,cJ,L.ren,aW])(ht:aX f t t':=by simp[bA,bw,bz,sV,b8,aX,bu,aP,dN,co,bG,cJ,L.ren,aW])(nd:f.Nodup:=by decide):Kn ⟨t,h⟩ ⟨t',h'⟩:=Kn.of f nd ho ht
def fQ :List AObj→Nat→List Nat
 |[],_=>[]
 |_::r,k=>k::fQ r (k+1)
theorem M8 :∀{h:List AObj}{k x:Nat},x∈fQ h k→k≤x
 |_::_,_,_,h=>by
  rcases List.mem_cons.1 h with rfl|h
  ·exact Nat.le_refl _
  ·have:=M8 h;omega
theorem Dx :∀(h:List AObj)(k:Nat),(fQ h k).Nodup
 |[],_=>List.nodup_nil
 |_::r,k=>List.nodup_cons.2 ⟨fun h=>by have:=M8 h;omega,Dx r (k+1)⟩
theorem cy {t t':List V}{h h':List AObj}(hh:bG (fQ h 0) h' (fQ h 0) h∧aX (fQ h 0) t t'):Kn ⟨t,h⟩ ⟨t',h'⟩:=Kn.of _ (Dx h 0) hh.1 hh.2
theorem dY {p:PV}:L.ow (.pv p)= .pv p:=rfl
theorem cR :L.ow .nil= .nil:=rfl
theorem cS {z:Nat}{rows:List (List PV)}:L.ow (.own z rows)= .own z rows:=rfl
theorem bQ {z:Nat}{rows:List (List PV)}:L.ow (.down z rows)= .own z rows:=rfl
theorem dX {z:Nat}{rows:List (List PV)}:L.ow (nd z rows)=m9 z rows:=by cases rows<;>rfl
theorem bR {z:Nat}{rows:List (List PV)}:L.ow (m9 z rows)=m9 z rows:=by cases rows<;>rfl
theorem cQ {rows:List (List PV)}:L.ow (kI rows)=kI rows:=by cases rows<;>rfl
theorem tH (z:Nat)(rows:List (List PV)):(rows=[]∧nd z rows= .nil∧m9 z rows= .nil)∨(rows≠[]∧nd z rows= .down z rows∧m9 z rows= .own z rows):=by
 cases rows with
 |nil=>exact .inl ⟨rfl,rfl,rfl⟩
 |cons r rs=>exact .inr ⟨by simp,rfl,rfl⟩
abbrev XKey.v (x:XKey):V:= .agg [.pv (.int .i64 x.kind), .pv (.int .i64 x.n), .pv (.str x.text)]
abbrev XField.v (x:XField):V:= .agg [.pv (.str x.name), .pv (.int .i64 x.n)]
abbrev XRecord.v (x:XRecord):V:= .agg [.pv (.lst (x.fs.map XField.e))]
abbrev XItem.v (x:XItem):V:= .agg [.pv (.int .i64 x.key.kind), .pv (.int .i64 x.key.n), .pv (.str x.key.text), .pv (.lst (x.rcd.fs.map XField.e))]
abbrev XStore.v (x:XStore):V:= .agg [.pv (.str x.name), .pv (.lst (x.items.map XItem.e)), .pv (.int .i64 x.auto)]
abbrev XWrite.v (x:XWrite):V:= .agg [.pv (.int .i64 x.dev), .pv (.int .i64 x.seq), .pv (.int .i64 x.key.kind), .pv (.int .i64 x.key.n), .pv (.str x.key.text), .pv (.str x.field), .pv (.int .i64 x.n)]
abbrev XApplied.v (x:XApplied):V:= .agg [.pv (.int .i64 x.dev), .pv (.int .i64 x.seq)]
abbrev XServer.v (x:XServer):V:= .agg [.pv (.str x.store.name), .pv (.lst (x.store.items.map XItem.e)), .pv (.int .i64 x.store.auto), .pv (.lst (x.applied.map XApplied.e)), .pv (.lst (x.changes.map XWrite.e))]
abbrev XOutbox.v (x:XOutbox):V:= .agg [.pv (.int .i64 x.dev), .pv (.int .i64 x.next), .pv (.lst (x.writes.map XWrite.e))]
abbrev XSync.v (x:XSync):V:= .agg [.pv (.int .i64 x.outbox.dev), .pv (.int .i64 x.outbox.next), .pv (.lst (x.outbox.writes.map XWrite.e)), .pv (.int .i64 x.tries), .pv (.int .i64 x.wait)]
abbrev XReplica.v (x:XReplica):V:= .agg [.pv (.str x.base.name), .pv (.lst (x.base.items.map XItem.e)), .pv (.int .i64 x.base.auto), .pv (.int .i64 x.seen), .pv (.int .i64 x.sync.outbox.dev), .pv (.int .i64 x.sync.outbox.next), .pv (.lst (x.sync.outbox.writes.map XWrite.e)), .pv (.int .i64 x.sync.tries), .pv (.int .i64 x.sync.wait)]
abbrev XResponse.v (x:XResponse):V:= .agg [.pv (.int .i64 x.type), .pv (.int .i64 x.status), .pv (.int .i64 x.version), .pv (.lst (ag x.body)), .pv (.bool x.shares)]
abbrev XCached.v (x:XCached):V:= .agg [.pv (.str x.site), .pv (.str x.path), .pv (.int .i64 x.resp.type), .pv (.int .i64 x.resp.status), .pv (.int .i64 x.resp.version), .pv (.lst (ag x.resp.body)), .pv (.bool x.resp.shares)]
abbrev XCache.v (x:XCache):V:= .agg [.pv (.int .i64 x.version), .pv (.lst (x.entries.map XCached.e))]
abbrev XCacheSet.v (x:XCacheSet):V:= .agg [.pv (.lst (x.caches.map XCache.e))]
abbrev XRegistration.v (x:XRegistration):V:= .agg [.pv (.str x.site), .pv (.int .i64 x.installing), .pv (.int .i64 x.waiting), .pv (.int .i64 x.active)]
abbrev XLoaded.v (x:XLoaded):V:= .agg [.pv (.str x.path), .pv (.int .i64 x.version)]
abbrev XInstr.v (x:XInstr):V:= .agg [.pv (.int .i64 x.kind), .pv (.int .i64 x.r), .pv (.int .i64 x.n), .pv (.str x.text)]
abbrev XMachine.v (x:XMachine):V:= .agg [.pv (.lst (x.script.map XInstr.e)), .pv (.int .i64 x.pc), .pv (.lst (x.regs.map sj)), .pv (.int .i64 x.steps), .pv (.bool x.done), .pv (.bool x.wait)]
abbrev XPage.v (x:XPage):V:= .agg [.pv (.int .i64 x.id), .pv (.str x.site), .pv (.str x.top), .pv (.int .i64 x.version), .pv (.lst (x.loaded.map XLoaded.e)), .pv (.lst (x.machine.script.map XInstr.e)), .pv (.int .i64 x.machine.pc), .pv (.lst (x.machine.regs.map sj)), .pv (.int .i64 x.machine.steps), .pv (.bool x.machine.done), .pv (.bool x.machine.wait)]
abbrev XIndexDef.v (x:XIndexDef):V:= .agg [.pv (.str x.store), .pv (.str x.field)]
abbrev XDatabase.v (x:XDatabase):V:= .agg [.pv (.str x.name), .pv (.int .i64 x.version), .pv (.lst (x.stores.map XStore.e)), .pv (.lst (x.unique.map XIndexDef.e))]
abbrev XDisk.v (x:XDisk):V:= .agg [.pv (.str x.base.name), .pv (.int .i64 x.base.version), .pv (.lst (x.base.stores.map XStore.e)), .pv (.lst (x.base.unique.map XIndexDef.e)), .pv (.lst (ag x.log)), .pv (.int .i64 x.count)]
abbrev XBucket.v (x:XBucket):V:= .agg [.pv (.str x.site), .pv (.str x.top), .pv (.str x.reg.site), .pv (.int .i64 x.reg.installing), .pv (.int .i64 x.reg.waiting), .pv (.int .i64 x.reg.active), .pv (.lst (x.caches.caches.map XCache.e)), .pv (.str x.disk.base.name), .pv (.int .i64 x.disk.base.version), .pv (.lst (x.disk.base.stores.map XStore.e)), .pv (.lst (x.disk.base.unique.map XIndexDef.e)), .pv (.lst (ag x.disk.log)), .pv (.int .i64 x.disk.count), .pv (.str x.replica.base.name), .pv (.lst (x.replica.base.items.map XItem.e)), .pv (.int .i64 x.replica.base.auto), .pv (.int .i64 x.replica.seen), .pv (.int .i64 x.replica.sync.outbox.dev), .pv (.int .i64 x.replica.sync.outbox.next), .pv (.lst (x.replica.sync.outbox.writes.map XWrite.e)), .pv (.int .i64 x.replica.sync.tries), .pv (.int .i64 x.replica.sync.wait), .pv (.int .i64 x.lastUsed), .pv (.bool x.persistent)]
abbrev XStorage.v (x:XStorage):V:= .agg [.pv (.lst (x.buckets.map XBucket.e))]
abbrev XLock.v (x:XLock):V:= .agg [.pv (.str x.name), .pv (.int .i64 x.page), .pv (.bool x.shared), .pv (.bool x.held)]
abbrev XLockTable.v (x:XLockTable):V:= .agg [.pv (.lst (x.locks.map XLock.e))]
abbrev XMail.v (x:XMail):V:= .agg [.pv (.int .i64 x.to), .pv (.int .i64 x.sender), .pv (.int .i64 x.n)]
abbrev XChannel.v (x:XChannel):V:= .agg [.pv (.lst (x.mails.map XMail.e))]
abbrev XSite.v (x:XSite):V:= .agg [.pv (.str x.name), .pv (.int .i64 x.version), .pv (.lst (x.files.map UG)), .pv (.bool x.shared)]
abbrev XWorld.v (x:XWorld):V:= .agg [.pv (.int .i64 x.now), .pv (.bool x.online), .pv (.int .i64 x.device), .pv (.lst (x.storage.buckets.map XBucket.e)), .pv (.lst (x.pages.map XPage.e)), .pv (.int .i64 x.nextPage), .pv (.lst (x.locks.locks.map XLock.e)), .pv (.lst (x.channel.mails.map XMail.e)), .pv (.lst (x.sites.map XSite.e)), .pv (.lst (x.servers.map XServer.e))]
def bX (a b:Int):Bool:=decide (a<b)
theorem UO (a b:Int):decide (a≤b)= !(bX b a):=by unfold bX;by_cases h:a≤b<;>simp[h]<;>omega
theorem dW {a b:Int}(h:a<b):bX a b=true:=decide_eq_true h
theorem fK {a b:Int}(h:b≤a):bX a b=false:=decide_eq_false (by omega)
theorem oM :∀(a b:List UInt8),(Op.bytesLess a b||a==b)= !(Op.bytesLess b a)
 |[],[]=>rfl
 |[],_::_=>rfl
 |_::_,[]=>rfl
 |a::xz,b::bs=>by
  have ih:=oM xz bs
  simp only[Op.bytesLess]
  by_cases h1:a<b
  ·have h2:¬b<a:=fun h=>absurd (UInt8.lt_trans h1 h) (UInt8.lt_irrefl _)
   have h3:¬b=a:=fun h=>by subst h;exact absurd h1 (UInt8.lt_irrefl _)
   simp[h1,h2,h3]
  ·by_cases h2:b<a
   ·have h3:¬a=b:=fun h=>by subst h;exact absurd h2 (UInt8.lt_irrefl _)
    simp[h1,h2,h3]
   ·obtain rfl:a=b:=UInt8.le_antisymm (UInt8.not_lt.1 h2) (UInt8.not_lt.1 h1)
    simpa[UInt8.lt_irrefl]using ih
def gA (op:BinOp)(k:IntKind)(a b:Int):Option V:=
 match op with
 | .add=>some (aa k (k.wrap (a+b)))
 | .sub=>some (aa k (k.wrap (a-b)))
 | .mul=>some (aa k (k.wrap (a*b)))
 | .quo=>if b=0 then none else some (aa k (k.wrap (a.tdiv b)))
 | .rem=>if b=0 then none else some (aa k (a.tmod b))
 | .and=>some (aa k (k.wrap ((BitVec.ofInt k.bits a&&&BitVec.ofInt k.bits b).toNat)))
 | .or=>some (aa k (k.wrap ((BitVec.ofInt k.bits a|||BitVec.ofInt k.bits b).toNat)))
 | .eql=>some (aD (a==b))
 | .neq=>some (aD (!(a==b)))
 | .lss=>some (aD (bX a b))
 | .leq=>some (aD (!(bX b a)))
 | .gtr=>some (aD (bX b a))
 | .geq=>some (aD (!(bX a b)))
 |_=>none
theorem bN (op:BinOp)(k:IntKind)(a b:Int):ca op k a b=gA op k a b:=by cases op<;>simp only[ca,gA,UO]<;>rfl
def gB (op:BinOp)(a b:List UInt8):Option V:=
 match op with
 | .add=>if a.length+b.length≤9223372036854775807 then some (dv (a++b))else none
 | .eql=>some (aD (a==b))
 | .neq=>some (aD (!(a==b)))
 | .lss=>some (aD (Op.bytesLess a b))
 | .leq=>some (aD (!(Op.bytesLess b a)))
 | .gtr=>some (aD (Op.bytesLess b a))
 | .geq=>some (aD (!(Op.bytesLess a b)))
 |_=>none
theorem bO (op:BinOp)(a b:List UInt8):iK op a b=gB op a b:=by cases op<;>simp only[iK,gB,oM]<;>simp
theorem bW {n k:Nat}(hn:n≤maxLen)(hk:k<n):IntKind.i64.wrap ((k:Int)+1)=(k:Int)+1:=by
 unfold maxLen at hn;rw[IntKind.wrap_i64];omega
theorem cB {n k:Nat}(h:k<n):bX (k:Int) (n:Int)=true:=dW (by omega)
theorem dV (n:Nat):bX (n:Int) (n:Int)=false:=fK (Int.le_refl _)
theorem OC {n k:Nat}(hn:n≤maxLen)(hk:k<n):(bX 0 (k:Int)=true→IntKind.i64.wrap ((k:Int)-1)=((k-1:Nat):Int))∧k-1<n:=by
 refine⟨fun h=> ?_,by omega⟩
 have:=of_decide_eq_true h
 unfold maxLen at hn;rw[IntKind.wrap_i64];omega
variable {KI:KF}
structure DRel (w W:World) (b:Nat):Prop where
 os:W.os=w.os
 tape:W.tape=w.tape
 output:W.output=w.output
 size:w.heap.size≤W.heap.size
 block:∀k,k<w.heap.size→k≠b→W.heap[k]? =w.heap[k]?
theorem DRel.below {w W W':World}{b:Nat}(h:DRel w W b)(g:Below W.heap.size W W'):DRel w W' b:=
 ⟨g.os.trans h.os,g.tape.trans h.tape,g.output.trans h.output,Nat.le_trans h.size g.size,fun k hk hb=>(g.block k (Nat.lt_of_lt_of_le hk h.size)).trans (h.block k hk hb)⟩
theorem Below.drel {w W:World}{b:Nat}(g:Below w.heap.size w W):DRel w W b:=⟨g.os,g.tape,g.output,g.size,fun k hk _=>g.block k hk⟩
theorem eW.below {w W:World}{b:Nat}{cur:Array Value}(h:eW w b cur)(g:Below w.heap.size w W):eW W b cur:=by
 obtain⟨T,hT⟩:=h
 have hlt:b<w.heap.size:=by
  rcases Nat.lt_or_ge b w.heap.size with q|q
  ·exact q
  ·rw[Array.getElem?_eq_none q]at hT;cases hT
 exact⟨T,(g.block b hlt).trans hT⟩
def jj (p:Nat→Bool)(n:Nat):List Nat:=(List.range n).filter fun j=> !p j
theorem AV (p:Nat→Bool)(n:Nat):jj p (n+1)=jj p n++(if p n then []else [n]):=by
 unfold jj
 rw[List.range_succ,List.filter_append]
 congr 1
 cases h:p n<;>simp[List.filter_cons,h]
theorem P9 {p:Nat→Bool}{n t u:Nat}(h:(jj p n)[t]? =some u):u<n:=by
 have:=List.mem_of_getElem? h
 simp only[jj,List.mem_filter,List.mem_range]at this
 exact this.1
theorem yy {p:Nat→Bool}{n:Nat}(h:∀j,j<n→p j=false):jj p n=List.range n:=by
 unfold jj
 rw[List.filter_eq_self]
 intro j hj
 rw[h j (by simpa using hj)];rfl
structure KInv (p:Nat→Bool) (z:Nat) (w wr:World) (b:Nat) (cur ck:Array Value) (i j:Nat):Prop where
 rel:DRel w wr b
 row:eW wr b ck
 size:ck.size=cur.size
 len:i=(jj p j).length
 lt:i<j
 low:∀(t u:Nat),(jj p j)[t]? =some u→∀q,q<z→ck[t*z+q]? =cur[u*z+q]?
 high:∀u,j*z≤u→ck[u]? =cur[u]?
theorem KInv.start {p:Nat→Bool}{z:Nat}{w wr:World}{b k:Nat}{cur:Array Value}(h:Below w.heap.size w wr)(hr:eW w b cur)(hk:p k=true)(hj:∀j,j<k→p j=false):KInv p z w wr b cur cur k (k+1):=by
 have e:jj p (k+1)=List.range k:=by rw[AV,yy hj,hk];simp
 refine⟨Below.drel h,eW.below hr h,rfl,by rw[e,List.length_range],by omega,fun t u ht q hq=> ?_,fun _ _=>rfl⟩
 rw[e]at ht
 obtain⟨h1,h2⟩:=List.getElem?_eq_some_iff.1 ht
 simp at h2
 rw[h2]
theorem CM {i j z:Nat}(h:i<j):i*z+z≤j*z:=by
 calc i*z+z=(i+1)*z:=by rw[Nat.add_mul,Nat.one_mul]
  _≤j*z:=Nat.mul_le_mul_right _ h
section
variable {p:Nat→Bool}{z:Nat}{w wr w2:World}{b i j:Nat}{cur ck:Array Value}
theorem KInv.skip (h:KInv p z w wr b cur ck i j)(hp:p j=true)(hd:Below wr.heap.size wr w2):KInv p z w w2 b cur ck i (j+1):=by
 have e:jj p (j+1)=jj p j:=by rw[AV,hp];simp
 refine⟨h.rel.below hd,h.row.below hd,h.size,by rw[e];exact h.len,Nat.lt_succ_of_lt h.lt,by rw[e];exact h.low,fun u hu=>h.high u ?_⟩
 have:=CM (z:=z) (show j<j+1 by omega)
 omega
theorem KInv.keep (h:KInv p z w wr b cur ck i j)(hp:p j=false)(hd:Below wr.heap.size wr w2){vs:List Value}(hl:vs.length=z)(hv:∀q,q<z→vs[q]? =cur[j*z+q]?)(hj:j*z+z≤cur.size):∃ck',KInv p z w (w2.setCells b (i*z) vs) b cur ck' (i+1) (j+1):=by
 have e:jj p (j+1)=jj p j++[j]:=by rw[AV,hp];simp
 have hij:=CM (z:=z) h.lt
 have hj1:=CM (z:=z) (show j<j+1 by omega)
 obtain⟨ck',h1,h2,h3⟩:=cd b vs (i*z) w2 ck (h.row.below hd) (by rw[hl,h.size];omega)
 have bel:=a8 b 0 (Nat.zero_le _) vs (i*z) w2 w2 (Below.refl _ _)
 have d2:=h.rel.below hd
 refine⟨ck',⟨bel.os.trans d2.os,bel.tape.trans d2.tape,bel.output.trans d2.output,by rw[cr];exact d2.size,fun k hk hb=>(b7 b vs (i*z) w2 k hb).trans (d2.block k hk hb)⟩,h1,h2.trans h.size,by rw[e,List.length_append,←h.len];rfl,Nat.succ_lt_succ h.lt,fun t u htu q hq=> ?_,fun u hu=> ?_⟩
 ·rw[e]at htu
  rw[h3]
  by_cases ht:t<i
  ·rw[List.getElem?_append_left (by rw[←h.len];exact ht)]at htu
   have:=HQ ht hq
   rw[if_neg (by omega)]
   exact h.low t u htu q hq
  ·have htl:=(List.getElem?_eq_some_iff.1 htu).1
   rw[List.length_append,←h.len]at htl
   simp only[List.length_cons,List.length_nil]at htl
   obtain rfl:t=i:=by omega
   rw[List.getElem?_append_right (by rw[←h.len];exact Nat.le_refl _),←h.len,Nat.sub_self,List.getElem?_cons_zero]at htu
   cases htu
   rw[if_pos ⟨by omega,by omega⟩,show t*z+q-t*z=q by omega]
   exact hv q hq
 ·rw[h3,if_neg (by omega)]
  exact h.high u (by omega)
theorem KInv.done (h:KInv p z w wr b cur ck i j){vs:List Value}(hl:vs.length=(j-i)*z)(hj:j*z≤cur.size):∃ck',eW (wr.setCells b (i*z) vs) b ck'∧ck'.size=cur.size∧DRel w (wr.setCells b (i*z) vs) b∧∀(t u:Nat),(jj p j)[t]? =some u→∀q,q<z→ck'[t*z+q]? =cur[u*z+q]? :=by
 have hm:i*z+(j-i)*z=j*z:=by rw[←Nat.add_mul,show i+(j-i)=j by have:=h.lt;omega]
 obtain⟨ck',h1,h2,h3⟩:=cd b vs (i*z) wr ck h.row (by rw[hl,h.size,hm];exact hj)
 have bel:=a8 b 0 (Nat.zero_le _) vs (i*z) wr wr (Below.refl _ _)
 refine⟨ck',h1,h2.trans h.size,⟨bel.os.trans h.rel.os,bel.tape.trans h.rel.tape,bel.output.trans h.rel.output,by rw[cr];exact h.rel.size,fun k hk hb=>(b7 b vs (i*z) wr k hb).trans (h.rel.block k hk hb)⟩,fun t u htu q hq=> ?_⟩
 have ht:t<i:=by rw[h.len];exact(List.getElem?_eq_some_iff.1 htu).1
 have:=HQ ht hq
 rw[h3,if_neg (by omega)]
 exact h.low t u htu q hq
end
theorem Ei {zs:Array Value}{n:Nat}{P:Value→Prop}(h:∀v∈zs,P v)(hz:0<zs.size):∀v∈(Builtin.zeroCells zs n).toList,P v:=by
 intro v hv
 simp only[Builtin.zeroCells,Array.toList_map,List.mem_map]at hv
 obtain⟨i,_,rfl⟩:=hv
 have hlt:=Nat.mod_lt i hz
 rw[getElem!_pos zs _ hlt]
 exact h _ (Array.getElem_mem hlt)
theorem Jr {P:Program}(w:World)(t e ty:TypeId)(zv:Value)(z:Nat)(ht:P.underlying t=some (.slice e))(hv:∀w,(zeroValue e).run P w= .ok zv w)(hz:zv.cells.size=z)(hz0:0<z)(h1:∀v∈zv.cells,v.oneCell'=true)(b o n c:Nat)(hn:0<n)
 (hc:∀j,j<n*z→(w.cell? ⟨b,o+j,none⟩).isSome=true) (hf:∀j,j<n*z→w.frozen? ⟨b,o+j,none⟩=false):
 (Builtin.clear_ #[t] ty #[.slice (some ⟨b,o,none⟩) n c]).run P w= .ok (.tuple #[]) (w.setCells b o (Builtin.zeroCells zv.cells n).toList):=by
 have hl:(Builtin.zeroCells zv.cells n).toList.length=n*z:=by rw[Array.length_toList,←hz];unfold Builtin.zeroCells;rw[Array.size_map,Array.size_range]
 have hst:=run_storeCells_cells (P:=P) b o (Builtin.zeroCells zv.cells n).toList 0 w (by rw[hl];simpa using hc) (by rw[hl];simpa using hf) (Ei h1 (by omega))
 simp only[Nat.add_zero]at hst
 obtain⟨m,rfl⟩:∃m,n=m+1:=⟨n-1,by omega⟩
 simp[Builtin.clear_,run_underlying ht,hv,hst]
theorem jq {w W:World}{b o:Nat}{v:Value}(h:w.cell? ⟨b,o,none⟩=some v)(g:Below w.heap.size w W):W.cell? ⟨b,o,none⟩=some v:=by
 have hlt:b<w.heap.size:=by
  rcases Nat.lt_or_ge b w.heap.size with q|q
  ·exact q
  ·simp[World.cell?,Array.getElem?_eq_none q]at h
 unfold World.cell? at*
 rw[g.block b hlt]
 exact h
theorem pk {w W W':World}(h:Below w.heap.size w W)(g:Below W.heap.size W W'):Below w.heap.size w W':=
 ⟨g.os.trans h.os,g.tape.trans h.tape,g.output.trans h.output,Nat.le_trans h.size g.size,fun k hk=>(g.block k (Nat.lt_of_lt_of_le hk h.size)).trans (h.block k hk)⟩
theorem sk (w:World)(o:Obj):Below w.heap.size w (w.alloc o):=⟨rfl,rfl,rfl,by simp,fun k hk=>dC w o k hk⟩
def TF (P:Program)(f z:Nat):Prop:=
 ∀(w:World)(fc:FuncId)(cs:Array Value)(p:Nat→Bool),(∀args w,(callFunc fc args).run P w= .ok (.enter fc args) w)→
  (∀ad:Option Addr,Calls P f #[.slice ad 0 0, .func (.func fc) #[] cs] w fun e w'=>e= .returned (.slice ad 0 0)∧Below w.heap.size w w')∧
  ∀(b n cap:Nat)(cur:Array Value),eW w b cur→cur.size=cap*z→n≤cap→cap≤maxLen→(∀(u:Nat)v,u<n*z→cur[u]? =some v→v.oneCell'=true)→
   (∀j,j<n→∀W,DRel w W b→Calls P fc (#[.agg (cur.extract (j*z) (j*z+z))]++cs) W fun e W'=>e= .returned (.bool (p j))∧Below W.heap.size W W')→
   Calls P f #[.slice (some ⟨b,0,none⟩) n cap, .func (.func fc) #[] cs] w fun e w'=>∃cur',e= .returned (.slice (some ⟨b,0,none⟩) (jj p n).length cap)∧eW w' b cur'∧cur'.size=cur.size∧DRel w w' b∧
    ∀(t u:Nat),(jj p n)[t]? =some u→∀q,q<z→cur'[t*z+q]? =cur[u*z+q]?
theorem IC (p:List PV→Bool)(es:List (List PV)):(jj (fun j=>match es[j]? with|some e=>p e|none=>false) es.length).length=(es.filter fun e=> !p e).length∧
 ∀(t:Nat)(e:List PV),(es.filter fun e=> !p e)[t]? =some e→∃u,(jj (fun j=>match es[j]? with|some e=>p e|none=>false) es.length)[t]? =some u∧es[u]? =some e:=by
 have key:∀k,k≤es.length→(es.take k).filter (fun e=> !p e)=(jj (fun j=>match es[j]? with|some e=>p e|none=>false) k).filterMap (fun u=>es[u]?)∧
  (jj (fun j=>match es[j]? with|some e=>p e|none=>false) k).length=((es.take k).filter (fun e=> !p e)).length:=by
  intro k
  induction k with
  |zero=>intro _;simp[jj]
  |succ k ih=>
   intro hk
   obtain⟨i1,i2⟩:=ih (by omega)
   have hlt:k<es.length:=by omega
   rw[List.take_succ_eq_append_getElem hlt,List.filter_append,AV,List.filterMap_append,List.length_append,List.length_append,←i1,←i2,List.getElem?_eq_getElem hlt]
   cases h:p es[k]<;>simp[List.filter_cons,h,hlt]
 obtain⟨k1,k2⟩:=key es.length (Nat.le_refl _)
 rw[List.take_length]at k1 k2
 refine⟨k2,fun t e he=> ?_⟩
 generalize hK:jj (fun j=>match es[j]? with|some e=>p e|none=>false) es.length=K at k1 k2
 have hall:∀u∈K,∃x,es[u]? =some x:=fun u hu=>by
  rw[←hK]at hu
  obtain⟨i,hi⟩:=List.mem_iff_getElem?.1 hu
  exact⟨_,List.getElem?_eq_getElem (P9 hi)⟩
 have hfm:∀(K:List Nat),(∀u∈K,∃x,es[u]? =some x)→∀(t:Nat)(e:List PV),(K.filterMap fun u=>es[u]?)[t]? =some e→∃u,K[t]? =some u∧es[u]? =some e:=by
  intro K
  induction K with
  |nil=>intro _ t e h;simp at h
  |cons u K ih=>
   intro ha t e h
   obtain⟨x,hx⟩:=ha u (by simp)
   rw[List.filterMap_cons,hx]at h
   cases t with
   |zero=>simp only[List.getElem?_cons_zero]at h;cases h;exact⟨u,rfl,hx⟩
   |succ t=>simp only[List.getElem?_cons_succ]at h⊢;exact ih (fun u hu=>ha u (by simp[hu])) t e h
 rw[k1]at he
 exact hfm K hall t e he
theorem Ro {Γ:Ctx}{P:Program}{f z:Nat}(hv:TF P f z):Ra Γ P f z:=by
 intro c cs es p hth hsd
 have ent:∀fc,kf fc=some c→∀(args:Array Value)(w:World),(callFunc fc args).run P w= .ok (.enter fc args) w:=fun fc hfc args w=>by
  obtain⟨fn,h1,h2,h3⟩:=hth fc hfc
  simp only[callFunc,run_program,Sem.run_bind,Result.andThen_ok,h1,h2,h3]
  simp
 constructor
 ·intro hes M w g ad hG hg
  obtain⟨fc,csv,rfl,hfc,hlen,hcap⟩:=hg
  exact(hv w fc csv (fun _=>false) (ent fc hfc)).1 ad
 ·intro hz hes
  refine⟨fun e he=>hes e (List.mem_filter.1 he).1,List.length_filter_le _ _,?_⟩
  intro M w g b cap cur hG hB hM hg hMb hrow hsz hn hcapm hread
  obtain⟨fc,csv,rfl,hfc,hlen,hcap⟩:=hg
  obtain⟨f1,f2⟩:=IC p es
  obtain⟨pN,hpN⟩:∃pN:Nat→Bool,pN=fun j=>match es[j]? with|some e=>p e|none=>false:=⟨_,rfl⟩
  rw[←hpN]at f1 f2
  have hpe:∀j(hj:j<es.length),pN j=p es[j]:=fun j hj=>by rw[hpN];simp only[List.getElem?_eq_getElem hj]
  refine((hv w fc csv pN (ent fc hfc)).2 b es.length cap cur hrow hsz hn hcapm ?_ ?_).mono ?_
  ·intro u v hu hc
   have hd:=Nat.div_add_mod u z
   have hm:=Nat.mod_lt u hz
   have hj:u/z<es.length:=(Nat.div_lt_iff_lt_mul hz).2 hu
   have he:=List.getElem?_eq_getElem hj
   have hl:=hes _ (List.getElem_mem hj)
   obtain⟨v',hv',hr⟩:=hread (u/z) _ (u%z) _ he (List.getElem?_eq_getElem (by rw[hl];exact hm))
   rw[Nat.mul_comm,hd,hc]at hv'
   cases hv'
   exact hr.one
  ·intro j hj W hW
   have he:=List.getElem?_eq_getElem hj
   have hl:=hes _ (List.getElem_mem hj)
   have hgo:Go' M M w W:=⟨hW.size,fun _ _ h=>h,fun k hk hm=>hW.block k hk (fun e=>hm (e▸hMb))⟩
   have hGW:Γ.G W:=Γ.keep w W hG ⟨hW.os,hW.tape,hW.output,hW.size,fun k hk=>hW.block k (Nat.lt_of_lt_of_le hk (Γ.size w hG)) (by omega)⟩
   have hrange:j*z+z≤cur.size:=by
    rw[hsz]
    calc j*z+z=(j+1)*z:=by rw[Nat.add_mul,Nat.one_mul]
     _≤cap*z:=Nat.mul_le_mul_right _ (by omega)
   have hs:=hsd _ (List.getElem_mem hj) fc hfc
   rw[hpe j hj]
   have ha:ot M W (.agg (es[j].map .pv)::cs.map su) (#[Value.agg (cur.extract (j*z) (j*z+z))]++csv).toList:=by
    refine⟨by simp[hlen],fun i x u hx hu=> ?_⟩
    cases i with
    |zero=>
     simp only[List.getElem?_cons_zero]at hx
     cases hx
     have hu2:Value.agg (cur.extract (j*z) (j*z+z))=u:=by simpa using hu
     rw[←hu2]
     refine⟨_,rfl,by simp[hl];omega,fun q l v hq hv=> ?_⟩
     rw[List.getElem?_map]at hq
     cases hp:es[j][q]? with
     |none=>rw[hp]at hq;cases hq
     |some pv=>
      rw[hp]at hq
      cases hq
      have hqz:q<z:=by have:=(List.getElem?_eq_some_iff.1 hp).1;omega
      obtain⟨v',hv',hr⟩:=hread j _ q pv he hp
      have hvv:(cur.extract (j*z) (j*z+z))[q]? =some v:=by rw[←Array.getElem?_toList];exact hv
      rw[Array.getElem?_extract,if_pos (by omega),hv']at hvv
      cases hvv
      exact ar.go hgo pv _ hr
    |succ i=>
     rw[List.getElem?_cons_succ,List.getElem?_map]at hx
     have hu':csv[i]? =some u:=by simpa using hu
     cases hc:cs[i]? with
     |none=>rw[hc]at hx;cases hx
     |some e=>
      rw[hc]at hx
      cases hx
      exact((hcap i e u hc hu').go hgo).arg
   have hS:=hs.2 M W _ hGW (fun k hk=>Nat.lt_of_lt_of_le (hM k hk) hW.size) ha
   refine hS.mono fun e w'⟨v,he',hb,ρ',_,hvr⟩=> ?_
   have hvr2:ar (Mu M ρ' []) w' (.bool (p es[j])) v:=hvr
   have:v= .bool (p es[j]):=by simpa only[ar]using hvr2
   subst this
   exact⟨he',hb⟩
  ·intro e w' ⟨cur',he,hr',hs',hd,hcells⟩
   refine⟨cur',by rw[he,f1],hr',hs',hd.os,hd.tape,hd.output,hd.size,hd.block,?_⟩
   intro i e j pv hi hj
   obtain⟨u,hu,heu⟩:=f2 i e hi
   have hgo:Go' M M w w':=⟨hd.size,fun _ _ h=>h,fun k hk hm=>hd.block k hk (fun e=>hm (e▸hMb))⟩
   have hjz:j<z:=by
    have h1:=(List.getElem?_eq_some_iff.1 hj).1
    rw[hes e (List.mem_of_getElem? heu)]at h1;exact h1
   obtain⟨v,hv',hr⟩:=hread u e j pv heu hj
   exact⟨v,by rw[hcells i u hu j hjz];exact hv',hr⟩
end Gi
namespace Gi
open Go Go.RowKit
mutual
def Ue :PTy→Bool
 | .lst ts=>decide (ts.length≤64)&&K2 ts
 |_=>true
def K2 :List PTy→Bool
 |[]=>true
 |t::ts=>Ue t&&K2 ts
end
mutual
theorem RR (mT:Int→List UInt8):∀(p:PV)(t:PTy)(k:Int),n5 t p→Ue t=true→(jZ mT p k).2≤k+1+64*(sz p:Int)
 | .int κ n,t,k,h,hn=>by simp only[jZ,sz];omega
 | .bool b,t,k,h,hn=>by simp only[jZ,sz];omega
 | .str s,t,k,h,hn=>by simp only[jZ,sz];omega
 | .lst rows,t,k,h,hn=>by
  cases t with
  |lst ts=>
   simp only[Ue,Bool.and_eq_true,decide_eq_true_eq]at hn
   have:=GB mT rows ts k (aS h).2 hn.1 hn.2
   rw[k6]
   simp only[jZ]
   omega
  |int κ=>simp[n5]at h
  |bool=>simp[n5]at h
  |str=>simp[n5]at h
theorem Mt (mT:Int→List UInt8):∀(ps:List PV)(ts:List PTy)(k:Int),bp ts ps→K2 ts=true→(om mT ps k).2≤k+ps.length+64*(eT ps:Int)
 |[],ts,k,h,hn=>by simp only[om,eT,List.length_nil];omega
 |p::ps,[],k,h,hn=>by simp[bp]at h
 |p::ps,t::ts,k,h,hn=>by
  simp only[K2,Bool.and_eq_true]at hn
  have h1:n5 t p∧bp ts ps:=by simpa only[bp]using h
  have a:=RR mT p t k h1.1 hn.1
  have b:=Mt mT ps ts (jZ mT p k).2 h1.2 hn.2
  simp only[om,eT,List.length_cons]
  omega
theorem GB (mT:Int→List UInt8):∀(rows:List (List PV))(ts:List PTy)(k:Int),(∀r∈rows,bp ts r)→ts.length≤64→K2 ts=true→(gi mT rows k).2≤k+64*((rows.length:Int)+(cU rows:Int))
 |[],ts,k,h,hl,hn=>by simp only[gi,cU,List.length_nil];omega
 |r::rows,ts,k,h,hl,hn=>by
  have hr:=h r (by simp)
  have a:=Mt mT r ts k hr hn
  have b:=GB mT rows ts (om mT r k).2 (fun r m=>h r (by simp[m])) hl hn
  have:=jp hr
  simp only[gi,cU,List.length_cons]
  omega
end
theorem tG (mT:Int→List UInt8):∀(ps:List PV)(ts:List PTy)(k:Int),bp ts ps→K2 ts=true→(fb mT ps k).2≤k+64*(eT ps:Int)
 |[],ts,k,h,hn=>by simp only[fb,eT];omega
 |p::ps,[],k,h,hn=>by simp[bp]at h
 |p::ps,t::ts,k,h,hn=>by
  simp only[K2,Bool.and_eq_true]at hn
  have h1:n5 t p∧bp ts ps:=by simpa only[bp]using h
  cases p with
  |lst rows=>
   cases t with
   |lst us=>
    have hn1:=hn.1
    simp only[Ue,Bool.and_eq_true,decide_eq_true_eq]at hn1
    have a:=GB mT rows us k (aS h1.1).2 hn1.1 hn1.2
    have b:=tG mT ps ts (gi mT rows k).2 h1.2 hn.2
    simp only[fb,eT,k6]
    omega
   |int κ=>simp[n5]at h1
   |bool=>simp[n5]at h1
   |str=>simp[n5]at h1
  |int κ n=>have b:=tG mT ps ts k h1.2 hn.2;simp only[fb,eT];omega
  |bool c=>have b:=tG mT ps ts k h1.2 hn.2;simp only[fb,eT];omega
  |str s=>have b:=tG mT ps ts k h1.2 hn.2;simp only[fb,eT];omega
theorem R5 {ts:List PTy}{ps:List PV}(h:bp ts ps):(gZ ts ps).map cN=ps.map .pv:=by
 refine fF (P:=fun ts ps=>(gZ ts ps).map cN=ps.map .pv) rfl ?_ ?_ ts ps h
 ·intro us rows ts ps _ _ ih
  cases rows<;>simp only[gZ,ve,List.map_cons,cN,ih]
 ·intro t p ts ps h1 ht hp _ ih
  simp only[gZ,wg ht h1,List.map_cons,cN,ih]
theorem OB {ts:List PTy}{ps:List PV}(h:bp ts ps)(hh:List AObj):pz hh (.agg (gZ ts ps))=(.agg (i7 hh.length ts ps),hh++gE ts ps):=by
 have key:∀(ts:List PTy)(ps:List PV),bp ts ps→∀hh:List AObj,∃ds,thawL hh (gZ ts ps)=(i7 hh.length ts ps,hh++ds)∧ds.map AObj.zone=gE ts ps:=by
  refine fF ?_ ?_ ?_
  ·intro hh;exact⟨[],by simp[gZ,thawL,i7],rfl⟩
  ·intro us rows ts ps _ _ ih hh
   cases rows with
   |nil=>
    obtain⟨ds,e1,e2⟩:=ih (hh++[.arr us.length []])
    refine⟨.arr us.length []::ds,?_,by simp only[List.map_cons,e2,AObj.zone,gE]⟩
    simp only[gZ,ve,thawL,e1,i7,List.length_append,List.length_singleton,List.append_assoc,List.cons_append,List.nil_append]
   |cons r rows=>
    obtain⟨ds,e1,e2⟩:=ih (hh++[.darr us.length (r::rows)])
    refine⟨.darr us.length (r::rows)::ds,?_,by simp only[List.map_cons,e2,AObj.zone,gE]⟩
    simp only[gZ,ve,thawL,e1,i7,List.length_append,List.length_singleton,List.append_assoc,List.cons_append,List.nil_append]
  ·intro t p ts ps h1 ht hp _ ih hh
   obtain⟨ds,e1,e2⟩:=ih hh
   refine⟨ds,?_,by rw[e2,gT ht]⟩
   simp only[gZ,wg ht h1]
   rw[lm ht]
   simp only[thawL,e1]
 obtain⟨ds,e1,_⟩:=key ts ps h hh
 obtain⟨ds',f1,f2⟩:=key ts ps h []
 simp only[pz,thaw,e1,f1,List.nil_append,f2]
end Gi
namespace Gi
open Go Go.RowKit
set_option maxHeartbeats 8000000
set_option maxRecDepth 8000
attribute [local simp] start fB au ai aE aO a9 b6 Opd.ev put V.cells plain bf fO isInt isStr isBool bin ca un asList L.view av V.view viewL aR aw cq bE comp aK bv al V.flat L.flat cX cN br putAt freezeVs freezeLs freezeL V.mut L.mut lent AObj.unz L.unsub rt wZ kG uk lL zt PV.bare PV.flat kB du thaw thawL AObj.zone hJ sy Ce gu nO Ou Tu Ov MS.ts gz gy jS gR jR
def ln (z:Nat):List (List PV)→L
 |[]=> .pv (.lst [])
 |r::rs=> .down z (r::rs)
def oz (z:Nat)(rows rows':List (List PV)):List (Bool×List L):=match rows with
 |[]=>[]
 |_::_=>[(false,[.down z rows'])]
theorem T1 (z:Nat)(c:List (List PV)):(c=[]∧nd z c= .nil∧ln z c= .pv (.lst [])∧(∀r,oz z c r=[])∧m9 z c= .nil)∨(c≠[]∧nd z c= .down z c∧ln z c= .down z c∧(∀r,oz z c r=[(false,[.down z r])])∧m9 z c= .own z c):=by
 cases c with
 |nil=>exact .inl ⟨rfl,rfl,rfl,fun _=>rfl,rfl⟩
 |cons r rs=>exact .inr ⟨by simp,rfl,rfl,fun _=>rfl,rfl⟩
def qs (c3 c4 c6 c7 c8 c9:List (List PV))(k:Int):List (List (List PV)×Int):=
 let q3:=gi dO c3 k
 let q4:=gi dO c4 q3.2
 let q6:=gi dO c6 q4.2
 let q7:=gi dO c7 q6.2
 let q8:=gi dO c8 q7.2
 let q9:=gi dO c9 q8.2
 [q3,q4,q6,q7,q8,q9]
def WR (c0:Int)(c1:Bool)(c2:Int)(c3 c4:List (List PV))(c5:Int)(c6 c7 c8 c9:List (List PV)):List PV:=[.int .i64 c0, .bool c1, .int .i64 c2, .lst c3, .lst c4, .int .i64 c5, .lst c6, .lst c7, .lst c8, .lst c9]
def WP (c0:Int)(c1:Bool)(c2:Int)(c3 c4:List (List PV))(c5:Int)(c6 c7 c8 c9:List (List PV)):List L:=[.pv (.int .i64 c0), .pv (.bool c1), .pv (.int .i64 c2), .pv (.lst c3), .pv (.lst c4), .pv (.int .i64 c5), .pv (.lst c6), .pv (.lst c7), .pv (.lst c8), .pv (.lst c9)]
theorem RS (k:Int):gi dO [] k=([],k):=rfl
end Gi
