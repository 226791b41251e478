/- Of this proof. -/
import Derived.Test.YtbeaonmepfkmmaaGreatGoM
import Derived.Test.YtbeaonmepfkmmaaGreatGoD
import Derived.Test.YtbeaonmepfkmmaaGreatGkp
set_option linter.unusedSimpArgs false
set_option linter.unusedVariables false
namespace Gi
open Go Go.RowKit
set_option maxHeartbeats 8000000
set_option maxRecDepth 4000
attribute [local simp] start nx bZ cJ cB dB cA dA dG dF og oA oh oB ol oC om oD oq oE ot oF ou oG ov oH oz oI V.cells plain bt gD isInt isStr isBool bin bM fF bN fG dC un asList L.view au V.view viewL aT az bQ bd b6 comp aN bU cy bI aY aW aX ar aj aE ah aq aO am aR bw aA aZ a9 V.flat L.flat cZ cV br putAt thaw thawL thawT V.ow dE cD cE bO dD bP cC freezeVs freezeLs freezeL V.mut L.mut aH cd eW bg bF aP dN cu bK cH L.ren aJ cS bX cY bW bE wp_seq wp_block aM cG bR bf bS wp_skip wp_exit wp_ret b9 b8 cj ca cr ct cq bH aF L.notArr bq bo bp cF b7 storeD aS eB ba bY aQ kX L.mov L.closed V.closed PV.bare PV.flat
def OA (x y:XWrite):Bool:=x.dev==y.dev&&(x.seq==y.seq&&(x.key.kind==y.key.kind&&(x.key.n==y.key.n&&(x.key.text==y.key.text&&(x.field==y.field&&(x.n==y.n))))))
theorem SI (x y:XWrite):kJ [.i, .i, .i, .i, .s, .s, .i] [.pv (.int .i64 x.dev), .pv (.int .i64 x.seq), .pv (.int .i64 x.key.kind), .pv (.int .i64 x.key.n), .pv (.str x.key.text), .pv (.str x.field), .pv (.int .i64 x.n)] [.pv (.int .i64 y.dev), .pv (.int .i64 y.seq), .pv (.int .i64 y.key.kind), .pv (.int .i64 y.key.n), .pv (.str y.key.text), .pv (.str y.field), .pv (.int .i64 y.n)]=some (OA x y):=by simp[kJ,Fv,OA]
def zQ (x y:XIndexDef):Bool:=x.store==y.store&&(x.field==y.field)
theorem Qm (x y:XIndexDef):kJ [.s, .s] [.pv (.str x.store), .pv (.str x.field)] [.pv (.str y.store), .pv (.str y.field)]=some (zQ x y):=by simp[kJ,Fv,zQ]
theorem RZ {a b:List XWrite}(h:a.length≤maxLen):ag Ph aC 599 [bi (a.map XWrite.e),bi (b.map XWrite.e)]=some (aD (pC OA a b)):=by
 refine aa (fn:=dx) rfl ?_
 by_cases hl:a.length=b.length
 ·rw[mF hl]
  simp(maxSteps:=9999999) [dx,hl]
  rw[←hl]
  refine aL bG Cl.fin [.t,.t,.f,.f,.f,.f,.f,.f,.f,.f,.f,.f,.t,.t,.f,.f,.f,.f,.f,.f,.f,.f,.f,.f,.f,.f] (fun k=>[(13,ai .i64 k)]) a.length (ii OA a b) rfl (by simp[hl]) (fun k hk _=> ?_) (fun _ hp=> ?_)
  ·have hk2:k<b.length:=by omega
   have he:=SI a[k] b[k]
   have hn:ii OA a b k= !(OA a[k] b[k]):=by simp[ii,hk,hk2]
   rw[hn]
   generalize OA a[k] b[k]=c at*
   cases c<;>simp +contextual (maxSteps:=9999999) [dg,hk,hk2,XWrite.e.eq_1 a[k],XWrite.e.eq_1 b[k],he,aU h hk,a8 hk,a8 hk2,hl]
  ·simp(maxSteps:=9999999) [dg,hp]
 ·have hc:((a.length:Int)==(b.length:Int))=false:=by rw[beq_eq_false_iff_ne];omega
  rw[mG hl]
  simp(maxSteps:=9999999) [dx,hc]
theorem Ql {a b:List XIndexDef}(h:a.length≤maxLen):ag Ph aC 589 [bi (a.map XIndexDef.e),bi (b.map XIndexDef.e)]=some (aD (pC zQ a b)):=by
 refine aa (fn:=cQ) rfl ?_
 by_cases hl:a.length=b.length
 ·rw[mF hl]
  simp(maxSteps:=9999999) [cQ,hl]
  rw[←hl]
  refine aL bG Cl.fin [.t,.t,.f,.f,.f,.f,.f,.f,.f,.f,.f,.f,.t,.t,.f,.f,.f,.f,.f,.f,.f,.f,.f,.f,.f,.f] (fun k=>[(13,ai .i64 k)]) a.length (ii zQ a b) rfl (by simp[hl]) (fun k hk _=> ?_) (fun _ hp=> ?_)
  ·have hk2:k<b.length:=by omega
   have he:=Qm a[k] b[k]
   have hn:ii zQ a b k= !(zQ a[k] b[k]):=by simp[ii,hk,hk2]
   rw[hn]
   generalize zQ a[k] b[k]=c at*
   cases c<;>simp +contextual (maxSteps:=9999999) [cK,hk,hk2,XIndexDef.e.eq_1 a[k],XIndexDef.e.eq_1 b[k],he,aU h hk,a8 hk,a8 hk2,hl]
  ·simp(maxSteps:=9999999) [cK,hp]
 ·have hc:((a.length:Int)==(b.length:Int))=false:=by rw[beq_eq_false_iff_ne];omega
  rw[mG hl]
  simp(maxSteps:=9999999) [cQ,hc]
def LF (x y:XOutbox):Bool:=x.dev==y.dev&&(x.next==y.next&&pC OA x.writes y.writes)
def LJ (x y:XSync):Bool:=LF x.outbox y.outbox&&(x.tries==y.tries&&x.wait==y.wait)
def LH (x y:XReplica):Bool:=tu x.base y.base&&(x.seen==y.seen&&LJ x.sync y.sync)
def Lx (x y:XDatabase):Bool:=x.name==y.name&&(x.version==y.version&&(pC tu x.stores y.stores&&pC zQ x.unique y.unique))
def Ly (x y:XDisk):Bool:=Lx x.base y.base&&(x.log==y.log&&x.count==y.count)
theorem uh {B:Nat}(hB:B≤1048576){x y:XOutbox}(h:x.Ok B):ag Ph aC 590 [.agg (x.e.map .pv), .agg (y.e.map .pv)]=some (aD (LF x y)):=by
 have e0:=RZ (a:=x.writes) (b:=y.writes) (by have:=h.2.2.1;unfold maxLen;omega)
 unfold LF
 obtain⟨c0,h0⟩:∃c,(x.dev==y.dev)=c:=⟨_,rfl⟩
 obtain⟨c1,h1⟩:∃c,(x.next==y.next)=c:=⟨_,rfl⟩
 rw[h0,h1]
 generalize pC OA x.writes y.writes=d0 at*
 refine aa (fn:=j9) rfl ?_
 cases c0<;>cases c1<;>cases d0<;>simp(maxSteps:=9999999) [j9,XOutbox.e.eq_1,h0,h1,e0]
theorem xe {B:Nat}(hB:B≤1048576){x y:XSync}(h:x.Ok B):ag Ph aC 571 [.agg (x.e.map .pv), .agg (y.e.map .pv)]=some (aD (LJ x y)):=by
 have e0:=uh (x:=x.outbox) (y:=y.outbox) hB h.1
 rw[XOutbox.e.eq_1,XOutbox.e.eq_1]at e0
 simp only[List.map_cons,List.map_nil]at e0
 unfold LJ
 obtain⟨c0,h0⟩:∃c,(x.tries==y.tries)=c:=⟨_,rfl⟩
 obtain⟨c1,h1⟩:∃c,(x.wait==y.wait)=c:=⟨_,rfl⟩
 rw[h0,h1]
 generalize LF x.outbox y.outbox=d0 at*
 refine aa (fn:=mJ) rfl ?_
 cases c0<;>cases c1<;>cases d0<;>simp(maxSteps:=9999999) [mJ,XSync.e.eq_1,XOutbox.e.eq_1,h0,h1,e0]
theorem uj {B:Nat}(hB:B≤1048576){x y:XReplica}(h:x.Ok B):ag Ph aC 558 [.agg (x.e.map .pv), .agg (y.e.map .pv)]=some (aD (LH x y)):=by
 have e0:=pq (x:=x.base) (y:=y.base) hB h.1
 have e1:=xe (x:=x.sync) (y:=y.sync) hB h.2.2
 rw[XSync.e.eq_1,XSync.e.eq_1]at e1
 simp only[List.map_cons,List.map_nil]at e1
 unfold LH
 obtain⟨c0,h0⟩:∃c,(x.seen==y.seen)=c:=⟨_,rfl⟩
 rw[h0]
 generalize tu x.base y.base=d0 at*
 generalize LJ x.sync y.sync=d1 at*
 refine aa (fn:=kd) rfl ?_
 cases c0<;>cases d0<;>cases d1<;>simp(maxSteps:=9999999) [kd,XReplica.e.eq_1,XSync.e.eq_1,XStore.e.eq_1,h0,e0,e1]
theorem Qq {B:Nat}(hB:B≤1048576){a b:List XStore}(hi:a.length≤B∧∀x∈a,x.Ok B):ag Ph aC 588 [bi (a.map XStore.e),bi (b.map XStore.e), .one (.fn 312 [])]=some (aD (pC tu a b)):=by
 have ha:a.length≤maxLen:=by have:=hi.1;unfold maxLen;omega
 refine aa (fn:=bv) rfl ?_
 by_cases hl:a.length=b.length
 ·rw[mF hl]
  simp(maxSteps:=9999999) [bv,hl]
  rw[←hl]
  refine aL bG Cl.fin [.f,.t,.t,.f,.f,.f,.f,.f,.f,.f,.f,.f,.f,.f,.f,.t,.t,.t,.f,.f,.f,.f,.f,.f,.f,.f,.f,.f,.f,.f,.f,.f] (fun k=>[(17,ai .i64 k)]) a.length (ii tu a b) rfl (by simp[hl]) (fun k hk _=> ?_) (fun _ hp=> ?_)
  ·have hk2:k<b.length:=by omega
   have e1:ag Ph aC 312 [.agg (a[k].e.map .pv), .agg (b[k].e.map .pv)]=some (aD (tu a[k] b[k])):=pq hB (hi.2 _ (List.getElem_mem hk))
   rw[XStore.e.eq_1,XStore.e.eq_1]at e1
   simp only[List.map_cons,List.map_nil]at e1
   have hn:ii tu a b k= !(tu a[k] b[k]):=by simp[ii,hk,hk2]
   rw[hn]
   generalize tu a[k] b[k]=c at*
   cases c<;>simp +contextual (maxSteps:=9999999) [bm,hk,hk2,XStore.e.eq_1 a[k],XStore.e.eq_1 b[k],e1,rE,aU ha hk,a8 hk,a8 hk2,hl]
  ·simp(maxSteps:=9999999) [bm,hp]
 ·have hc:((a.length:Int)==(b.length:Int))=false:=by rw[beq_eq_false_iff_ne];omega
  rw[mG hl]
  simp(maxSteps:=9999999) [bv,hc]
theorem tE {B:Nat}(hB:B≤1048576){x y:XDatabase}(h:x.Ok B):ag Ph aC 570 [.agg (x.e.map .pv), .agg (y.e.map .pv)]=some (aD (Lx x y)):=by
 have e0:=Qq (a:=x.stores) (b:=y.stores) hB h.2.2.1
 have e1:=Ql (a:=x.unique) (b:=y.unique) (by have:=h.2.2.2.1;unfold maxLen;omega)
 unfold Lx
 obtain⟨c0,h0⟩:∃c,(x.name==y.name)=c:=⟨_,rfl⟩
 obtain⟨c1,h1⟩:∃c,(x.version==y.version)=c:=⟨_,rfl⟩
 rw[h0,h1]
 generalize pC tu x.stores y.stores=d0 at*
 generalize pC zQ x.unique y.unique=d1 at*
 refine aa (fn:=jG) rfl ?_
 cases c0<;>cases c1<;>cases d0<;>cases d1<;>simp(maxSteps:=9999999) [jG,XDatabase.e.eq_1,h0,h1,e0,e1]
theorem xd {B:Nat}(hB:B≤1048576){x y:XDisk}(h:x.Ok B):ag Ph aC 557 [.agg (x.e.map .pv), .agg (y.e.map .pv)]=some (aD (Ly x y)):=by
 have e0:=tE (x:=x.base) (y:=y.base) hB h.1
 rw[XDatabase.e.eq_1,XDatabase.e.eq_1]at e0
 simp only[List.map_cons,List.map_nil]at e0
 have e1:=fQ (a:=x.log) (b:=y.log) (by have:=h.2.1;unfold maxLen;omega)
 unfold Ly
 obtain⟨c0,h0⟩:∃c,(x.count==y.count)=c:=⟨_,rfl⟩
 rw[h0]
 generalize Lx x.base y.base=d0 at*
 generalize (x.log==y.log)=d1 at*
 refine aa (fn:=mI) rfl ?_
 cases c0<;>cases d0<;>cases d1<;>simp(maxSteps:=9999999) [mI,XDisk.e.eq_1,XDatabase.e.eq_1,h0,e0,e1]
def Fx (x y:XResponse):Bool:=x.type==y.type&&(x.status==y.status&&(x.version==y.version&&(x.body==y.body&&x.shares==y.shares)))
def tt (x y:XCached):Bool:=x.site==y.site&&(x.path==y.path&&Fx x.resp y.resp)
def wP (x y:XCache):Bool:=x.version==y.version&&pC tt x.entries y.entries
def Lw (x y:XCacheSet):Bool:=pC wP x.caches y.caches
def Qn (x y:XRegistration):Bool:=x.site==y.site&&(x.installing==y.installing&&(x.waiting==y.waiting&&x.active==y.active))
def Qh (x y:XBucket):Bool:=x.site==y.site&&(x.top==y.top&&(Qn x.reg y.reg&&(Lw x.caches y.caches&&(Ly x.disk y.disk&&(LH x.replica y.replica&&(x.lastUsed==y.lastUsed&&x.persistent==y.persistent))))))
theorem Qo (x y:XRegistration):kJ [.s, .i, .i, .i] [.pv (.str x.site), .pv (.int .i64 x.installing), .pv (.int .i64 x.waiting), .pv (.int .i64 x.active)] [.pv (.str y.site), .pv (.int .i64 y.installing), .pv (.int .i64 y.waiting), .pv (.int .i64 y.active)]=some (Qn x y):=by simp[kJ,Fv,Qn]
theorem tF {B:Nat}(hB:B≤1048576){x y:XResponse}(h:x.Ok B):ag Ph aC 598 [.agg (x.e.map .pv), .agg (y.e.map .pv)]=some (aD (Fx x y)):=by
 have e0:=fQ (a:=x.body) (b:=y.body) (by have:=h.2.2.2;unfold maxLen;omega)
 unfold Fx
 obtain⟨c0,h0⟩:∃c,(x.type==y.type)=c:=⟨_,rfl⟩
 obtain⟨c1,h1⟩:∃c,(x.status==y.status)=c:=⟨_,rfl⟩
 obtain⟨c2,h2⟩:∃c,(x.version==y.version)=c:=⟨_,rfl⟩
 obtain⟨c3,h3⟩:∃c,(x.shares==y.shares)=c:=⟨_,rfl⟩
 rw[h0,h1,h2,h3]
 generalize (x.body==y.body)=d0 at*
 refine aa (fn:=jH) rfl ?_
 cases c0<;>cases c1<;>cases c2<;>cases c3<;>cases d0<;>simp(maxSteps:=9999999) [jH,XResponse.e.eq_1,h0,h1,h2,h3,e0]
theorem wa {B:Nat}(hB:B≤1048576){x y:XCached}(h:x.Ok B):ag Ph aC 587 [.agg (x.e.map .pv), .agg (y.e.map .pv)]=some (aD (tt x y)):=by
 have e0:=tF (x:=x.resp) (y:=y.resp) hB h.2.2
 rw[XResponse.e.eq_1,XResponse.e.eq_1]at e0
 simp only[List.map_cons,List.map_nil]at e0
 unfold tt
 obtain⟨c0,h0⟩:∃c,(x.site==y.site)=c:=⟨_,rfl⟩
 obtain⟨c1,h1⟩:∃c,(x.path==y.path)=c:=⟨_,rfl⟩
 rw[h0,h1]
 generalize Fx x.resp y.resp=d0 at*
 refine aa (fn:=lW) rfl ?_
 cases c0<;>cases c1<;>cases d0<;>simp(maxSteps:=9999999) [lW,XCached.e.eq_1,XResponse.e.eq_1,h0,h1,e0]
theorem Qj {B:Nat}(hB:B≤1048576){a b:List XCached}(hi:a.length≤B∧∀x∈a,x.Ok B):ag Ph aC 586 [bi (a.map XCached.e),bi (b.map XCached.e), .one (.fn 587 [])]=some (aD (pC tt a b)):=by
 have ha:a.length≤maxLen:=by have:=hi.1;unfold maxLen;omega
 refine aa (fn:=bh) rfl ?_
 by_cases hl:a.length=b.length
 ·rw[mF hl]
  simp(maxSteps:=9999999) [bh,hl]
  rw[←hl]
  refine aL bG Cl.fin [.f,.t,.t,.f,.f,.f,.f,.f,.f,.f,.f,.f,.f,.f,.f,.t,.t,.t,.f,.f,.f,.f,.f,.f,.f,.f,.f,.f,.f,.f,.f,.f] (fun k=>[(17,ai .i64 k)]) a.length (ii tt a b) rfl (by simp[hl]) (fun k hk _=> ?_) (fun _ hp=> ?_)
  ·have hk2:k<b.length:=by omega
   have e1:ag Ph aC 587 [.agg (a[k].e.map .pv), .agg (b[k].e.map .pv)]=some (aD (tt a[k] b[k])):=wa hB (hi.2 _ (List.getElem_mem hk))
   rw[XCached.e.eq_1,XCached.e.eq_1]at e1
   simp only[List.map_cons,List.map_nil]at e1
   have hn:ii tt a b k= !(tt a[k] b[k]):=by simp[ii,hk,hk2]
   rw[hn]
   generalize tt a[k] b[k]=c at*
   cases c<;>simp +contextual (maxSteps:=9999999) [bc,hk,hk2,XCached.e.eq_1 a[k],XCached.e.eq_1 b[k],e1,rE,aU ha hk,a8 hk,a8 hk2,hl]
  ·simp(maxSteps:=9999999) [bc,hp]
 ·have hc:((a.length:Int)==(b.length:Int))=false:=by rw[beq_eq_false_iff_ne];omega
  rw[mG hl]
  simp(maxSteps:=9999999) [bh,hc]
theorem wc {B:Nat}(hB:B≤1048576){x y:XCache}(h:x.Ok B):ag Ph aC 569 [.agg (x.e.map .pv), .agg (y.e.map .pv)]=some (aD (wP x y)):=by
 have e0:=Qj (a:=x.entries) (b:=y.entries) hB h.2
 unfold wP
 obtain⟨c0,h0⟩:∃c,(x.version==y.version)=c:=⟨_,rfl⟩
 rw[h0]
 generalize pC tt x.entries y.entries=d0 at*
 refine aa (fn:=lX) rfl ?_
 cases c0<;>cases d0<;>simp(maxSteps:=9999999) [lX,XCache.e.eq_1,h0,e0]
theorem Qi {B:Nat}(hB:B≤1048576){a b:List XCache}(hi:a.length≤B∧∀x∈a,x.Ok B):ag Ph aC 568 [bi (a.map XCache.e),bi (b.map XCache.e), .one (.fn 569 [])]=some (aD (pC wP a b)):=by
 have ha:a.length≤maxLen:=by have:=hi.1;unfold maxLen;omega
 refine aa (fn:=bu) rfl ?_
 by_cases hl:a.length=b.length
 ·rw[mF hl]
  simp(maxSteps:=9999999) [bu,hl]
  rw[←hl]
  refine aL bG Cl.fin [.f,.t,.t,.f,.f,.f,.f,.f,.f,.f,.f,.f,.f,.f,.f,.t,.t,.t,.f,.f,.f,.f,.f,.f,.f,.f,.f,.f,.f,.f,.f,.f] (fun k=>[(17,ai .i64 k)]) a.length (ii wP a b) rfl (by simp[hl]) (fun k hk _=> ?_) (fun _ hp=> ?_)
  ·have hk2:k<b.length:=by omega
   have e1:ag Ph aC 569 [.agg (a[k].e.map .pv), .agg (b[k].e.map .pv)]=some (aD (wP a[k] b[k])):=wc hB (hi.2 _ (List.getElem_mem hk))
   rw[XCache.e.eq_1,XCache.e.eq_1]at e1
   simp only[List.map_cons,List.map_nil]at e1
   have hn:ii wP a b k= !(wP a[k] b[k]):=by simp[ii,hk,hk2]
   rw[hn]
   generalize wP a[k] b[k]=c at*
   cases c<;>simp +contextual (maxSteps:=9999999) [bj,hk,hk2,XCache.e.eq_1 a[k],XCache.e.eq_1 b[k],e1,rE,aU ha hk,a8 hk,a8 hk2,hl]
  ·simp(maxSteps:=9999999) [bj,hp]
 ·have hc:((a.length:Int)==(b.length:Int))=false:=by rw[beq_eq_false_iff_ne];omega
  rw[mG hl]
  simp(maxSteps:=9999999) [bu,hc]
theorem tD {B:Nat}(hB:B≤1048576){x y:XCacheSet}(h:x.Ok B):ag Ph aC 556 [.agg (x.e.map .pv), .agg (y.e.map .pv)]=some (aD (Lw x y)):=by
 have e0:=Qi (a:=x.caches) (b:=y.caches) hB h
 unfold Lw
 generalize pC wP x.caches y.caches=d0 at*
 refine aa (fn:=jF) rfl ?_
 cases d0<;>simp(maxSteps:=9999999) [jF,XCacheSet.e.eq_1,e0]
theorem uI {B:Nat}(hB:B≤1048576){x y:XBucket}(h:x.Ok B):ag Ph aC 546 [.agg (x.e.map .pv), .agg (y.e.map .pv)]=some (aD (Qh x y)):=by
 have e0:=tD (x:=x.caches) (y:=y.caches) hB h.2.2.2.1
 have e1:=xd (x:=x.disk) (y:=y.disk) hB h.2.2.2.2.1
 have e2:=uj (x:=x.replica) (y:=y.replica) hB h.2.2.2.2.2.1
 have he:=Qo x.reg y.reg
 rw[XCacheSet.e.eq_1,XCacheSet.e.eq_1]at e0
 rw[XDisk.e.eq_1,XDisk.e.eq_1]at e1
 rw[XReplica.e.eq_1,XReplica.e.eq_1]at e2
 simp only[List.map_cons,List.map_nil]at e0 e1 e2
 unfold Qh
 obtain⟨c0,h0⟩:∃c,(x.site==y.site)=c:=⟨_,rfl⟩
 obtain⟨c1,h1⟩:∃c,(x.top==y.top)=c:=⟨_,rfl⟩
 obtain⟨c2,h2⟩:∃c,(x.lastUsed==y.lastUsed)=c:=⟨_,rfl⟩
 obtain⟨c3,h3⟩:∃c,(x.persistent==y.persistent)=c:=⟨_,rfl⟩
 rw[h0,h1,h2,h3]
 generalize Qn x.reg y.reg=d0 at*
 generalize Lw x.caches y.caches=d1 at*
 generalize Ly x.disk y.disk=d2 at*
 generalize LH x.replica y.replica=d3 at*
 refine aa (fn:=cM) rfl ?_
 cases c0
 ·simp(maxSteps:=9999999) [cM,XBucket.e.eq_1,he,h0,h1,h2,h3,e0,e1,e2]
 cases c1
 ·simp(maxSteps:=9999999) [cM,XBucket.e.eq_1,he,h0,h1,h2,h3,e0,e1,e2]
 cases d0
 ·simp(maxSteps:=9999999) [cM,XBucket.e.eq_1,he,h0,h1,h2,h3,e0,e1,e2]
 cases d1
 ·simp(maxSteps:=9999999) [cM,XBucket.e.eq_1,he,h0,h1,h2,h3,e0,e1,e2]
 cases d2
 ·simp(maxSteps:=9999999) [cM,XBucket.e.eq_1,he,h0,h1,h2,h3,e0,e1,e2]
 cases d3
 ·simp(maxSteps:=9999999) [cM,XBucket.e.eq_1,he,h0,h1,h2,h3,e0,e1,e2]
 cases c2
 ·simp(maxSteps:=9999999) [cM,XBucket.e.eq_1,he,h0,h1,h2,h3,e0,e1,e2]
 cases c3
 ·simp(maxSteps:=9999999) [cM,XBucket.e.eq_1,he,h0,h1,h2,h3,e0,e1,e2]
 simp(maxSteps:=9999999) [cM,XBucket.e.eq_1,he,h0,h1,h2,h3,e0,e1,e2]
theorem uo {B:Nat}(hB:B≤1048576){x y:XOutbox}(h:x.Ok B):ag Ph aC 585 [.agg (x.e.map .pv), .agg (y.e.map .pv)]=some (aD (LF x y)):=by
 have hi:=h.2.2
 unfold LF
 obtain⟨c0,h0⟩:∃c,(x.dev==y.dev)=c:=⟨_,rfl⟩
 obtain⟨c1,h1⟩:∃c,(x.next==y.next)=c:=⟨_,rfl⟩
 rw[h0,h1]
 rw[XOutbox.e.eq_1,XOutbox.e.eq_1]
 generalize x.writes=a at*
 generalize y.writes=b at*
 have ha:a.length≤maxLen:=by have:=hi.1;unfold maxLen;omega
 refine aa (fn:=eS) rfl ?_
 cases c0
 ·simp(maxSteps:=9999999) [eS,h0,h1]
 cases c1
 ·simp(maxSteps:=9999999) [eS,h0,h1]
 by_cases hl:a.length=b.length
 ·rw[mF hl]
  simp(maxSteps:=9999999) [eS,h0,h1,hl]
  rw[←hl]
  refine aL bG Cl.fin [.f,.f,.t,.t,.f,.t,.f,.f,.f,.f,.f,.f,.f,.f,.f,.f,.f,.f,.f,.f,.f,.f,.f,.f,.f,.f,.f,.f,.f,.f,.f,.f,.f,.f,.f,.f,.f,.f,.f,.f,.f,.f,.f,.f,.f] (fun k=>[(5,ai .i64 k)]) a.length (ii OA a b) rfl (by simp[hl]) (fun k hk _=> ?_) (fun _ hp=> ?_)
  ·have hk2:k<b.length:=by omega
   have he:=SI a[k] b[k]
   have hn:ii OA a b k= !(OA a[k] b[k]):=by simp[ii,hk,hk2]
   rw[hn]
   generalize OA a[k] b[k]=c at*
   cases c<;>simp +contextual (maxSteps:=9999999) [gG,hk,hk2,XWrite.e.eq_1 a[k],XWrite.e.eq_1 b[k],he,aU ha hk,a8 hk,a8 hk2,hl]
  ·simp(maxSteps:=9999999) [gG,hp]
 ·have hc:((a.length:Int)==(b.length:Int))=false:=by rw[beq_eq_false_iff_ne];omega
  rw[mG hl]
  simp(maxSteps:=9999999) [eS,h0,h1,hc]
theorem xF {B:Nat}(hB:B≤1048576){x y:XSync}(h:x.Ok B):ag Ph aC 567 [.agg (x.e.map .pv), .agg (y.e.map .pv)]=some (aD (LJ x y)):=by
 have e0:=uo (x:=x.outbox) (y:=y.outbox) hB h.1
 rw[XOutbox.e.eq_1,XOutbox.e.eq_1]at e0
 simp only[List.map_cons,List.map_nil]at e0
 unfold LJ
 obtain⟨c0,h0⟩:∃c,(x.tries==y.tries)=c:=⟨_,rfl⟩
 obtain⟨c1,h1⟩:∃c,(x.wait==y.wait)=c:=⟨_,rfl⟩
 rw[h0,h1]
 generalize LF x.outbox y.outbox=d0 at*
 refine aa (fn:=mV) rfl ?_
 cases c0<;>cases c1<;>cases d0<;>simp(maxSteps:=9999999) [mV,XSync.e.eq_1,XOutbox.e.eq_1,h0,h1,e0]
theorem uq {B:Nat}(hB:B≤1048576){x y:XReplica}(h:x.Ok B):ag Ph aC 554 [.agg (x.e.map .pv), .agg (y.e.map .pv)]=some (aD (LH x y)):=by
 have e0:=px (x:=x.base) (y:=y.base) hB h.1
 have e1:=xF (x:=x.sync) (y:=y.sync) hB h.2.2
 rw[XSync.e.eq_1,XSync.e.eq_1]at e1
 simp only[List.map_cons,List.map_nil]at e1
 unfold LH
 obtain⟨c0,h0⟩:∃c,(x.seen==y.seen)=c:=⟨_,rfl⟩
 rw[h0]
 generalize tu x.base y.base=d0 at*
 generalize LJ x.sync y.sync=d1 at*
 refine aa (fn:=kj) rfl ?_
 cases c0<;>cases d0<;>cases d1<;>simp(maxSteps:=9999999) [kj,XReplica.e.eq_1,XSync.e.eq_1,XStore.e.eq_1,h0,e0,e1]
theorem ni {B:Nat}(hB:B≤1048576){x y:XResponse}(h:x.Ok B):ag Ph aC 565 [.agg (x.e.map .pv), .agg (y.e.map .pv)]=some (aD (Fx x y)):=by
 have e0:=mj (a:=x.body) (b:=y.body)
 unfold Fx
 obtain⟨c0,h0⟩:∃c,(x.type==y.type)=c:=⟨_,rfl⟩
 obtain⟨c1,h1⟩:∃c,(x.status==y.status)=c:=⟨_,rfl⟩
 obtain⟨c2,h2⟩:∃c,(x.version==y.version)=c:=⟨_,rfl⟩
 obtain⟨c3,h3⟩:∃c,(x.shares==y.shares)=c:=⟨_,rfl⟩
 rw[h0,h1,h2,h3]
 generalize (x.body==y.body)=d0 at*
 refine aa (fn:=jK) rfl ?_
 cases c0<;>cases c1<;>cases c2<;>cases c3<;>cases d0<;>simp(maxSteps:=9999999) [jK,XResponse.e.eq_1,h0,h1,h2,h3,e0]
theorem tU {B:Nat}(hB:B≤1048576){x y:XDatabase}(h:x.Ok B):ag Ph aC 566 [.agg (x.e.map .pv), .agg (y.e.map .pv)]=some (aD (Lx x y)):=by
 have hi:=h.2.2.1
 have hj:=h.2.2.2.1
 unfold Lx
 obtain⟨c0,h0⟩:∃c,(x.name==y.name)=c:=⟨_,rfl⟩
 obtain⟨c1,h1⟩:∃c,(x.version==y.version)=c:=⟨_,rfl⟩
 rw[h0,h1,XDatabase.e.eq_1,XDatabase.e.eq_1]
 generalize x.stores=a at*
 generalize y.stores=b at*
 generalize x.unique=u at*
 generalize y.unique=v at*
 have ha:a.length≤maxLen:=by have:=hi.1;unfold maxLen;omega
 have hu:u.length≤maxLen:=by unfold maxLen;omega
 refine aa (fn:=dS) rfl ?_
 cases c0
 ·simp(maxSteps:=9999999) [dS,h0]
 cases c1
 ·simp(maxSteps:=9999999) [dS,h0,h1]
 by_cases hl:a.length=b.length
 rotate_left
 ·have hc:((a.length:Int)==(b.length:Int))=false:=by rw[beq_eq_false_iff_ne];omega
  rw[mG hl]
  simp(maxSteps:=9999999) [dS,h0,h1,hc]
 by_cases hm:u.length=v.length
 rotate_left
 ·have hc:((u.length:Int)==(v.length:Int))=false:=by rw[beq_eq_false_iff_ne];omega
  rw[mG hm,Bool.and_false]
  simp(maxSteps:=9999999) [dS,h0,h1,hl,hc]
 rw[mF hl,mF hm]
 simp(maxSteps:=9999999) [dS,h0,h1,hl,hm]
 rw[←hl,←hm]
 refine aL bG Cl.fin [.f,.f,.t,.t,.f,.t,.f,.f,.f,.f,.f,.f,.f,.f,.f,.f,.f,.f,.f,.f,.f,.f,.f,.f,.f,.f,.f,.f,.f,.f,.f,.f,.f,.f,.f,.f,.f,.f,.f,.f,.f,.f,.f,.f,.f,.f,.f,.f,.f,.f,.f,.f,.f,.f,.f,.f,.f,.f,.f,.f,.f,.f,.f,.f,.f,.f,.f,.f,.f,.f,.f,.f,.f,.f] (fun k=>[(5,ai .i64 k)]) a.length (ii tu a b) rfl (by simp[hl]) (fun k hk _=> ?_) (fun _ hp=> ?_)
 ·have hk2:k<b.length:=by omega
  have he:=px (x:=a[k]) (y:=b[k]) hB (hi.2 _ (List.getElem_mem hk))
  have hn:ii tu a b k= !(tu a[k] b[k]):=by simp[ii,hk,hk2]
  rw[hn]
  generalize tu a[k] b[k]=c at*
  cases c<;>simp +contextual (maxSteps:=9999999) [eQ,hk,hk2,XStore.e.eq_1 a[k],XStore.e.eq_1 b[k],he,aU ha hk,a8 hk,a8 hk2,hl]
 ·simp(maxSteps:=9999999) [eQ,hp]
  refine aL bG Cl.fin [.f,.f,.t,.t,.f,.f,.t,.f,.f,.f,.f,.f,.f,.f,.f,.f,.f,.f,.f,.f,.f,.f,.f,.f,.f,.f,.f,.f,.f,.f,.f,.f,.f,.f,.f,.f,.f,.f,.f,.f,.f,.f,.f,.f,.f,.f,.f,.f,.f,.f,.f,.f,.f,.f,.f,.f,.f,.f,.f,.f,.f,.f,.f,.f,.f,.f,.f,.f,.f,.f,.f,.f,.f,.f] (fun k=>[(6,ai .i64 k)]) u.length (ii zQ u v) rfl (by simp[hm]) (fun k hk _=> ?_) (fun _ hp=> ?_)
  ·have hk2:k<v.length:=by omega
   have he:=Qm u[k] v[k]
   have hn:ii zQ u v k= !(zQ u[k] v[k]):=by simp[ii,hk,hk2]
   rw[hn]
   generalize zQ u[k] v[k]=c at*
   cases c<;>simp +contextual (maxSteps:=9999999) [gj,hk,hk2,XIndexDef.e.eq_1 u[k],XIndexDef.e.eq_1 v[k],he,aU hu hk,a8 hk,a8 hk2,hm]
  ·simp(maxSteps:=9999999) [gj,hp]
theorem xE {B:Nat}(hB:B≤1048576){x y:XDisk}(h:x.Ok B):ag Ph aC 553 [.agg (x.e.map .pv), .agg (y.e.map .pv)]=some (aD (Ly x y)):=by
 have e0:=tU (x:=x.base) (y:=y.base) hB h.1
 rw[XDatabase.e.eq_1,XDatabase.e.eq_1]at e0
 simp only[List.map_cons,List.map_nil]at e0
 have e1:=mj (a:=x.log) (b:=y.log)
 unfold Ly
 obtain⟨c0,h0⟩:∃c,(x.count==y.count)=c:=⟨_,rfl⟩
 rw[h0]
 generalize Lx x.base y.base=d0 at*
 generalize (x.log==y.log)=d1 at*
 refine aa (fn:=mU) rfl ?_
 cases c0<;>cases d0<;>cases d1<;>simp(maxSteps:=9999999) [mU,XDisk.e.eq_1,XDatabase.e.eq_1,h0,e0,e1]
theorem tT {B:Nat}(hB:B≤1048576){x y:XCacheSet}(h:x.Ok B):ag Ph aC 552 [.agg (x.e.map .pv), .agg (y.e.map .pv)]=some (aD (Lw x y)):=by
 have hi:x.caches.length≤B∧∀c∈x.caches,c.Ok B:=h
 unfold Lw
 rw[XCacheSet.e.eq_1,XCacheSet.e.eq_1]
 generalize x.caches=a at*
 generalize y.caches=b at*
 have ha:a.length≤maxLen:=by have:=hi.1;unfold maxLen;omega
 refine aa (fn:=ig) rfl ?_
 by_cases hl:a.length=b.length
 rotate_left
 ·have hc:((a.length:Int)==(b.length:Int))=false:=by rw[beq_eq_false_iff_ne];omega
  rw[mG hl]
  simp(maxSteps:=9999999) [ig,hc]
 rw[mF hl]
 simp(maxSteps:=9999999) [ig,hl]
 rw[←hl]
 refine aL bG Cl.fin [.f,.f,.t,.t,.f,.t,.f,.f,.f,.f,.f,.f,.f,.f,.f,.f,.f,.f,.f,.f,.f,.f,.f,.f,.f,.f,.f,.f,.f,.f,.f,.f,.f,.f,.f,.f,.f,.f,.f,.f,.f,.f,.f,.f,.f,.f,.f,.f,.f,.f,.f,.f,.f,.f,.f,.f,.f,.f,.f,.f,.f,.f,.f,.f,.f,.f,.f,.f,.f,.f,.f,.f,.f,.f,.f,.f,.f,.f,.f,.f,.f,.f,.f,.f,.f,.f,.f,.f,.f,.f,.f,.f,.f,.f,.f,.f,.f,.f] (fun k=>[(5,ai .i64 k)]) a.length (ii wP a b) rfl (by simp[hl]) (fun k hk _=> ?_) (fun _ hp=> ?_)
 ·have hk2:k<b.length:=by omega
  have hn:ii wP a b k= !(wP a[k] b[k]):=by simp[ii,hk,hk2]
  have hj:=(hi.2 _ (List.getElem_mem hk)).2
  have hxa:=XCache.e.eq_1 a[k]
  have hxb:=XCache.e.eq_1 b[k]
  have w1:=aU ha hk
  have w2:=a8 hk
  have w3:=a8 hk2
  have hq:∃q,wP a[k] b[k]=q:=⟨_,rfl⟩
  obtain⟨q,hq⟩:=hq
  rw[hn,hq]
  unfold wP at hq
  obtain⟨c0,h0⟩:∃c,(a[k].version==b[k].version)=c:=⟨_,rfl⟩
  rw[h0]at hq
  generalize a[k].entries=u at*
  generalize b[k].entries=v at*
  have hu:u.length≤maxLen:=by have:=hj.1;unfold maxLen;omega
  cases c0
  ·subst hq
   simp +contextual (maxSteps:=9999999) [dz,hk,hk2,hxa,hxb,h0,w1,w2,w3,hl]
  by_cases hm:u.length=v.length
  rotate_left
  ·have hc:((u.length:Int)==(v.length:Int))=false:=by rw[beq_eq_false_iff_ne];omega
   rw[mG hm]at hq
   subst hq
   simp +contextual (maxSteps:=9999999) [dz,hk,hk2,hxa,hxb,h0,hc,w1,w2,w3,hl]
  rw[mF hm,Bool.true_and]at hq
  cases hA:lc u.length (ii tt u v)<;>rw[hA]at hq<;>subst hq<;>have hB2:=hA<;>rw[hm]at hB2
  ·simp(maxSteps:=9999999) [dz,hk,hk2,hxa,hxb,h0,hm,w1,w2,w3,hl]
   rw[←hm]
   refine aL bG Cl.kn [.f,.f,.t,.t,.f,.t,.t,.t,.t,.f,.f,.f,.f,.f,.f,.f,.f,.f,.f,.f,.f,.f,.f,.f,.f,.f,.f,.f,.f,.f,.f,.f,.f,.f,.f,.f,.f,.f,.f,.f,.f,.f,.f,.f,.f,.f,.f,.f,.f,.f,.f,.f,.f,.f,.f,.f,.f,.f,.f,.f,.f,.f,.f,.f,.f,.f,.f,.f,.f,.f,.f,.f,.f,.f,.f,.f,.f,.f,.f,.f,.f,.f,.f,.f,.f,.f,.f,.f,.f,.f,.f,.f,.f,.f,.f,.f,.f,.f] (fun j=>[(8,ai .i64 j)]) u.length (ii tt u v) rfl (by simp[hm]) (fun j hj1 _=> ?_) (fun _ hp=> ?_)
   ·have hj2:j<v.length:=by omega
    have hn2:ii tt u v j= !(tt u[j] v[j]):=by simp[ii,hj1,hj2]
    have he:=ni (x:=u[j].resp) (y:=v[j].resp) hB (hj.2 _ (List.getElem_mem hj1)).2.2
    rw[XResponse.e.eq_1,XResponse.e.eq_1]at he
    simp only[List.map_cons,List.map_nil]at he
    have hd:tt u[j] v[j]=(u[j].site==v[j].site&&(u[j].path==v[j].path&&Fx u[j].resp v[j].resp)):=rfl
    rw[hn2,hd]
    obtain⟨d1,q1⟩:∃c,(u[j].site==v[j].site)=c:=⟨_,rfl⟩
    obtain⟨d2,q2⟩:∃c,(u[j].path==v[j].path)=c:=⟨_,rfl⟩
    rw[q1,q2]
    generalize Fx u[j].resp v[j].resp=d3 at*
    cases d1<;>cases d2<;>cases d3<;>simp +contextual (maxSteps:=9999999) [dY,hj1,hj2,XCached.e.eq_1 u[j],XCached.e.eq_1 v[j],q1,q2,he,aU hu hj1,a8 hj1,a8 hj2,hm,hA,hB2]
   ·simp(maxSteps:=9999999) [dY,w1,hm]
  ·simp(maxSteps:=9999999) [dz,hk,hk2,hxa,hxb,h0,hm,w1,w2,w3,hl]
   rw[←hm]
   refine aL bG (Cl.imp bG Cl.fin rfl) [.f,.f,.t,.t,.f,.t,.t,.t,.t,.f,.f,.f,.f,.f,.f,.f,.f,.f,.f,.f,.f,.f,.f,.f,.f,.f,.f,.f,.f,.f,.f,.f,.f,.f,.f,.f,.f,.f,.f,.f,.f,.f,.f,.f,.f,.f,.f,.f,.f,.f,.f,.f,.f,.f,.f,.f,.f,.f,.f,.f,.f,.f,.f,.f,.f,.f,.f,.f,.f,.f,.f,.f,.f,.f,.f,.f,.f,.f,.f,.f,.f,.f,.f,.f,.f,.f,.f,.f,.f,.f,.f,.f,.f,.f,.f,.f,.f,.f] (fun j=>[(8,ai .i64 j)]) u.length (ii tt u v) rfl (by simp[hm]) (fun j hj1 _=> ?_) (fun _ hp=> ?_)
   ·have hj2:j<v.length:=by omega
    have hn2:ii tt u v j= !(tt u[j] v[j]):=by simp[ii,hj1,hj2]
    have he:=ni (x:=u[j].resp) (y:=v[j].resp) hB (hj.2 _ (List.getElem_mem hj1)).2.2
    rw[XResponse.e.eq_1,XResponse.e.eq_1]at he
    simp only[List.map_cons,List.map_nil]at he
    have hd:tt u[j] v[j]=(u[j].site==v[j].site&&(u[j].path==v[j].path&&Fx u[j].resp v[j].resp)):=rfl
    rw[hn2,hd]
    obtain⟨d1,q1⟩:∃c,(u[j].site==v[j].site)=c:=⟨_,rfl⟩
    obtain⟨d2,q2⟩:∃c,(u[j].path==v[j].path)=c:=⟨_,rfl⟩
    rw[q1,q2]
    generalize Fx u[j].resp v[j].resp=d3 at*
    cases d1<;>cases d2<;>cases d3<;>simp +contextual (maxSteps:=9999999) [dY,hj1,hj2,XCached.e.eq_1 u[j],XCached.e.eq_1 v[j],q1,q2,he,aU hu hj1,a8 hj1,a8 hj2,hm,hA,hB2]
   ·rw[hA]at hp
    cases hp
 ·simp(maxSteps:=9999999) [dz,hp]
theorem ve {B:Nat}(hB:B≤1048576){x y:XBucket}(h:x.Ok B):ag Ph aC 544 [.agg (x.e.map .pv), .agg (y.e.map .pv)]=some (aD (Qh x y)):=by
 have e0:=tT (x:=x.caches) (y:=y.caches) hB h.2.2.2.1
 have e1:=xE (x:=x.disk) (y:=y.disk) hB h.2.2.2.2.1
 have e2:=uq (x:=x.replica) (y:=y.replica) hB h.2.2.2.2.2.1
 have he:=Qo x.reg y.reg
 rw[XCacheSet.e.eq_1,XCacheSet.e.eq_1]at e0
 rw[XDisk.e.eq_1,XDisk.e.eq_1]at e1
 rw[XReplica.e.eq_1,XReplica.e.eq_1]at e2
 simp only[List.map_cons,List.map_nil]at e0 e1 e2
 unfold Qh
 obtain⟨c0,h0⟩:∃c,(x.site==y.site)=c:=⟨_,rfl⟩
 obtain⟨c1,h1⟩:∃c,(x.top==y.top)=c:=⟨_,rfl⟩
 obtain⟨c2,h2⟩:∃c,(x.lastUsed==y.lastUsed)=c:=⟨_,rfl⟩
 obtain⟨c3,h3⟩:∃c,(x.persistent==y.persistent)=c:=⟨_,rfl⟩
 rw[h0,h1,h2,h3]
 generalize Qn x.reg y.reg=d0 at*
 generalize Lw x.caches y.caches=d1 at*
 generalize Ly x.disk y.disk=d2 at*
 generalize LH x.replica y.replica=d3 at*
 refine aa (fn:=cN) rfl ?_
 cases c0
 ·simp(maxSteps:=9999999) [cN,XBucket.e.eq_1,he,h0,h1,h2,h3,e0,e1,e2]
 cases c1
 ·simp(maxSteps:=9999999) [cN,XBucket.e.eq_1,he,h0,h1,h2,h3,e0,e1,e2]
 cases d0
 ·simp(maxSteps:=9999999) [cN,XBucket.e.eq_1,he,h0,h1,h2,h3,e0,e1,e2]
 cases d1
 ·simp(maxSteps:=9999999) [cN,XBucket.e.eq_1,he,h0,h1,h2,h3,e0,e1,e2]
 cases d2
 ·simp(maxSteps:=9999999) [cN,XBucket.e.eq_1,he,h0,h1,h2,h3,e0,e1,e2]
 cases d3
 ·simp(maxSteps:=9999999) [cN,XBucket.e.eq_1,he,h0,h1,h2,h3,e0,e1,e2]
 cases c2
 ·simp(maxSteps:=9999999) [cN,XBucket.e.eq_1,he,h0,h1,h2,h3,e0,e1,e2]
 cases c3
 ·simp(maxSteps:=9999999) [cN,XBucket.e.eq_1,he,h0,h1,h2,h3,e0,e1,e2]
 simp(maxSteps:=9999999) [cN,XBucket.e.eq_1,he,h0,h1,h2,h3,e0,e1,e2]
def J8 (a b:List Int)(k:Nat):Bool:=match a[k]?,b[k]? with
 |some x,some y=> !(x==y)
 |_,_=>false
theorem I9 {a b:List Int}(h:a.length=b.length):(a==b)= !(lc a.length (J8 a b)):=by
 cases q:lc a.length (J8 a b)with
 |false=>
  have:a=b:=List.ext_getElem h fun i h1 h2=>by
   have:=wL q h1
   simpa only[J8,h1,h2,List.getElem?_eq_getElem,Bool.not_eq_false',beq_iff_eq]using this
  simp[this]
 |true=>
  have:a≠b:=fun e=>by
   subst e
   rw[zD fun k hk=>by simp[J8,hk]]at q
   cases q
  simp[this]
theorem yE {a b:List Int}(ha:a.length≤maxLen):ag Ph aC 545 [bi (a.map jS),bi (b.map jS)]=some (aD (a==b)):=by
 have key:ag Ph aC 555 [bi (a.map jS),bi (b.map jS)]=some (aD (a==b)):=by
  refine aa (fn:=gH) rfl ?_
  by_cases hl:a.length=b.length
  ·rw[I9 hl]
   simp(maxSteps:=9999999) [gH,hl]
   rw[←hl]
   refine aL bG Cl.fin [.t,.t,.f,.f,.f,.f,.f,.f,.f,.f,.f,.f,.t,.t,.f,.f,.f,.f,.f,.f,.f,.f,.f,.f,.f,.f] (fun k=>[(13,ai .i64 k)]) a.length (J8 a b) rfl (by simp[hl]) (fun k hk _=> ?_) (fun _ hp=> ?_)
   ·have hk2:k<b.length:=by omega
    obtain⟨c,hc⟩:∃c,(a[k]==b[k])=c:=⟨_,rfl⟩
    simp +contextual (maxSteps:=9999999) [fU,hk,hk2,J8,show jS a[k]=[.int .i64 a[k]]from rfl,show jS b[k]=[.int .i64 b[k]]from rfl,hc,aU ha hk,a8 hk,a8 hk2,hl]
   ·simp(maxSteps:=9999999) [fU,hp]
  ·have hb:(a==b)=false:=by rw[beq_eq_false_iff_ne];exact fun e=>hl (by rw[e])
   have hc:((a.length:Int)==(b.length:Int))=false:=by rw[beq_eq_false_iff_ne];omega
   simp(maxSteps:=9999999) [gH,hb,hc]
 refine aa (fn:=nH) rfl ?_
 simp(maxSteps:=9999999) [nH,key]
theorem zf {a b:List Int}(ha:a.length≤maxLen):ag Ph aC 543 [bi (a.map jS),bi (b.map jS)]=some (aD (a==b)):=by
 refine aa (fn:=kL) rfl ?_
 by_cases hl:a.length=b.length
 ·rw[I9 hl]
  simp(maxSteps:=9999999) [kL,hl]
  rw[←hl]
  refine aL bG Cl.fin [.t,.t,.f,.f,.f,.t,.f,.f,.f,.f,.f,.f,.f,.f,.f,.f,.f,.f,.f,.f,.f,.f,.f,.f,.f,.f] (fun k=>[(5,ai .i64 k)]) a.length (J8 a b) rfl (by simp[hl]) (fun k hk _=> ?_) (fun _ hp=> ?_)
  ·have hk2:k<b.length:=by omega
   obtain⟨c,hc⟩:∃c,(a[k]==b[k])=c:=⟨_,rfl⟩
   simp +contextual (maxSteps:=9999999) [jm,hk,hk2,J8,show jS a[k]=[.int .i64 a[k]]from rfl,show jS b[k]=[.int .i64 b[k]]from rfl,hc,aU ha hk,a8 hk,a8 hk2,hl]
  ·simp(maxSteps:=9999999) [jm,hp]
 ·have hb:(a==b)=false:=by rw[beq_eq_false_iff_ne];exact fun e=>hl (by rw[e])
  have hc:((a.length:Int)==(b.length:Int))=false:=by rw[beq_eq_false_iff_ne];omega
  simp(maxSteps:=9999999) [kL,hb,hc]
end Gi
