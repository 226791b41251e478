/- Of this proof. -/
import Derived.Test.YtgmnakghjemjlabGreatGkm
import Derived.Test.YtgmnakghjemjlabGreatGke
set_option linter.unusedSimpArgs false
set_option linter.unusedVariables false
namespace Gi
open Go Go.RowKit
set_option maxHeartbeats 8000000
set_option maxRecDepth 4000
attribute [local simp] bw rW bg bY dS fY dR fX f7 f6 um uB uo uC uq uD ur uE ut uF uu uG uw uH uy uI uz uJ V.cells plain bo gr isInt isStr isBool bin cT jF cU jG fZ un asList L.view ap V.view viewL aU ar cX bZ bP comp aK bu dz cr bD bB bC bx bc bU aO bH aS aX bJ bV bI bG bK V.flat L.flat dJ dk bt putAt thaw thawL thawT V.ow f5 dW dX cV f4 cW dV freezeVs freezeLs freezeL V.mut L.mut aJ cG iK aN be aG dv bM bi bS L.ren aV dL ce dO bQ bF wp_seq wp_block bA ed cY ca cZ wp_skip wp_exit wp_ret cK cI cS cL df dg de cq aW L.notArr aR aP aQ dZ bp storeD a9 fT br cE bh nK L.mov L.closed V.closed PV.bare PV.flat
theorem FB {z:Nat}{r:List (List PV)}:dJ (.one (.own z r))=bm r:=rfl
def ik {α:Type}(f:α→Nat)(xs:List α):Nat:=(xs.map f).sum
theorem m5 {α:Type}{f:α→Nat}{xs:List α}{k:Nat}(hk:k<xs.length):ik f (xs.take (k+1))=ik f (xs.take k)+f xs[k]:=by
 unfold ik;rw[List.take_succ_eq_append_getElem hk,List.map_append,List.sum_append];simp
theorem p6 {α:Type}{f:α→Nat}{c:Nat}(h:∀x,f x≤c):∀(xs:List α),ik f xs≤c*xs.length
 |[]=>by simp[ik]
 |x::xs=>by
  have:=p6 h xs
  have:=h x
  simp only[ik,List.map_cons,List.sum_cons,List.length_cons,Nat.mul_add]at*
  omega
def sH (x:XItem):Nat:=(lm x.key).length+(rI x.rcd).length
theorem ma (x:XItem):sH x≤110:=by have:=BZ x.key;have:=B1 x.rcd;unfold sH;omega
def k8 (s:XStore):Nat:=ik sH s.items
theorem pF {s:XStore}(h:s.Ok 1048576):ag Ph aE 197 [s.v]=some (aa .i64 (k8 s:Nat)):=by
 refine ae (fn:=mC) rfl ?_
 simp +contextual (maxSteps:=9999999) [mC]
 refine aC aT Cl.fin [.f,.f,.f,.t,.f,.f,.f,.t,.t,.t,.f,.f,.f,.f,.f,.f,.f,.f,.f,.f,.f,.f,.f,.f,.f,.f] (fun k=>[(3,aa .i64 (ik sH (s.items.take k):Nat)),(9,aa .i64 k)]) s.items.length (fun _=>false) rfl (by simp[ik]) (fun k hk _=> ?_) (fun _ _=> ?_)
 ·have hx:=XItem.e.eq_1 s.items[k]
  have hi:=XItem.Ok.mono (B:=maxLen) (by unfold maxLen;omega) (h.2.1.2 _ (List.getElem_mem hk))
  have e1:=wP hi.1
  have e2:=sj hi.2
  have l1:=BZ s.items[k].key
  have l2:=B1 s.items[k].rcd
  have l3:=p6 ma (s.items.take k)
  have l4:(s.items.take k).length≤1048576:=by rw[List.length_take];have:=h.2.1.1;omega
  have ht:ik sH (s.items.take (k+1))=ik sH (s.items.take k)+((lm s.items[k].key).length+(rI s.items[k].rcd).length):=m5 hk
  rw[ht]
  generalize ik sH (s.items.take k)=A at l3⊢
  have g:=Dv s.items[k].rcd
  generalize zN s.items[k].rcd=W at e2 g
  have q1:(am (lm s.items[k].key)).length=(lm s.items[k].key).length:=bv
  have q2:(am (rI s.items[k].rcd)).length=(rI s.items[k].rcd).length:=bv
  generalize (lm s.items[k].key).length=a at l1 q1⊢
  generalize (rI s.items[k].rcd).length=b at l2 q2⊢
  have w1:IntKind.i64.wrap ((a:Int)+(b:Int))=(a:Int)+(b:Int):=by rw[IntKind.wrap_i64];omega
  have w2:IntKind.i64.wrap ((A:Int)+((a:Int)+(b:Int)))=(A:Int)+((a:Int)+(b:Int)):=by rw[IntKind.wrap_i64];omega
  have w3:IntKind.i64.wrap ((A:Int)+(a:Int))=(A:Int)+(a:Int):=by rw[IntKind.wrap_i64];omega
  have w4:IntKind.i64.wrap ((A:Int)+(a:Int)+(b:Int))=(A:Int)+((a:Int)+(b:Int)):=by rw[IntKind.wrap_i64];omega
  simp(maxSteps:=9999999) [iw,hk,hx,e1,e2,FB, ↓g,q1,q2,w1,w2,w3,w4,aF (n:=s.items.length) (by have:=h.2.1.1;unfold maxLen;omega) hk,aY hk,-dJ]
 ·rw[List.take_length]
  simp(maxSteps:=9999999) [iw,k8]
theorem pI {s:XStore}(h:s.Ok 1048576):ag Ph aE 194 [s.v]=some (aa .i64 (k8 s:Nat)):=by
 refine ae (fn:=mO) rfl ?_
 simp +contextual (maxSteps:=9999999) [mO]
 refine aC aT Cl.fin [.f,.t,.f,.t,.t,.f,.f,.f,.f,.f,.f,.f,.f,.f,.f,.f,.f,.f,.f,.f,.f,.f,.f,.f,.f,.f,.f,.f,.f,.f,.f,.f] (fun k=>[(3,aa .i64 (ik sH (s.items.take k):Nat)),(4,aa .i64 k)]) s.items.length (fun _=>false) rfl (by simp[ik]) (fun k hk _=> ?_) (fun _ _=> ?_)
 ·have hx:=XItem.e.eq_1 s.items[k]
  have hi:=XItem.Ok.mono (B:=maxLen) (by unfold maxLen;omega) (h.2.1.2 _ (List.getElem_mem hk))
  have e1:=xm hi.1
  have e2:=sJ hi.2
  have l1:=BZ s.items[k].key
  have l2:=B1 s.items[k].rcd
  have l3:=p6 ma (s.items.take k)
  have l4:(s.items.take k).length≤1048576:=by rw[List.length_take];have:=h.2.1.1;omega
  have ht:ik sH (s.items.take (k+1))=ik sH (s.items.take k)+((lm s.items[k].key).length+(rI s.items[k].rcd).length):=m5 hk
  rw[ht]
  generalize ik sH (s.items.take k)=A at l3⊢
  have g:=Dv s.items[k].rcd
  generalize zN s.items[k].rcd=W at e2 g
  have q1:(am (lm s.items[k].key)).length=(lm s.items[k].key).length:=bv
  have q2:(am (rI s.items[k].rcd)).length=(rI s.items[k].rcd).length:=bv
  generalize (lm s.items[k].key).length=a at l1 q1⊢
  generalize (rI s.items[k].rcd).length=b at l2 q2⊢
  have w1:IntKind.i64.wrap ((a:Int)+(b:Int))=(a:Int)+(b:Int):=by rw[IntKind.wrap_i64];omega
  have w2:IntKind.i64.wrap ((A:Int)+((a:Int)+(b:Int)))=(A:Int)+((a:Int)+(b:Int)):=by rw[IntKind.wrap_i64];omega
  have w3:IntKind.i64.wrap ((A:Int)+(a:Int))=(A:Int)+(a:Int):=by rw[IntKind.wrap_i64];omega
  have w4:IntKind.i64.wrap ((A:Int)+(a:Int)+(b:Int))=(A:Int)+((a:Int)+(b:Int)):=by rw[IntKind.wrap_i64];omega
  simp(maxSteps:=9999999) [iA,hk,hx,e1,e2,FB, ↓g,q1,q2,w1,w2,w3,w4,aF (n:=s.items.length) (by have:=h.2.1.1;unfold maxLen;omega) hk,aY hk,-dJ]
 ·rw[List.take_length]
  simp(maxSteps:=9999999) [iA,k8]
theorem mY {α:Type}{f:α→Nat}{c:Nat}:∀{xs:List α},(∀x∈xs,f x≤c)→ik f xs≤c*xs.length
 |[],_=>by simp[ik]
 |x::xs,h=>by
  have h1:=mY (xs:=xs) (fun y hy=>h y (by simp[hy]))
  have h2:=h x (by simp)
  simp only[ik,List.map_cons,List.sum_cons,List.length_cons,Nat.mul_add]at*
  omega
def rz (d:XDatabase):Nat:=ik k8 d.stores
theorem xl {d:XDatabase}(h:d.Ok 1048576):rz d≤115343360*1048576:=Nat.le_trans (mY (c:=115343360) fun s hs=>Nat.le_trans (p6 ma _) (by have:=(h.2.2.1.2 s hs).2.1.1;omega)) (Nat.mul_le_mul_left _ h.2.2.1.1)
theorem sk {d:XDatabase}(h:d.Ok 1048576):ag Ph aE 224 [d.v]=some (aa .i64 (rz d:Nat)):=by
 refine ae (fn:=jS) rfl ?_
 simp +contextual (maxSteps:=9999999) [jS]
 refine aC aT Cl.fin [.f,.f,.f,.t,.f,.f,.f,.t,.t,.t,.f,.f,.f,.f,.f,.f,.f,.f,.f] (fun k=>[(3,aa .i64 (ik k8 (d.stores.take k):Nat)),(9,aa .i64 k)]) d.stores.length (fun _=>false) rfl (by simp[ik]) (fun k hk _=> ?_) (fun _ _=> ?_)
 ·have hx:=XStore.e.eq_1 d.stores[k]
  have hi:=h.2.2.1.2 _ (List.getElem_mem hk)
  have e1:=pF hi
  have l1:k8 d.stores[k]≤115343360:=Nat.le_trans (p6 ma _) (by have:=hi.2.1.1;omega)
  have l3:=mY (f:=k8) (c:=115343360) (xs:=d.stores.take k) (fun s hs=>Nat.le_trans (p6 ma _) (by have:=(h.2.2.1.2 s (List.mem_of_mem_take hs)).2.1.1;omega))
  have l4:(d.stores.take k).length≤1048576:=by rw[List.length_take];have:=h.2.2.1.1;omega
  rw[m5 hk]
  generalize ik k8 (d.stores.take k)=A at l3⊢
  generalize k8 d.stores[k]=a at l1 e1⊢
  have w1:IntKind.i64.wrap ((A:Int)+(a:Int))=(A:Int)+(a:Int):=by rw[IntKind.wrap_i64];omega
  simp(maxSteps:=9999999) [gm,hk,hx,e1,w1,aF (n:=d.stores.length) (by have:=h.2.2.1.1;unfold maxLen;omega) hk,aY hk]
 ·rw[List.take_length]
  simp(maxSteps:=9999999) [gm,rz]
theorem yV {x:XDisk}(h:x.Ok 1048576):ag Ph aE 196 [x.v]=some (aa .i64 (rz x.base+x.log.length:Nat)):=by
 have e1:=sk h.1
 have l1:=xl h.1
 have l2:=h.2.1
 generalize rz x.base=A at e1 l1⊢
 have w1:IntKind.i64.wrap ((A:Int)+(x.log.length:Int))=(A:Int)+(x.log.length:Int):=by rw[IntKind.wrap_i64];omega
 refine ae (fn:=ni) rfl ?_
 simp +contextual (maxSteps:=9999999) [ni,e1,w1,bv]
theorem sK {d:XDatabase}(h:d.Ok 1048576):ag Ph aE 220 [d.v]=some (aa .i64 (rz d:Nat)):=by
 refine ae (fn:=jX) rfl ?_
 simp +contextual (maxSteps:=9999999) [jX]
 refine aC aT Cl.fin [.f,.t,.f,.t,.t,.f,.f,.f,.f,.f,.f,.f,.f,.f,.f,.f,.f,.f,.f,.f,.f] (fun k=>[(3,aa .i64 (ik k8 (d.stores.take k):Nat)),(4,aa .i64 k)]) d.stores.length (fun _=>false) rfl (by simp[ik]) (fun k hk _=> ?_) (fun _ _=> ?_)
 ·have hx:=XStore.e.eq_1 d.stores[k]
  have hi:=h.2.2.1.2 _ (List.getElem_mem hk)
  have e1:=pI hi
  have l1:k8 d.stores[k]≤115343360:=Nat.le_trans (p6 ma _) (by have:=hi.2.1.1;omega)
  have l3:=mY (f:=k8) (c:=115343360) (xs:=d.stores.take k) (fun s hs=>Nat.le_trans (p6 ma _) (by have:=(h.2.2.1.2 s (List.mem_of_mem_take hs)).2.1.1;omega))
  have l4:(d.stores.take k).length≤1048576:=by rw[List.length_take];have:=h.2.2.1.1;omega
  rw[m5 hk]
  generalize ik k8 (d.stores.take k)=A at l3⊢
  generalize k8 d.stores[k]=a at l1 e1⊢
  have w1:IntKind.i64.wrap ((A:Int)+(a:Int))=(A:Int)+(a:Int):=by rw[IntKind.wrap_i64];omega
  simp(maxSteps:=9999999) [gq,hk,hx,e1,w1,aF (n:=d.stores.length) (by have:=h.2.2.1.1;unfold maxLen;omega) hk,aY hk]
 ·rw[List.take_length]
  simp(maxSteps:=9999999) [gq,rz]
theorem zy {x:XDisk}(h:x.Ok 1048576):ag Ph aE 193 [x.v]=some (aa .i64 (rz x.base+x.log.length:Nat)):=by
 have e1:=sK h.1
 have l1:=xl h.1
 have l2:=h.2.1
 generalize rz x.base=A at e1 l1⊢
 have w1:IntKind.i64.wrap ((A:Int)+(x.log.length:Int))=(A:Int)+(x.log.length:Int):=by rw[IntKind.wrap_i64];omega
 refine ae (fn:=ny) rfl ?_
 simp +contextual (maxSteps:=9999999) [ny,e1,w1,bv]
def Ag (b:Bool)(x:XResponse):Nat:=cond b 76 (16+x.body.length)
def qu (e:XCached):Nat:=Ag (e.resp.type==3) e.resp
theorem sG {e:XCached}(h:e.Ok 1048576):qu e≤1048592:=by
 have:=h.2.2.2.2.2
 unfold qu Ag
 cases(e.resp.type==3)<;>simp only[cond_true,cond_false]<;>omega
def uk (c:XCache):Nat:=ik qu c.entries
theorem Dx {c:XCache}(h:c.Ok 1048576):uk c≤1048592*1048576:=Nat.le_trans (mY fun e he=>sG (h.2.2 e he)) (Nat.mul_le_mul_left _ h.2.1)
def Af (s:XCacheSet):Nat:=ik uk s.caches
theorem vw {x:XResponse}(h:x.body.length≤1048576)(b:Bool):ag Ph aE 223 [x.v,au b]=some (aa .i64 (Ag b x:Nat)):=by
 have w1:IntKind.i64.wrap (16+(x.body.length:Int))=16+(x.body.length:Int):=by rw[IntKind.wrap_i64];omega
 refine ae (fn:=lC) rfl ?_
 cases b<;>simp(maxSteps:=9999999) [lC,Ag,w1,bv]
theorem vu {s:XCacheSet}(h:s.Ok 1048576):ag Ph aE 195 [s.v]=some (aa .i64 (Af s:Nat)):=by
 refine ae (fn:=lB) rfl ?_
 simp +contextual (maxSteps:=9999999) [lB]
 refine aC aT Cl.fin [.f,.f,.f,.t,.f,.f,.f,.f,.f,.t,.t,.t,.f,.f,.f,.f,.f,.f,.f,.f,.f,.f,.f,.f,.f,.f,.f,.f,.f,.f,.f,.f,.f,.f] (fun k=>[(3,aa .i64 (ik uk (s.caches.take k):Nat)),(11,aa .i64 k)]) s.caches.length (fun _=>false) rfl (by simp[ik]) (fun k hk _=> ?_) (fun _ _=> ?_)
 ·have hx:=XCache.e.eq_1 s.caches[k]
  have hc:=h.2 _ (List.getElem_mem hk)
  have wk:=aF (n:=s.caches.length) (by have:=h.1;unfold maxLen;omega) hk
  have l4:=mY (f:=uk) (c:=1048592*1048576) (xs:=s.caches.take k) (fun c hm=>Dx (h.2 c (List.mem_of_mem_take hm)))
  have l5:(s.caches.take k).length≤1048576:=by rw[List.length_take];have:=h.1;omega
  rw[m5 hk]
  generalize ik uk (s.caches.take k)=A at l4⊢
  simp(maxSteps:=9999999) [gP,hk,hx,aY hk]
  refine aC aT Cl.kn [.f,.f,.f,.t,.f,.f,.f,.f,.f,.t,.t,.t,.f,.f,.f,.f,.t,.t,.t,.f,.f,.f,.f,.f,.f,.f,.f,.f,.f,.f,.f,.f,.f,.f] (fun j=>[(3,aa .i64 (A+ik qu (s.caches[k].entries.take j):Nat)),(18,aa .i64 j)]) s.caches[k].entries.length (fun _=>false) rfl (by simp[ik]) (fun j hj _=> ?_) (fun _ _=> ?_)
  ·have hy:=XCached.e.eq_1 s.caches[k].entries[j]
   have he:=hc.2.2 _ (List.getElem_mem hj)
   have e1:=fun b=>vw (x:=s.caches[k].entries[j].resp) he.2.2.2.2.2 b
   have wj:=aF (n:=s.caches[k].entries.length) (by have:=hc.2.1;unfold maxLen;omega) hj
   have l1:=sG he
   have l2:=mY (f:=qu) (c:=1048592) (xs:=s.caches[k].entries.take j) (fun c hm=>sG (hc.2.2 c (List.mem_of_mem_take hm)))
   have l3:(s.caches[k].entries.take j).length≤1048576:=by rw[List.length_take];have:=hc.2.1;omega
   have hs:Ag (s.caches[k].entries[j].resp.type==3) s.caches[k].entries[j].resp=qu s.caches[k].entries[j]:=rfl
   have e2:=e1 (s.caches[k].entries[j].resp.type==3)
   rw[hs]at e2
   rw[m5 hj]
   generalize ik qu (s.caches[k].entries.take j)=D at l2⊢
   generalize qu s.caches[k].entries[j]=a at l1 e2⊢
   have w1:IntKind.i64.wrap ((A:Int)+(D:Int)+(a:Int))=(A:Int)+((D:Int)+(a:Int)):=by rw[IntKind.wrap_i64];omega
   simp(maxSteps:=9999999) [fQ,hk,hj,hx,hy,e2,w1,wj,aY hj]
  ·rw[List.take_length]
   simp(maxSteps:=9999999) [fQ,hk,hx,wk,uk]
 ·rw[List.take_length]
  simp(maxSteps:=9999999) [gP,Af]
theorem vM {x:XResponse}(h:x.body.length≤1048576)(b:Bool):ag Ph aE 219 [x.v,au b]=some (aa .i64 (Ag b x:Nat)):=by
 have w1:IntKind.i64.wrap (16+(x.body.length:Int))=16+(x.body.length:Int):=by rw[IntKind.wrap_i64];omega
 refine ae (fn:=lN) rfl ?_
 cases b<;>simp(maxSteps:=9999999) [lN,Ag,w1,bv]
theorem vL {s:XCacheSet}(h:s.Ok 1048576):ag Ph aE 192 [s.v]=some (aa .i64 (Af s:Nat)):=by
 refine ae (fn:=lM) rfl ?_
 simp +contextual (maxSteps:=9999999) [lM]
 refine aC aT Cl.fin [.f,.t,.f,.t,.t,.f,.f,.f,.f,.f,.f,.f,.f,.f,.f,.f,.f,.f,.f,.f,.f,.f,.f,.f,.f,.f,.f,.f,.f,.f,.f,.f,.f,.f,.f,.f,.f,.f,.f,.f,.f,.f,.f] (fun k=>[(3,aa .i64 (ik uk (s.caches.take k):Nat)),(4,aa .i64 k)]) s.caches.length (fun _=>false) rfl (by simp[ik]) (fun k hk _=> ?_) (fun _ _=> ?_)
 ·have hx:=XCache.e.eq_1 s.caches[k]
  have hc:=h.2 _ (List.getElem_mem hk)
  have wk:=aF (n:=s.caches.length) (by have:=h.1;unfold maxLen;omega) hk
  have l4:=mY (f:=uk) (c:=1048592*1048576) (xs:=s.caches.take k) (fun c hm=>Dx (h.2 c (List.mem_of_mem_take hm)))
  have l5:(s.caches.take k).length≤1048576:=by rw[List.length_take];have:=h.1;omega
  rw[m5 hk]
  generalize ik uk (s.caches.take k)=A at l4⊢
  simp(maxSteps:=9999999) [gT,hk,hx,aY hk]
  refine aC aT Cl.kn [.f,.t,.f,.t,.t,.t,.f,.f,.f,.f,.f,.f,.f,.f,.f,.f,.f,.f,.f,.f,.f,.f,.f,.f,.f,.f,.f,.f,.f,.f,.f,.f,.f,.f,.f,.f,.f,.f,.f,.f,.f,.f,.f] (fun j=>[(3,aa .i64 (A+ik qu (s.caches[k].entries.take j):Nat)),(5,aa .i64 j)]) s.caches[k].entries.length (fun _=>false) rfl (by simp[ik]) (fun j hj _=> ?_) (fun _ _=> ?_)
  ·have hy:=XCached.e.eq_1 s.caches[k].entries[j]
   have he:=hc.2.2 _ (List.getElem_mem hj)
   have e1:=fun b=>vM (x:=s.caches[k].entries[j].resp) he.2.2.2.2.2 b
   have wj:=aF (n:=s.caches[k].entries.length) (by have:=hc.2.1;unfold maxLen;omega) hj
   have l1:=sG he
   have l2:=mY (f:=qu) (c:=1048592) (xs:=s.caches[k].entries.take j) (fun c hm=>sG (hc.2.2 c (List.mem_of_mem_take hm)))
   have l3:(s.caches[k].entries.take j).length≤1048576:=by rw[List.length_take];have:=hc.2.1;omega
   have hs:Ag (s.caches[k].entries[j].resp.type==3) s.caches[k].entries[j].resp=qu s.caches[k].entries[j]:=rfl
   have e2:=e1 (s.caches[k].entries[j].resp.type==3)
   rw[hs]at e2
   rw[m5 hj]
   generalize ik qu (s.caches[k].entries.take j)=D at l2⊢
   generalize qu s.caches[k].entries[j]=a at l1 e2⊢
   have w1:IntKind.i64.wrap ((A:Int)+(D:Int)+(a:Int))=(A:Int)+((D:Int)+(a:Int)):=by rw[IntKind.wrap_i64];omega
   simp(maxSteps:=9999999) [fR,hk,hj,hx,hy,e2,w1,wj,aY hj]
  ·rw[List.take_length]
   simp(maxSteps:=9999999) [fR,hk,hx,wk,uk]
 ·rw[List.take_length]
  simp(maxSteps:=9999999) [gT,Af]
theorem IP {s:XCacheSet}(h:s.Ok 1048576):Af s≤1048592*1048576*1048576:=Nat.le_trans (mY fun c hm=>Dx (h.2 c hm)) (Nat.mul_le_mul_left _ h.1)
def Jm (x:XBucket):Nat:=Af x.caches+(rz x.disk.base+x.disk.log.length)+k8 x.replica.base+40*x.replica.sync.outbox.writes.length
theorem A3 {x:XBucket}(h:x.Ok 1048576):ag Ph aE 162 [x.v]=some (aa .i64 (Jm x:Nat)):=by
 obtain⟨_,_,_,hc,hd,hr,_⟩:=h
 have e1:=vu hc
 have e2:=yV hd
 have e3:=pF hr.1
 have l1:=IP hc
 have l2:=xl hd.1
 have l3:k8 x.replica.base≤115343360:=Nat.le_trans (p6 ma _) (by have:=hr.1.2.1.1;omega)
 have l4:=hd.2.1
 have l5:x.replica.sync.outbox.writes.length≤1048576:=hr.2.2.1.2.2.1
 unfold Jm
 generalize Af x.caches=A at e1 l1⊢
 generalize rz x.disk.base=B at e2 l2⊢
 generalize k8 x.replica.base=C at e3 l3⊢
 have w1:IntKind.i64.wrap ((A:Int)+((B:Int)+(x.disk.log.length:Int)))=(A:Int)+((B:Int)+(x.disk.log.length:Int)):=by rw[IntKind.wrap_i64];omega
 have w2:IntKind.i64.wrap ((A:Int)+((B:Int)+(x.disk.log.length:Int))+(C:Int))=(A:Int)+((B:Int)+(x.disk.log.length:Int))+(C:Int):=by rw[IntKind.wrap_i64];omega
 have w3:IntKind.i64.wrap (40*(x.replica.sync.outbox.writes.length:Int))=40*(x.replica.sync.outbox.writes.length:Int):=by rw[IntKind.wrap_i64];omega
 have w4:IntKind.i64.wrap ((A:Int)+((B:Int)+(x.disk.log.length:Int))+(C:Int)+40*(x.replica.sync.outbox.writes.length:Int))=(A:Int)+((B:Int)+(x.disk.log.length:Int))+(C:Int)+40*(x.replica.sync.outbox.writes.length:Int):=by rw[IntKind.wrap_i64];omega
 refine ae (fn:=om) rfl ?_
 simp +contextual (maxSteps:=9999999) [om,e1,e2,e3,w1,w2,w3,w4]
theorem Bb {x:XBucket}(h:x.Ok 1048576):ag Ph aE 161 [x.v]=some (aa .i64 (Jm x:Nat)):=by
 obtain⟨_,_,_,hc,hd,hr,_⟩:=h
 have e1:=vL hc
 have e2:=zy hd
 have e3:=pI hr.1
 have l1:=IP hc
 have l2:=xl hd.1
 have l3:k8 x.replica.base≤115343360:=Nat.le_trans (p6 ma _) (by have:=hr.1.2.1.1;omega)
 have l4:=hd.2.1
 have l5:x.replica.sync.outbox.writes.length≤1048576:=hr.2.2.1.2.2.1
 unfold Jm
 generalize Af x.caches=A at e1 l1⊢
 generalize rz x.disk.base=B at e2 l2⊢
 generalize k8 x.replica.base=C at e3 l3⊢
 have w1:IntKind.i64.wrap ((A:Int)+((B:Int)+(x.disk.log.length:Int)))=(A:Int)+((B:Int)+(x.disk.log.length:Int)):=by rw[IntKind.wrap_i64];omega
 have w2:IntKind.i64.wrap ((A:Int)+((B:Int)+(x.disk.log.length:Int))+(C:Int))=(A:Int)+((B:Int)+(x.disk.log.length:Int))+(C:Int):=by rw[IntKind.wrap_i64];omega
 have w3:IntKind.i64.wrap (40*(x.replica.sync.outbox.writes.length:Int))=40*(x.replica.sync.outbox.writes.length:Int):=by rw[IntKind.wrap_i64];omega
 have w4:IntKind.i64.wrap ((A:Int)+((B:Int)+(x.disk.log.length:Int))+(C:Int)+40*(x.replica.sync.outbox.writes.length:Int))=(A:Int)+((B:Int)+(x.disk.log.length:Int))+(C:Int)+40*(x.replica.sync.outbox.writes.length:Int):=by rw[IntKind.wrap_i64];omega
 refine ae (fn:=oA) rfl ?_
 simp +contextual (maxSteps:=9999999) [oA,e1,e2,e3,w1,w2,w3,w4]
abbrev qT (s:List UInt8):Bool:=p5 s 30 true
theorem vq {s:List UInt8}(h:s.length≤maxLen):ag Ph aE 389 [fM s]=some (au (qT s)):=by
 refine ae (fn:=lw) rfl ?_
 simp(maxSteps:=9999999) [lw,su h]
theorem vJ {s:List UInt8}(h:s.length≤maxLen):ag Ph aE 386 [fM s]=some (au (qT s)):=by
 refine ae (fn:=lK) rfl ?_
 simp +contextual (maxSteps:=9999999) [lK]
 refine aC aT Cl.fin [.t,.f,.f,.t,.f,.f,.f,.f,.f,.f,.f,.f,.f,.f,.f,.f,.f,.f,.f,.f,.f,.f,.f,.f,.f,.f,.f,.f,.f] (fun k=>[(3,aa .i64 k)]) s.length (JC true s) rfl (by simp) (fun k hk _=> ?_) (fun _ hp=> ?_)
 ·simp +contextual (maxSteps:=9999999) [gS,JC,qT,p5,hk,aF h hk,aY hk]
 ·simp +contextual (maxSteps:=9999999) [gS,qT,p5,hp,bq]
def oW (x:XResponse):Bool:=rg x.type 1 4&&(rg x.status 0 999&&(rg x.version 0 1000000000000&& !(dA 60 x.body.length)))
theorem iE (x:XResponse):ag Ph aE 403 [x.v]=some (au (oW x)):=by
 refine ae (fn:=ly) rfl ?_
 simp +contextual (maxSteps:=9999999) [ly,aZ,oW,bv]
theorem vK (x:XResponse):ag Ph aE 408 [x.v]=some (au (oW x)):=by
 refine ae (fn:=lL) rfl ?_
 simp +contextual (maxSteps:=9999999) [lL,bq,oW,bv]
def In (x:XWrite):Bool:=rg x.dev 1 1000000&&(rg x.seq 1 1000000&&(ql x.key&&(cC x.field&&rg x.n 0 1000000000)))
theorem mj {x:XWrite}(h:x.Ok maxLen):ag Ph aE 390 [x.v]=some (au (In x)):=by
 refine ae (fn:=jq) rfl ?_
 simp +contextual (maxSteps:=9999999) [jq,aZ,mW h.2.2.1,bn h.2.2.2.1,In]
theorem ml {x:XWrite}(h:x.Ok maxLen):ag Ph aE 383 [x.v]=some (au (In x)):=by
 refine ae (fn:=jt) rfl ?_
 simp +contextual (maxSteps:=9999999) [jt,bq,mX h.2.2.1,co h.2.2.2.1,In]
def vS (a b:XBucket):Bool:=Op.bytesLess a.site b.site||(a.site==b.site&&Op.bytesLess a.top b.top)
theorem sn (a b:XBucket):ag Ph aE 388 [a.v,b.v]=some (au (vS a b)):=by
 refine ae (fn:=jT) rfl ?_
 simp +contextual (maxSteps:=9999999) [jT,vS]
theorem Bq (a b:XBucket):ag Ph aE 385 [a.v,fM b.site,fM b.top]=some (au (vS a b)):=by
 refine ae (fn:=oQ) rfl ?_
 simp +contextual (maxSteps:=9999999) [oQ,vS]
def Kb :List (List UInt8):=[[98,97,110,107],[110,101,119,115],[115,104,111,112]]
theorem zA :ag Ph aE 181 []=some (.one (.own 1 (Kb.map nI))):=by
 refine ae (fn:=nB) rfl ?_
 simp(maxSteps:=9999999) [nB,Kb,nI]
theorem C3 {us:List (List UInt8)}(hl:us.length≤maxLen)(x:List UInt8):ag Ph aE 182 [bm (us.map nI),fM x]=some (aa .i64 (ib (fun u=>x==u) us)):=by
 refine ae (fn:=fJ) rfl ?_
 simp +contextual (maxSteps:=9999999) [fJ]
 refine aC aT Cl.fin [.t,.t,.f,.f,.f,.f,.f,.t,.t,.f,.f,.f,.f,.f,.f,.f,.f,.f,.f] (fun k=>[(8,aa .i64 k)]) us.length (io (fun u=>x==u) us) rfl (by simp) (fun k hk hj=> ?_) (fun hj _=> ?_)
 ·have hf:=yM hk hj
  have hs:(us.map nI)[k]'(by simpa using hk)=[.str us[k]]:=by simp[nI]
  cases hg:(x==us[k])
  ·simp(maxSteps:=9999999) [cP,io,hk,hg,aF hl hk,aY hk,nI]
  ·have hf2:=hf hg
   have ha:io (fun u=>x==u) us k=true:=by simp only[io,hk,List.getElem?_eq_getElem,hg]
   generalize ib (fun u=>x==u) us=F at hf2⊢
   generalize io (fun u=>x==u) us=A at ha⊢
   simp(maxSteps:=9999999) [cP,ha,hk,hg,hf2,aF hl hk,aY hk,nI]
 ·simp +contextual (maxSteps:=9999999) [cP,CN hj]
def zr (s:List UInt8):Int:=ib (fun u=>s==u) Kb
theorem vt (s:List UInt8):ag Ph aE 154 [fM s]=some (aa .i64 (zr s)):=by
 have e1:=C3 (us:=Kb) (by decide) s
 simp only[Kb,List.map_cons,List.map_nil,nI]at e1
 refine ae (fn:=lA) rfl ?_
 simp(maxSteps:=9999999) [lA,e1,zr,Kb]
def FU (l v:Int):Bool:= !(rg v 0 1000000000000)||(!(v==0)&& !(dA l v))
def Px (l v:Int):Int:=if v=0 then l else v
def MP (V:List Int)(k:Nat):Int:=(V.take k).foldl Px 0
def FV (V:List Int)(k:Nat):Bool:=match V[k]? with
 |some v=>FU (MP V k) v
 |none=>false
def C9 (r:XRegistration):Bool:= !(fA [r.active,r.waiting,r.installing].length (FV [r.active,r.waiting,r.installing]))&&cC r.site
theorem PL {l v:Int}(h:FU l v=true):(rg v 0 1000000000000=true→(v==0)=false)∧(rg v 0 1000000000000=true→dA l v=false):=by
 refine⟨fun g=> ?_,fun g=> ?_⟩<;>rw[FU,g]at h<;>simp at h
 ·simpa using h.1
 ·exact h.2
theorem NN {l v:Int}(h:FU l v=false)(hl:0≤l):rg v 0 1000000000000=true∧((v==0)=false→dA l v=true)∧(if l<v then v else l)=Px l v∧0≤Px l v:=by
 simp only[FU,Bool.or_eq_false_iff,Bool.not_eq_false',Bool.and_eq_false_iff,beq_iff_eq]at h
 obtain⟨h1,h2⟩:=h
 unfold Px
 by_cases z:v=0
 ·rw[if_pos z];subst z;exact⟨h1,fun q=>by simp at q,by rw[if_neg (by omega)],hl⟩
 ·rw[if_neg z]
  have h3:=h2.resolve_left z
  have:=of_decide_eq_true h3
  exact⟨h1,fun _=>h3,by rw[if_pos this],by omega⟩
theorem On {V:List Int}{k:Nat}(hk:k<V.length):MP V (k+1)=Px (MP V k) V[k]:=by
 unfold MP;rw[List.take_succ_eq_append_getElem hk,List.foldl_append];rfl
theorem GF {V:List Int}:∀{k:Nat},k≤V.length→(∀j,j<k→FV V j=false)→0≤MP V k
 |0,_,_=>Int.le_refl 0
 |k+1,hk,hj=>by
  have ih:=GF (V:=V) (k:=k) (by omega) (fun j h=>hj j (by omega))
  have hb:=hj k (by omega)
  have hk':k<V.length:=hk
  simp only[FV,hk',List.getElem?_eq_getElem]at hb
  rw[On hk']
  exact(NN hb ih).2.2.2
theorem qS {r:XRegistration}(h:r.Ok maxLen):ag Ph aE 395 [r.v]=some (au (C9 r)):=by
 have e1:=bn h.1
 unfold C9
 obtain⟨V,hV⟩:∃V,V=[r.active,r.waiting,r.installing]:=⟨_,rfl⟩
 have hR:[[PV.int .i64 r.active],[PV.int .i64 r.waiting],[PV.int .i64 r.installing]]=V.map tC:=by rw[hV];rfl
 have hl:V.length=3:=by rw[hV];rfl
 rw[←hV]
 refine ae (fn:=iR) rfl ?_
 simp(maxSteps:=9999999) [iR]
 rw[hR]
 clear hR hV
 refine aC aT Cl.fin [.f,.t,.f,.t,.f,.f,.f,.f,.f,.f,.f,.f,.t,.t,.t,.f,.f,.f,.f,.f,.f,.f,.f,.f,.f,.f,.f,.f,.f,.f,.f,.f,.f,.f,.f,.f,.f] (fun k=>[(3,aa .i64 (MP V k)),(14,aa .i64 k)]) V.length (FV V) rfl (by simp[MP,hl]) (fun k hk hj=> ?_) (fun _ hp=> ?_)
 ·have hpos:=GF (Nat.le_of_lt hk) hj
  have hs:=On hk
  have hb:FV V k=FU (MP V k) V[k]:=by simp[FV,hk]
  have e3:=aZ V[k] 0 1000000000000
  have w:=aF (n:=V.length) (by rw[hl];decide) hk
  have lk:dA (k:Int) 3=true:=lY (by omega)
  have hk3:k<3:=by omega
  rw[hb,hs]
  generalize MP V k=l at hpos⊢
  generalize hv:V[k]=v at e3⊢
  cases b:FU l v
  ·obtain⟨g,z,mx,_⟩:=NN b hpos
   rw[g]at e3
   cases z0:(v==0)
   ·have z1:=z z0
    have nx:Px l v=v:=if_neg (by simpa using z0)
    simp(maxSteps:=9999999) [cO,hk,hk3,hl,hv,tC,e3,z0,z1,mx,nx,w,lk]
   ·have nx:Px l v=l:=if_pos (by simpa using z0)
    simp(maxSteps:=9999999) [cO,hk,hk3,hl,hv,tC,e3,z0,mx,nx,w,lk]
  ·obtain⟨q1,q2⟩:=PL b
   cases g:rg v 0 1000000000000<;>rw[g]at e3
   ·simp +contextual (maxSteps:=9999999) [cO,hk,hk3,hl,hv,tC,e3,w,lk]
   ·have q3:=q1 g
    have q4:=q2 g
    simp +contextual (maxSteps:=9999999) [cO,hk,hk3,hl,hv,tC,e3,q3,q4,w,lk]
 ·rw[hl]at hp
  simp(maxSteps:=9999999) [cO,hp,hl,e1,show dA 3 3=false from rfl]
theorem rf {r:XRegistration}(h:r.Ok maxLen):ag Ph aE 391 [r.v]=some (au (C9 r)):=by
 have e1:=co h.1
 unfold C9
 obtain⟨V,hV⟩:∃V,V=[r.active,r.waiting,r.installing]:=⟨_,rfl⟩
 have hR:[[PV.int .i64 r.active],[PV.int .i64 r.waiting],[PV.int .i64 r.installing]]=V.map tC:=by rw[hV];rfl
 have hl:V.length=3:=by rw[hV];rfl
 rw[←hV]
 refine ae (fn:=iU) rfl ?_
 simp(maxSteps:=9999999) [iU]
 rw[hR]
 clear hR hV
 refine aC aT Cl.fin [.f,.t,.f,.t,.t,.t,.f,.f,.f,.f,.f,.f,.f,.f,.f,.f,.f,.f,.f,.f,.f,.f,.f,.f,.f,.f,.f,.f,.f,.f,.f,.f,.f,.f,.f,.f,.f,.f,.f,.f,.f,.f,.f,.f,.f,.f,.f,.f,.f,.f,.f,.f] (fun k=>[(3,aa .i64 (MP V k)),(5,aa .i64 k)]) V.length (FV V) rfl (by simp[MP,hl]) (fun k hk hj=> ?_) (fun _ hp=> ?_)
 ·have hpos:=GF (Nat.le_of_lt hk) hj
  have hs:=On hk
  have hb:FV V k=FU (MP V k) V[k]:=by simp[FV,hk]
  have e3:=bq V[k] 0 1000000000000
  have w:=aF (n:=V.length) (by rw[hl];decide) hk
  have lk:dA (k:Int) 3=true:=lY (by omega)
  have hk3:k<3:=by omega
  rw[hb,hs]
  generalize MP V k=l at hpos⊢
  generalize hv:V[k]=v at e3⊢
  cases b:FU l v
  ·obtain⟨g,z,mx,_⟩:=NN b hpos
   rw[g]at e3
   cases z0:(v==0)
   ·have z1:=z z0
    have nx:Px l v=v:=if_neg (by simpa using z0)
    simp(maxSteps:=9999999) [cQ,hk,hk3,hl,hv,tC,e3,z0,z1,mx,nx,w,lk]
   ·have nx:Px l v=l:=if_pos (by simpa using z0)
    simp(maxSteps:=9999999) [cQ,hk,hk3,hl,hv,tC,e3,z0,mx,nx,w,lk]
  ·obtain⟨q1,q2⟩:=PL b
   cases g:rg v 0 1000000000000<;>rw[g]at e3
   ·simp +contextual (maxSteps:=9999999) [cQ,hk,hk3,hl,hv,tC,e3,w,lk]
   ·have q3:=q1 g
    have q4:=q2 g
    simp +contextual (maxSteps:=9999999) [cQ,hk,hk3,hl,hv,tC,e3,q3,q4,w,lk]
 ·rw[hl]at hp
  simp(maxSteps:=9999999) [cQ,hp,hl,e1,show dA 3 3=false from rfl]
def Qu (fs:List XField)(nm:List UInt8):Nat:=fs.findIdx fun f=> !(Op.bytesLess f.name nm)
def Q4 (fs:List XField)(nm:List UInt8)(n:Int):List XField:=match fs[Qu fs nm]? with
 |some f=>if f.name=nm then fs.set (Qu fs nm) ⟨nm,n⟩else fs.take (Qu fs nm)++(⟨nm,n⟩::fs.drop (Qu fs nm))
 |none=>fs.take (Qu fs nm)++(⟨nm,n⟩::fs.drop (Qu fs nm))
def setR (fs:List XField)(nm:List UInt8)(n:Int):List XField×Bool:=cond (nH fs&&nH (Q4 fs nm n)) (Q4 fs nm n,true) (fs,false)
theorem KZ {α:Type}{p:α→Bool}{xs:List α}(h:ib p xs= -1):∀x∈xs,p x=false:=fun x hx=>by
 unfold ib at h
 cases q:xs.findIdx? p with
 |none=>rw[List.findIdx?_eq_none_iff]at q;exact q x hx
 |some i=>rw[q]at h;simp only at h;omega
theorem Df {j:Nat}:dA (j:Int) 0=false:=ud (by omega)
end Gi
