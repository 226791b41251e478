/- Of this proof. -/
import Derived.Test.YtebnmoogdmpepaaGreatGky
import Derived.Test.YtebnmoogdmpepaaGreatGkm
import Derived.Test.YtebnmoogdmpepaaGreatGkp
set_option linter.unusedSimpArgs false
set_option linter.unusedVariables false
namespace Gi
open Go Go.RowKit
set_option maxHeartbeats 8000000
set_option maxRecDepth 4000
attribute [local simp] start oH bJ cI cS ed cR dZ eu ep pz pI pA pJ pB pK pC pL pD pM pE pO pF pP pG pQ pH pR V.cells plain bA fR isInt isStr isBool bin bY gj bZ gl ee un asList L.view aj V.view viewL aW am ce bD bS comp aQ bI cH bP bq bo bp aC aq aY al aB aI au bi bF aE br bt V.flat L.flat db da bB putAt thaw thawL thawT V.ow ej cV cW ca eh cd cU freezeVs freezeLs freezeL V.mut L.mut aH dE fK aZ bC aN dv bR bj bV L.ren aP dg bW dq bU bH wp_seq wp_block bg cZ cf bE cj wp_skip wp_exit wp_ret ct cr cz cu cC cD cB bO aF L.notArr aU aS aT cY bz storeD bc eP bu co ba k8 L.mov L.closed V.closed PV.bare PV.flat
theorem oF {α:Type}{f:α→Nat}{c:Nat}:∀{xs:List α},(∀x∈xs,f x≤c)→jj f xs≤c*xs.length
 |[],_=>by simp[jj]
 |x::xs,h=>by
  have h1:=oF (xs:=xs) (fun y hy=>h y (by simp[hy]))
  have h2:=h x (by simp)
  simp only[jj,Zv,List.sum_cons,Zo,Nat.mul_add]at*
  omega
def uB (d:XDatabase):Nat:=jj mN d.stores
theorem Ab {d:XDatabase}(h:d.Ok 1048576):uB d≤115343360*1048576:=Zc (oF (c:=115343360) fun s hs=>Zc (sO nF _) (by have:=(h.2.2.1.2 s hs).2.1.1;omega)) (Nat.mul_le_mul_left _ h.2.2.1.1)
theorem vh {d:XDatabase}(h:d.Ok 1048576):ag Ph aM 224 [d.v]=some (aa .i64 (uB d:Nat)):=by
 refine ae (fn:=lf) rfl ?_
 simp +contextual (maxSteps:=9999999) [lf]
 refine aG bm Cl.fin [.f,.f,.f,.t,.f,.f,.f,.t,.t,.t,.f,.f,.f,.f,.f,.f,.f,.f,.f] (fun k=>[(3,aa .i64 (jj mN (d.stores.take k):Nat)),(9,aa .i64 k)]) d.stores.length (fun _=>false) rfl (by simp[jj]) (fun k hk _=> ?_) (fun _ _=> ?_)
 ·have hx:=XStore.e.eq_1 d.stores[k]
  have hi:=h.2.2.1.2 _ (Zf hk)
  have e1:=rY hi
  have l1:mN d.stores[k]≤115343360:=Zc (sO nF _) (by have:=hi.2.1.1;omega)
  have l3:=oF (f:=mN) (c:=115343360) (xs:=d.stores.take k) (fun s hs=>Zc (sO nF _) (by have:=(h.2.2.1.2 s (Z3 hs)).2.1.1;omega))
  have l4:(d.stores.take k).length≤1048576:=by rw[Yd];have:=h.2.2.1.1;omega
  rw[oM hk]
  generalize jj mN (d.stores.take k)=A at l3⊢
  generalize mN d.stores[k]=a at l1 e1⊢
  have w1:IntKind.i64.wrap ((A:Int)+(a:Int))=(A:Int)+(a:Int):=by rw[IntKind.wrap_i64];omega
  simp(maxSteps:=9999999) [hX,hk,hx,e1,w1,aR (n:=d.stores.length) (by have:=h.2.2.1.1;unfold maxLen;omega) hk,bd hk]
 ·rw[Yq]
  simp(maxSteps:=9999999) [hX,uB]
theorem Bw {x:XDisk}(h:x.Ok 1048576):ag Ph aM 196 [x.v]=some (aa .i64 (uB x.base+x.log.length:Nat)):=by
 have e1:=vh h.1
 have l1:=Ab h.1
 have l2:=h.2.1
 generalize uB x.base=A at e1 l1⊢
 have w1:IntKind.i64.wrap ((A:Int)+(x.log.length:Int))=(A:Int)+(x.log.length:Int):=by rw[IntKind.wrap_i64];omega
 refine ae (fn:=oX) rfl ?_
 simp +contextual (maxSteps:=9999999) [oX,e1,w1,cy]
theorem vJ {d:XDatabase}(h:d.Ok 1048576):ag Ph aM 220 [d.v]=some (aa .i64 (uB d:Nat)):=by
 refine ae (fn:=lw) rfl ?_
 simp +contextual (maxSteps:=9999999) [lw]
 refine aG bm Cl.fin [.f,.t,.f,.t,.t,.f,.f,.f,.f,.f,.f,.f,.f,.f,.f,.f,.f,.f,.f,.f,.f] (fun k=>[(3,aa .i64 (jj mN (d.stores.take k):Nat)),(4,aa .i64 k)]) d.stores.length (fun _=>false) rfl (by simp[jj]) (fun k hk _=> ?_) (fun _ _=> ?_)
 ·have hx:=XStore.e.eq_1 d.stores[k]
  have hi:=h.2.2.1.2 _ (Zf hk)
  have e1:=se hi
  have l1:mN d.stores[k]≤115343360:=Zc (sO nF _) (by have:=hi.2.1.1;omega)
  have l3:=oF (f:=mN) (c:=115343360) (xs:=d.stores.take k) (fun s hs=>Zc (sO nF _) (by have:=(h.2.2.1.2 s (Z3 hs)).2.1.1;omega))
  have l4:(d.stores.take k).length≤1048576:=by rw[Yd];have:=h.2.2.1.1;omega
  rw[oM hk]
  generalize jj mN (d.stores.take k)=A at l3⊢
  generalize mN d.stores[k]=a at l1 e1⊢
  have w1:IntKind.i64.wrap ((A:Int)+(a:Int))=(A:Int)+(a:Int):=by rw[IntKind.wrap_i64];omega
  simp(maxSteps:=9999999) [hZ,hk,hx,e1,w1,aR (n:=d.stores.length) (by have:=h.2.2.1.1;unfold maxLen;omega) hk,bd hk]
 ·rw[Yq]
  simp(maxSteps:=9999999) [hZ,uB]
theorem BR {x:XDisk}(h:x.Ok 1048576):ag Ph aM 193 [x.v]=some (aa .i64 (uB x.base+x.log.length:Nat)):=by
 have e1:=vJ h.1
 have l1:=Ab h.1
 have l2:=h.2.1
 generalize uB x.base=A at e1 l1⊢
 have w1:IntKind.i64.wrap ((A:Int)+(x.log.length:Int))=(A:Int)+(x.log.length:Int):=by rw[IntKind.wrap_i64];omega
 refine ae (fn:=pk) rfl ?_
 simp +contextual (maxSteps:=9999999) [pk,e1,w1,cy]
def Cr (b:Bool)(x:XResponse):Nat:=cond b 76 (16+x.body.length)
def tw (e:XCached):Nat:=Cr (e.resp.type==3) e.resp
theorem vD {e:XCached}(h:e.Ok 1048576):tw e≤1048592:=by
 have:=h.2.2.2.2.2
 unfold tw Cr
 cases(e.resp.type==3)<;>simp only[cond_true,cond_false]<;>omega
def xq (c:XCache):Nat:=jj tw c.entries
theorem F8 {c:XCache}(h:c.Ok 1048576):xq c≤1048592*1048576:=Zc (oF fun e he=>vD (h.2.2 e he)) (Nat.mul_le_mul_left _ h.2.1)
def Cq (s:XCacheSet):Nat:=jj xq s.caches
theorem ya {x:XResponse}(h:x.body.length≤1048576)(b:Bool):ag Ph aM 223 [x.v,aA b]=some (aa .i64 (Cr b x:Nat)):=by
 have w1:IntKind.i64.wrap (16+(x.body.length:Int))=16+(x.body.length:Int):=by rw[IntKind.wrap_i64];omega
 refine ae (fn:=m7) rfl ?_
 cases b<;>simp(maxSteps:=9999999) [m7,Cr,w1,cy]
theorem x5 {s:XCacheSet}(h:s.Ok 1048576):ag Ph aM 195 [s.v]=some (aa .i64 (Cq s:Nat)):=by
 refine ae (fn:=m6) rfl ?_
 simp +contextual (maxSteps:=9999999) [m6]
 refine aG bm Cl.fin [.f,.f,.f,.t,.f,.f,.f,.f,.f,.t,.t,.t,.f,.f,.f,.f,.f,.f,.f,.f,.f,.f,.f,.f,.f,.f,.f,.f,.f,.f,.f,.f,.f,.f] (fun k=>[(3,aa .i64 (jj xq (s.caches.take k):Nat)),(11,aa .i64 k)]) s.caches.length (fun _=>false) rfl (by simp[jj]) (fun k hk _=> ?_) (fun _ _=> ?_)
 ·have hx:=XCache.e.eq_1 s.caches[k]
  have hc:=h.2 _ (Zf hk)
  have wk:=aR (n:=s.caches.length) (by have:=h.1;unfold maxLen;omega) hk
  have l4:=oF (f:=xq) (c:=1048592*1048576) (xs:=s.caches.take k) (fun c hm=>F8 (h.2 c (Z3 hm)))
  have l5:(s.caches.take k).length≤1048576:=by rw[Yd];have:=h.1;omega
  rw[oM hk]
  generalize jj xq (s.caches.take k)=A at l4⊢
  simp(maxSteps:=9999999) [iF,hk,hx,bd hk]
  refine aG bm Cl.kn [.f,.f,.f,.t,.f,.f,.f,.f,.f,.t,.t,.t,.f,.f,.f,.f,.t,.t,.t,.f,.f,.f,.f,.f,.f,.f,.f,.f,.f,.f,.f,.f,.f,.f] (fun j=>[(3,aa .i64 (A+jj tw (s.caches[k].entries.take j):Nat)),(18,aa .i64 j)]) s.caches[k].entries.length (fun _=>false) rfl (by simp[jj]) (fun j hj _=> ?_) (fun _ _=> ?_)
  ·have hy:=XCached.e.eq_1 s.caches[k].entries[j]
   have he:=hc.2.2 _ (Zf hj)
   have e1:=fun b=>ya (x:=s.caches[k].entries[j].resp) he.2.2.2.2.2 b
   have wj:=aR (n:=s.caches[k].entries.length) (by have:=hc.2.1;unfold maxLen;omega) hj
   have l1:=vD he
   have l2:=oF (f:=tw) (c:=1048592) (xs:=s.caches[k].entries.take j) (fun c hm=>vD (hc.2.2 c (Z3 hm)))
   have l3:(s.caches[k].entries.take j).length≤1048576:=by rw[Yd];have:=hc.2.1;omega
   have hs:Cr (s.caches[k].entries[j].resp.type==3) s.caches[k].entries[j].resp=tw s.caches[k].entries[j]:=rfl
   have e2:=e1 (s.caches[k].entries[j].resp.type==3)
   rw[hs]at e2
   rw[oM hj]
   generalize jj tw (s.caches[k].entries.take j)=D at l2⊢
   generalize tw s.caches[k].entries[j]=a at l1 e2⊢
   have w1:IntKind.i64.wrap ((A:Int)+(D:Int)+(a:Int))=(A:Int)+((D:Int)+(a:Int)):=by rw[IntKind.wrap_i64];omega
   simp(maxSteps:=9999999) [gG,hk,hj,hx,hy,e2,w1,wj,bd hj]
  ·rw[Yq]
   simp(maxSteps:=9999999) [gG,hk,hx,wk,xq]
 ·rw[Yq]
  simp(maxSteps:=9999999) [iF,Cq]
theorem yv {x:XResponse}(h:x.body.length≤1048576)(b:Bool):ag Ph aM 219 [x.v,aA b]=some (aa .i64 (Cr b x:Nat)):=by
 have w1:IntKind.i64.wrap (16+(x.body.length:Int))=16+(x.body.length:Int):=by rw[IntKind.wrap_i64];omega
 refine ae (fn:=np) rfl ?_
 cases b<;>simp(maxSteps:=9999999) [np,Cr,w1,cy]
theorem yu {s:XCacheSet}(h:s.Ok 1048576):ag Ph aM 192 [s.v]=some (aa .i64 (Cq s:Nat)):=by
 refine ae (fn:=nn) rfl ?_
 simp +contextual (maxSteps:=9999999) [nn]
 refine aG bm Cl.fin [.f,.t,.f,.t,.t,.f,.f,.f,.f,.f,.f,.f,.f,.f,.f,.f,.f,.f,.f,.f,.f,.f,.f,.f,.f,.f,.f,.f,.f,.f,.f,.f,.f,.f,.f,.f,.f,.f,.f,.f,.f,.f,.f] (fun k=>[(3,aa .i64 (jj xq (s.caches.take k):Nat)),(4,aa .i64 k)]) s.caches.length (fun _=>false) rfl (by simp[jj]) (fun k hk _=> ?_) (fun _ _=> ?_)
 ·have hx:=XCache.e.eq_1 s.caches[k]
  have hc:=h.2 _ (Zf hk)
  have wk:=aR (n:=s.caches.length) (by have:=h.1;unfold maxLen;omega) hk
  have l4:=oF (f:=xq) (c:=1048592*1048576) (xs:=s.caches.take k) (fun c hm=>F8 (h.2 c (Z3 hm)))
  have l5:(s.caches.take k).length≤1048576:=by rw[Yd];have:=h.1;omega
  rw[oM hk]
  generalize jj xq (s.caches.take k)=A at l4⊢
  simp(maxSteps:=9999999) [iJ,hk,hx,bd hk]
  refine aG bm Cl.kn [.f,.t,.f,.t,.t,.t,.f,.f,.f,.f,.f,.f,.f,.f,.f,.f,.f,.f,.f,.f,.f,.f,.f,.f,.f,.f,.f,.f,.f,.f,.f,.f,.f,.f,.f,.f,.f,.f,.f,.f,.f,.f,.f] (fun j=>[(3,aa .i64 (A+jj tw (s.caches[k].entries.take j):Nat)),(5,aa .i64 j)]) s.caches[k].entries.length (fun _=>false) rfl (by simp[jj]) (fun j hj _=> ?_) (fun _ _=> ?_)
  ·have hy:=XCached.e.eq_1 s.caches[k].entries[j]
   have he:=hc.2.2 _ (Zf hj)
   have e1:=fun b=>yv (x:=s.caches[k].entries[j].resp) he.2.2.2.2.2 b
   have wj:=aR (n:=s.caches[k].entries.length) (by have:=hc.2.1;unfold maxLen;omega) hj
   have l1:=vD he
   have l2:=oF (f:=tw) (c:=1048592) (xs:=s.caches[k].entries.take j) (fun c hm=>vD (hc.2.2 c (Z3 hm)))
   have l3:(s.caches[k].entries.take j).length≤1048576:=by rw[Yd];have:=hc.2.1;omega
   have hs:Cr (s.caches[k].entries[j].resp.type==3) s.caches[k].entries[j].resp=tw s.caches[k].entries[j]:=rfl
   have e2:=e1 (s.caches[k].entries[j].resp.type==3)
   rw[hs]at e2
   rw[oM hj]
   generalize jj tw (s.caches[k].entries.take j)=D at l2⊢
   generalize tw s.caches[k].entries[j]=a at l1 e2⊢
   have w1:IntKind.i64.wrap ((A:Int)+(D:Int)+(a:Int))=(A:Int)+((D:Int)+(a:Int)):=by rw[IntKind.wrap_i64];omega
   simp(maxSteps:=9999999) [gI,hk,hj,hx,hy,e2,w1,wj,bd hj]
  ·rw[Yq]
   simp(maxSteps:=9999999) [gI,hk,hx,wk,xq]
 ·rw[Yq]
  simp(maxSteps:=9999999) [iJ,Cq]
theorem L7 {s:XCacheSet}(h:s.Ok 1048576):Cq s≤1048592*1048576*1048576:=Zc (oF fun c hm=>F8 (h.2 c hm)) (Nat.mul_le_mul_left _ h.1)
def MJ (x:XBucket):Nat:=Cq x.caches+(uB x.disk.base+x.disk.log.length)+mN x.replica.base+40*x.replica.sync.outbox.writes.length
theorem Dr {x:XBucket}(h:x.Ok 1048576):ag Ph aM 162 [x.v]=some (aa .i64 (MJ x:Nat)):=by
 obtain⟨_,_,_,hc,hd,hr,_⟩:=h
 have e1:=x5 hc
 have e2:=Bw hd
 have e3:=rY hr.1
 have l1:=L7 hc
 have l2:=Ab hd.1
 have l3:mN x.replica.base≤115343360:=Zc (sO nF _) (by have:=hr.1.2.1.1;omega)
 have l4:=hd.2.1
 have l5:x.replica.sync.outbox.writes.length≤1048576:=hr.2.2.1.2.2.1
 unfold MJ
 generalize Cq x.caches=A at e1 l1⊢
 generalize uB x.disk.base=B at e2 l2⊢
 generalize mN x.replica.base=C at e3 l3⊢
 have w1:IntKind.i64.wrap ((A:Int)+((B:Int)+(x.disk.log.length:Int)))=(A:Int)+((B:Int)+(x.disk.log.length:Int)):=by rw[IntKind.wrap_i64];omega
 have w2:IntKind.i64.wrap ((A:Int)+((B:Int)+(x.disk.log.length:Int))+(C:Int))=(A:Int)+((B:Int)+(x.disk.log.length:Int))+(C:Int):=by rw[IntKind.wrap_i64];omega
 have w3:IntKind.i64.wrap (40*(x.replica.sync.outbox.writes.length:Int))=40*(x.replica.sync.outbox.writes.length:Int):=by rw[IntKind.wrap_i64];omega
 have w4:IntKind.i64.wrap ((A:Int)+((B:Int)+(x.disk.log.length:Int))+(C:Int)+40*(x.replica.sync.outbox.writes.length:Int))=(A:Int)+((B:Int)+(x.disk.log.length:Int))+(C:Int)+40*(x.replica.sync.outbox.writes.length:Int):=by rw[IntKind.wrap_i64];omega
 refine ae (fn:=qn) rfl ?_
 simp +contextual (maxSteps:=9999999) [qn,e1,e2,e3,w1,w2,w3,w4]
theorem Dz {x:XBucket}(h:x.Ok 1048576):ag Ph aM 161 [x.v]=some (aa .i64 (MJ x:Nat)):=by
 obtain⟨_,_,_,hc,hd,hr,_⟩:=h
 have e1:=yu hc
 have e2:=BR hd
 have e3:=se hr.1
 have l1:=L7 hc
 have l2:=Ab hd.1
 have l3:mN x.replica.base≤115343360:=Zc (sO nF _) (by have:=hr.1.2.1.1;omega)
 have l4:=hd.2.1
 have l5:x.replica.sync.outbox.writes.length≤1048576:=hr.2.2.1.2.2.1
 unfold MJ
 generalize Cq x.caches=A at e1 l1⊢
 generalize uB x.disk.base=B at e2 l2⊢
 generalize mN x.replica.base=C at e3 l3⊢
 have w1:IntKind.i64.wrap ((A:Int)+((B:Int)+(x.disk.log.length:Int)))=(A:Int)+((B:Int)+(x.disk.log.length:Int)):=by rw[IntKind.wrap_i64];omega
 have w2:IntKind.i64.wrap ((A:Int)+((B:Int)+(x.disk.log.length:Int))+(C:Int))=(A:Int)+((B:Int)+(x.disk.log.length:Int))+(C:Int):=by rw[IntKind.wrap_i64];omega
 have w3:IntKind.i64.wrap (40*(x.replica.sync.outbox.writes.length:Int))=40*(x.replica.sync.outbox.writes.length:Int):=by rw[IntKind.wrap_i64];omega
 have w4:IntKind.i64.wrap ((A:Int)+((B:Int)+(x.disk.log.length:Int))+(C:Int)+40*(x.replica.sync.outbox.writes.length:Int))=(A:Int)+((B:Int)+(x.disk.log.length:Int))+(C:Int)+40*(x.replica.sync.outbox.writes.length:Int):=by rw[IntKind.wrap_i64];omega
 refine ae (fn:=qw) rfl ?_
 simp +contextual (maxSteps:=9999999) [qw,e1,e2,e3,w1,w2,w3,w4]
def IK (l v:Int):Bool:= !(rg v 0 1000000000000)||(!(v==0)&& !(cT l v))
def TL (l v:Int):Int:=if v=0 then l else v
def QA (V:List Int)(k:Nat):Int:=(V.take k).foldl TL 0
def IL (V:List Int)(k:Nat):Bool:=match V[k]? with
 |some v=>IK (QA V k) v
 |none=>false
def FG (r:XRegistration):Bool:= !(gD [r.active,r.waiting,r.installing].length (IL [r.active,r.waiting,r.installing]))&&dB r.site
theorem T7 {l v:Int}(h:IK l v=true):(rg v 0 1000000000000=true→(v==0)=false)∧(rg v 0 1000000000000=true→cT l v=false):=by
 refine⟨fun g=> ?_,fun g=> ?_⟩<;>rw[IK,g]at h<;>simp at h
 ·simpa using h.1
 ·exact h.2
theorem Rz {l v:Int}(h:IK l v=false)(hl:0≤l):rg v 0 1000000000000=true∧((v==0)=false→cT l v=true)∧(if l<v then v else l)=TL l v∧0≤TL l v:=by
 simp only[IK,Yp,Y6,Bool.and_eq_false_iff,beq_iff_eq]at h
 obtain⟨h1,h2⟩:=h
 unfold TL
 by_cases z:v=0
 ·rw[if_pos z];subst z;exact⟨h1,fun q=>by simp at q,by rw[if_neg (by omega)],hl⟩
 ·rw[if_neg z]
  have h3:=h2.resolve_left z
  have:=of_decide_eq_true h3
  exact⟨h1,fun _=>h3,by rw[if_pos this],by omega⟩
theorem Sg {V:List Int}{k:Nat}(hk:k<V.length):QA V (k+1)=TL (QA V k) V[k]:=by
 unfold QA;rw[Yf hk,List.foldl_append];rfl
theorem Jt {V:List Int}:∀{k:Nat},k≤V.length→(∀j,j<k→IL V j=false)→0≤QA V k
 |0,_,_=>Int.le_refl 0
 |k+1,hk,hj=>by
  have ih:=Jt (V:=V) (k:=k) (by omega) (fun j h=>hj j (by omega))
  have hb:=hj k (by omega)
  have hk':k<V.length:=hk
  simp only[IL,hk',Zn]at hb
  rw[Sg hk']
  exact(Rz hb ih).2.2.2
theorem t9 {r:XRegistration}(h:r.Ok maxLen):ag Ph aM 395 [r.v]=some (aA (FG r)):=by
 have e1:=bX h.1
 unfold FG
 obtain⟨V,hV⟩:∃V,V=[r.active,r.waiting,r.installing]:=⟨_,rfl⟩
 have hR:[[PV.int .i64 r.active],[PV.int .i64 r.waiting],[PV.int .i64 r.installing]]=V.map wD:=by rw[hV];rfl
 have hl:V.length=3:=by rw[hV];rfl
 rw[←hV]
 refine ae (fn:=jO) rfl ?_
 simp(maxSteps:=9999999) [jO]
 rw[hR]
 clear hR hV
 refine aG bm Cl.fin [.f,.t,.f,.t,.f,.f,.f,.f,.f,.f,.f,.f,.t,.t,.t,.f,.f,.f,.f,.f,.f,.f,.f,.f,.f,.f,.f,.f,.f,.f,.f,.f,.f,.f,.f,.f,.f] (fun k=>[(3,aa .i64 (QA V k)),(14,aa .i64 k)]) V.length (IL V) rfl (by simp[QA,hl]) (fun k hk hj=> ?_) (fun _ hp=> ?_)
 ·have hpos:=Jt (Nat.le_of_lt hk) hj
  have hs:=Sg hk
  have hb:IL V k=IK (QA V k) V[k]:=by simp[IL,hk]
  have e3:=bL V[k] 0 1000000000000
  have w:=aR (n:=V.length) (by rw[hl];decide) hk
  have lk:cT (k:Int) 3=true:=jH (by omega)
  have hk3:k<3:=by omega
  rw[hb,hs]
  generalize QA V k=l at hpos⊢
  generalize hv:V[k]=v at e3⊢
  cases b:IK l v
  ·obtain⟨g,z,mx,_⟩:=Rz b hpos
   rw[g]at e3
   cases z0:(v==0)
   ·have z1:=z z0
    have nx:TL l v=v:=if_neg (by simpa using z0)
    simp(maxSteps:=9999999) [dI,hk,hk3,hl,hv,wD,e3,z0,z1,mx,nx,w,lk]
   ·have nx:TL l v=l:=if_pos (by simpa using z0)
    simp(maxSteps:=9999999) [dI,hk,hk3,hl,hv,wD,e3,z0,mx,nx,w,lk]
  ·obtain⟨q1,q2⟩:=T7 b
   cases g:rg v 0 1000000000000<;>rw[g]at e3
   ·simp +contextual (maxSteps:=9999999) [dI,hk,hk3,hl,hv,wD,e3,w,lk]
   ·have q3:=q1 g
    have q4:=q2 g
    simp +contextual (maxSteps:=9999999) [dI,hk,hk3,hl,hv,wD,e3,q3,q4,w,lk]
 ·rw[hl]at hp
  simp(maxSteps:=9999999) [dI,hp,hl,e1,show cT 3 3=false from rfl]
theorem um {r:XRegistration}(h:r.Ok maxLen):ag Ph aM 391 [r.v]=some (aA (FG r)):=by
 have e1:=du h.1
 unfold FG
 obtain⟨V,hV⟩:∃V,V=[r.active,r.waiting,r.installing]:=⟨_,rfl⟩
 have hR:[[PV.int .i64 r.active],[PV.int .i64 r.waiting],[PV.int .i64 r.installing]]=V.map wD:=by rw[hV];rfl
 have hl:V.length=3:=by rw[hV];rfl
 rw[←hV]
 refine ae (fn:=jS) rfl ?_
 simp(maxSteps:=9999999) [jS]
 rw[hR]
 clear hR hV
 refine aG bm Cl.fin [.f,.t,.f,.t,.t,.t,.f,.f,.f,.f,.f,.f,.f,.f,.f,.f,.f,.f,.f,.f,.f,.f,.f,.f,.f,.f,.f,.f,.f,.f,.f,.f,.f,.f,.f,.f,.f,.f,.f,.f,.f,.f,.f,.f,.f,.f,.f,.f,.f,.f,.f,.f] (fun k=>[(3,aa .i64 (QA V k)),(5,aa .i64 k)]) V.length (IL V) rfl (by simp[QA,hl]) (fun k hk hj=> ?_) (fun _ hp=> ?_)
 ·have hpos:=Jt (Nat.le_of_lt hk) hj
  have hs:=Sg hk
  have hb:IL V k=IK (QA V k) V[k]:=by simp[IL,hk]
  have e3:=cq V[k] 0 1000000000000
  have w:=aR (n:=V.length) (by rw[hl];decide) hk
  have lk:cT (k:Int) 3=true:=jH (by omega)
  have hk3:k<3:=by omega
  rw[hb,hs]
  generalize QA V k=l at hpos⊢
  generalize hv:V[k]=v at e3⊢
  cases b:IK l v
  ·obtain⟨g,z,mx,_⟩:=Rz b hpos
   rw[g]at e3
   cases z0:(v==0)
   ·have z1:=z z0
    have nx:TL l v=v:=if_neg (by simpa using z0)
    simp(maxSteps:=9999999) [dK,hk,hk3,hl,hv,wD,e3,z0,z1,mx,nx,w,lk]
   ·have nx:TL l v=l:=if_pos (by simpa using z0)
    simp(maxSteps:=9999999) [dK,hk,hk3,hl,hv,wD,e3,z0,mx,nx,w,lk]
  ·obtain⟨q1,q2⟩:=T7 b
   cases g:rg v 0 1000000000000<;>rw[g]at e3
   ·simp +contextual (maxSteps:=9999999) [dK,hk,hk3,hl,hv,wD,e3,w,lk]
   ·have q3:=q1 g
    have q4:=q2 g
    simp +contextual (maxSteps:=9999999) [dK,hk,hk3,hl,hv,wD,e3,q3,q4,w,lk]
 ·rw[hl]at hp
  simp(maxSteps:=9999999) [dK,hp,hl,e1,show cT 3 3=false from rfl]
def Cd (s t:List UInt8)(x:XCached):Bool:=x.site==s&&x.path==t
theorem lV {c:XCache}(h:c.entries.length≤maxLen)(s t:List UInt8):ag Ph aM 333 [c.v,eB s,eB t]=some (aa .i64 (dR (Cd s t) c.entries)):=by
 have e1:=BC (e:=XCached.e) (p:=Cd s t) (xs:=c.entries) (k:=346) (z:=7) (kc:=347) (caps:=[[.str s],[.str t]]) rfl h (fun _=>rfl) (fun x _=>by
  refine ae (fn:=n6) rfl ?_
  simp +contextual (maxSteps:=9999999) [n6,XCached.e.eq_1,tR,Cd])
 refine ae (fn:=qq) rfl ?_
 simp +contextual (maxSteps:=9999999) [qq,la,qi,e1]
def uH (es:List XCached)(k:Nat):Bool:=match es[k]? with
 |some e=> !(dB e.site)||(!(dB e.path)||(!(qS e.resp)||gD k (ir (Cd e.site e.path) es)))
 |none=>false
def OJ (es:List XCached):Bool:= !(gD es.length (uH es))&& !(cT 12 es.length)
theorem we {α:Type}{p:α→Bool}{xs:List α}{k:Nat}(hk:k<xs.length)(hs:p xs[k]=true):(!(dR p xs==(k:Int)))=gD k (ir p xs):=by
 cases q:gD k (ir p xs)with
 |false=>rw[sI hk (fun j hj=>uQ q hj) hs];simp
 |true=>
  rw[Yb,beq_eq_false_iff_ne]
  intro e
  unfold gD at q
  rw[List.any_eq_true]at q
  obtain⟨j,hj,h⟩:=q
  have hj:=List.mem_range.1 hj
  unfold dR at e
  cases h1:xs.findIdx? p with
  |none=>rw[h1]at e;simp only at e;omega
  |some i=>
   rw[h1]at e
   simp only at e
   obtain rfl:i=k:=by omega
   rw[Yi]at h1
   have h2:j<xs.length:=by omega
   have:=h1.2.2 j hj
   simp only[ir,h2,Zn]at h
   exact this h
def Py (cs:List XCache)(k:Nat):Bool:=match cs[k]?,cs[k-1]? with
 |some x,some y=> !(rg x.version 1 1000000000000)||((cT 0 k&& !(cT y.version x.version))|| !(OJ x.entries))
 |_,_=>false
def Ns (cs:List XCache):Bool:= !(gD cs.length (Py cs))&& !(cT 4 cs.length)
theorem yw {es:List XCached}(hl:es.length≤maxLen)(h:∀e∈es,e.Ok maxLen):ag Ph aM 399 [cA (es.map XCached.e)]=some (aA (OJ es)):=by
 unfold OJ
 refine ae (fn:=nq) rfl ?_
 simp +contextual (maxSteps:=9999999) [nq]
 refine aG bm Cl.fin [.t,.f,.f,.t,.f,.f,.f,.f,.f,.f,.f,.f,.f,.f,.f,.f,.f,.f,.f,.f,.f,.f,.f,.f,.f,.f,.f,.f,.f,.f,.f,.f,.f,.f,.f,.f,.f,.f,.f,.f,.f,.f,.f,.f,.f,.f,.f,.f,.f,.f,.f,.f,.f,.f,.f,.f,.f,.f,.f,.f,.f,.f,.f,.f,.f,.f,.f,.f] (fun k=>[(3,aa .i64 k)]) es.length (uH es) rfl (by simp) (fun k hk _=> ?_) (fun _ hp=> ?_)
 ·have e1:=du (h _ (Zf hk)).1
  have e2:=du (h _ (Zf hk)).2.1
  have e3:=yr es[k].resp
  have hx:=XCached.e.eq_1 es[k]
  have hb:uH es k=(!(dB es[k].site)||(!(dB es[k].path)||(!(qS es[k].resp)||gD k (ir (Cd es[k].site es[k].path) es)))):=by simp[uH,hk]
  rw[hb]
  generalize dB es[k].site=b1 at e1⊢
  generalize dB es[k].path=b2 at e2⊢
  generalize qS es[k].resp=b3 at e3⊢
  cases b1
  ·simp +contextual (maxSteps:=9999999) [dY,hk,hx,e1,bd hk]
  cases b2
  ·simp +contextual (maxSteps:=9999999) [dY,hk,hx,e1,e2,bd hk]
  cases b3
  ·simp +contextual (maxSteps:=9999999) [dY,hk,hx,e1,e2,e3,bd hk]
  cases hD:gD k (ir (Cd es[k].site es[k].path) es)
  ·simp(maxSteps:=9999999) [dY,hk,hx,e1,e2,e3,bd hk]
   refine aG bm Cl.kn [.t,.f,.f,.t,.t,.f,.f,.f,.f,.f,.f,.f,.f,.f,.f,.f,.f,.f,.f,.f,.f,.f,.f,.f,.f,.f,.f,.f,.f,.f,.f,.f,.f,.f,.f,.f,.f,.f,.f,.f,.f,.f,.f,.f,.f,.f,.f,.f,.f,.f,.f,.f,.f,.f,.f,.f,.f,.f,.f,.f,.f,.f,.f,.f,.f,.f,.f,.f] (fun j=>[(4,aa .i64 j)]) k (ir (Cd es[k].site es[k].path) es) rfl (by simp) (fun i hi _=> ?_) (fun _ hq=> ?_)
   ·have hi2:i<es.length:=by omega
    simp +contextual (maxSteps:=9999999) [fy,ir,Cd,hi,hi2,hk,hx,XCached.e.eq_1 es[i],aR hl hi2,bd hi,hD]
   ·simp(maxSteps:=9999999) [fy,aR hl hk]
  ·simp(maxSteps:=9999999) [dY,hk,hx,e1,e2,e3,bd hk]
   refine aG bm (Cl.imp bm Cl.fin rfl) [.t,.f,.f,.t,.t,.f,.f,.f,.f,.f,.f,.f,.f,.f,.f,.f,.f,.f,.f,.f,.f,.f,.f,.f,.f,.f,.f,.f,.f,.f,.f,.f,.f,.f,.f,.f,.f,.f,.f,.f,.f,.f,.f,.f,.f,.f,.f,.f,.f,.f,.f,.f,.f,.f,.f,.f,.f,.f,.f,.f,.f,.f,.f,.f,.f,.f,.f,.f] (fun j=>[(4,aa .i64 j)]) k (ir (Cd es[k].site es[k].path) es) rfl (by simp) (fun i hi _=> ?_) (fun _ hq=> ?_)
   ·have hi2:i<es.length:=by omega
    simp +contextual (maxSteps:=9999999) [fy,ir,Cd,hi,hi2,hk,hx,XCached.e.eq_1 es[i],aR hl hi2,bd hi,hD]
   ·rw[hD]at hq;cases hq
 ·simp(maxSteps:=9999999) [dY,hp]
theorem yn {s:XCacheSet}(h:s.Ok maxLen):ag Ph aM 392 [s.v]=some (aA (Ns s.caches)):=by
 obtain⟨h1,h2⟩:=h
 have e2:=fun v=>cq v 1 1000000000000
 unfold Ns
 refine ae (fn:=nh) rfl ?_
 simp +contextual (maxSteps:=9999999) [nh]
 refine aG bm Cl.fin [.f,.t,.f,.t,.f,.f,.f,.f,.f,.f,.f,.f,.f,.f,.f,.f,.f,.f,.f,.f,.f,.f,.f,.f,.f,.f,.f,.f,.f,.f,.f,.f,.f,.f,.f,.f,.f,.f,.f,.f,.f,.f,.f,.f,.f,.f,.f,.f,.f,.f,.f,.f,.f] (fun k=>[(3,aa .i64 k)]) s.caches.length (Py s.caches) rfl (by simp) (fun k hk _=> ?_) (fun _ hp=> ?_)
 ·obtain⟨q1,q2⟩:=wQ h1 hk
  have hc:=h2 _ (Zf hk)
  have e3:=yw hc.2.1 hc.2.2
  simp +contextual (maxSteps:=9999999) [iH,Py,hk,q1,q2,e2,e3,aR h1 hk,bd hk,XCache.e.eq_1 s.caches[k],XCache.e.eq_1 s.caches[k-1]]
 ·simp(maxSteps:=9999999) [iH,hp]
theorem xW {s:XCacheSet}(h:s.Ok maxLen):ag Ph aM 396 [s.v]=some (aA (Ns s.caches)):=by
 obtain⟨h1,h2⟩:=h
 unfold Ns
 refine ae (fn:=mY) rfl ?_
 simp +contextual (maxSteps:=9999999) [mY]
 refine aG bm Cl.fin [.f,.t,.f,.f,.f,.f,.f,.f,.t,.t,.t,.f,.f,.f,.f,.f,.f,.f,.f,.f,.f,.f,.f,.f,.f,.f,.f,.f,.f,.f,.f,.f,.f,.f,.f,.f,.f,.f,.f,.f,.f,.f,.f,.f,.f,.f,.f,.f,.f,.f,.f,.f,.f,.f,.f,.f,.f,.f,.f,.f,.f,.f,.f,.f,.f,.f,.f,.f,.f,.f,.f,.f,.f,.f,.f,.f,.f,.f,.f,.f,.f] (fun k=>[(10,aa .i64 k)]) s.caches.length (Py s.caches) rfl (by simp) (fun k hk _=> ?_) (fun _ hp=> ?_)
 ·obtain⟨q1,q2⟩:=wQ h1 hk
  have hc:=h2 _ (Zf hk)
  have e2:=bL s.caches[k].version 1 1000000000000
  have hx:=XCache.e.eq_1 s.caches[k]
  have hy:=XCache.e.eq_1 s.caches[k-1]
  have hb:Py s.caches k=(!(rg s.caches[k].version 1 1000000000000)||((cT 0 k&& !(cT s.caches[k-1].version s.caches[k].version))||(cT 12 s.caches[k].entries.length||gD s.caches[k].entries.length (uH s.caches[k].entries)))):=by
   simp only[Py,hk,q2,Zn,OJ,Bool.not_and,Bool.not_not]
   rw[Bool.or_comm (cT 12 _)]
  rw[hb]
  generalize rg s.caches[k].version 1 1000000000000=b1 at e2⊢
  cases b1
  ·simp +contextual (maxSteps:=9999999) [dx,hk,hx,e2,bd hk]
  cases c2:cT 0 k&& !(cT s.caches[k-1].version s.caches[k].version)
  rotate_left
  ·rw[Zh]at c2
   have c3:=q1 c2.1
   have c4:cT s.caches[k-1].version s.caches[k].version=false:=by simpa using c2.2
   simp +contextual (maxSteps:=9999999) [dx,hk,q2,hx,hy,e2,c2.1,c3,c4,bd hk]
  have c3:cT 0 k=true→cT s.caches[k-1].version s.caches[k].version=true:=fun q=>by simpa[q]using c2
  cases c4:cT 12 s.caches[k].entries.length
  rotate_left
  ·simp +contextual (maxSteps:=9999999) [dx,hk,q1,q2,hx,hy,e2,c3,c4,bd hk]
  cases hD:gD s.caches[k].entries.length (uH s.caches[k].entries)
  ·cases c5:cT 0 k
   ·simp(maxSteps:=9999999) [dx,hk,hx,e2,c5,c4,bd hk]
    refine aG bm Cl.kn [.f,.t,.f,.f,.t,.f,.f,.f,.t,.t,.t,.f,.f,.f,.f,.f,.f,.f,.f,.f,.f,.f,.f,.f,.f,.f,.f,.f,.f,.f,.f,.f,.f,.f,.f,.f,.f,.f,.f,.f,.f,.f,.t,.t,.t,.f,.f,.f,.f,.f,.f,.f,.f,.f,.f,.f,.f,.f,.f,.f,.f,.f,.f,.f,.f,.f,.f,.f,.f,.f,.f,.f,.f,.f,.f,.f,.f,.f,.f,.f,.f] (fun j=>[(44,aa .i64 j)]) s.caches[k].entries.length (uH s.caches[k].entries) rfl (by simp) (fun j hj _=> ?_) (fun _ hq=> ?_)
    ·have he:=hc.2.2 _ (Zf hj)
     have e4:=bX he.1
     have e5:=bX he.2.1
     have e6:=jB s.caches[k].entries[j].resp
     have e7:=lV (c:=s.caches[k]) hc.2.1 s.caches[k].entries[j].site s.caches[k].entries[j].path
     have hs:=we (p:=Cd s.caches[k].entries[j].site s.caches[k].entries[j].path) hj (by simp[Cd])
     have hz:=XCached.e.eq_1 s.caches[k].entries[j]
     have hbE:uH s.caches[k].entries j=(!(dB s.caches[k].entries[j].site)||(!(dB s.caches[k].entries[j].path)||(!(qS s.caches[k].entries[j].resp)||gD j (ir (Cd s.caches[k].entries[j].site s.caches[k].entries[j].path) s.caches[k].entries)))):=by simp[uH,hj]
     rw[hbE,←hs]
     generalize dR (Cd s.caches[k].entries[j].site s.caches[k].entries[j].path) s.caches[k].entries=F at e7⊢
     obtain⟨g,hg⟩:∃g,(F==(j:Int))=g:=⟨_,rfl⟩
     rw[hg]
     simp +contextual (maxSteps:=9999999) [dH,hj,hz,e4,e5,e6,e7,hg,aR hc.2.1 hj,bd hj,hD]
    ·simp(maxSteps:=9999999) [dH,aR h1 hk]
   ·have c6:=q1 c5
    have c7:=c3 c5
    simp(maxSteps:=9999999) [dx,hk,q2,hx,hy,e2,c5,c6,c7,c4,bd hk]
    refine aG bm Cl.kn [.f,.t,.f,.f,.t,.f,.f,.f,.t,.t,.t,.f,.f,.f,.f,.f,.f,.f,.f,.f,.f,.f,.f,.f,.f,.f,.f,.f,.f,.f,.f,.f,.f,.f,.f,.f,.f,.f,.f,.f,.f,.f,.t,.t,.t,.f,.f,.f,.f,.f,.f,.f,.f,.f,.f,.f,.f,.f,.f,.f,.f,.f,.f,.f,.f,.f,.f,.f,.f,.f,.f,.f,.f,.f,.f,.f,.f,.f,.f,.f,.f] (fun j=>[(44,aa .i64 j)]) s.caches[k].entries.length (uH s.caches[k].entries) rfl (by simp) (fun j hj _=> ?_) (fun _ hq=> ?_)
    ·have he:=hc.2.2 _ (Zf hj)
     have e4:=bX he.1
     have e5:=bX he.2.1
     have e6:=jB s.caches[k].entries[j].resp
     have e7:=lV (c:=s.caches[k]) hc.2.1 s.caches[k].entries[j].site s.caches[k].entries[j].path
     have hs:=we (p:=Cd s.caches[k].entries[j].site s.caches[k].entries[j].path) hj (by simp[Cd])
     have hz:=XCached.e.eq_1 s.caches[k].entries[j]
     have hbE:uH s.caches[k].entries j=(!(dB s.caches[k].entries[j].site)||(!(dB s.caches[k].entries[j].path)||(!(qS s.caches[k].entries[j].resp)||gD j (ir (Cd s.caches[k].entries[j].site s.caches[k].entries[j].path) s.caches[k].entries)))):=by simp[uH,hj]
     rw[hbE,←hs]
     generalize dR (Cd s.caches[k].entries[j].site s.caches[k].entries[j].path) s.caches[k].entries=F at e7⊢
     obtain⟨g,hg⟩:∃g,(F==(j:Int))=g:=⟨_,rfl⟩
     rw[hg]
     simp +contextual (maxSteps:=9999999) [dH,hj,hz,e4,e5,e6,e7,hg,aR hc.2.1 hj,bd hj,hD]
    ·simp(maxSteps:=9999999) [dH,aR h1 hk]
  ·cases c5:cT 0 k
   ·simp(maxSteps:=9999999) [dx,hk,hx,e2,c5,c4,bd hk]
    refine aG bm (Cl.imp bm Cl.fin rfl) [.f,.t,.f,.f,.t,.f,.f,.f,.t,.t,.t,.f,.f,.f,.f,.f,.f,.f,.f,.f,.f,.f,.f,.f,.f,.f,.f,.f,.f,.f,.f,.f,.f,.f,.f,.f,.f,.f,.f,.f,.f,.f,.t,.t,.t,.f,.f,.f,.f,.f,.f,.f,.f,.f,.f,.f,.f,.f,.f,.f,.f,.f,.f,.f,.f,.f,.f,.f,.f,.f,.f,.f,.f,.f,.f,.f,.f,.f,.f,.f,.f] (fun j=>[(44,aa .i64 j)]) s.caches[k].entries.length (uH s.caches[k].entries) rfl (by simp) (fun j hj _=> ?_) (fun _ hq=> ?_)
    ·have he:=hc.2.2 _ (Zf hj)
     have e4:=bX he.1
     have e5:=bX he.2.1
     have e6:=jB s.caches[k].entries[j].resp
     have e7:=lV (c:=s.caches[k]) hc.2.1 s.caches[k].entries[j].site s.caches[k].entries[j].path
     have hs:=we (p:=Cd s.caches[k].entries[j].site s.caches[k].entries[j].path) hj (by simp[Cd])
     have hz:=XCached.e.eq_1 s.caches[k].entries[j]
     have hbE:uH s.caches[k].entries j=(!(dB s.caches[k].entries[j].site)||(!(dB s.caches[k].entries[j].path)||(!(qS s.caches[k].entries[j].resp)||gD j (ir (Cd s.caches[k].entries[j].site s.caches[k].entries[j].path) s.caches[k].entries)))):=by simp[uH,hj]
     rw[hbE,←hs]
     generalize dR (Cd s.caches[k].entries[j].site s.caches[k].entries[j].path) s.caches[k].entries=F at e7⊢
     obtain⟨g,hg⟩:∃g,(F==(j:Int))=g:=⟨_,rfl⟩
     rw[hg]
     simp +contextual (maxSteps:=9999999) [dH,hj,hz,e4,e5,e6,e7,hg,aR hc.2.1 hj,bd hj,hD]
    ·rw[hD]at hq;cases hq
   ·have c6:=q1 c5
    have c7:=c3 c5
    simp(maxSteps:=9999999) [dx,hk,q2,hx,hy,e2,c5,c6,c7,c4,bd hk]
    refine aG bm (Cl.imp bm Cl.fin rfl) [.f,.t,.f,.f,.t,.f,.f,.f,.t,.t,.t,.f,.f,.f,.f,.f,.f,.f,.f,.f,.f,.f,.f,.f,.f,.f,.f,.f,.f,.f,.f,.f,.f,.f,.f,.f,.f,.f,.f,.f,.f,.f,.t,.t,.t,.f,.f,.f,.f,.f,.f,.f,.f,.f,.f,.f,.f,.f,.f,.f,.f,.f,.f,.f,.f,.f,.f,.f,.f,.f,.f,.f,.f,.f,.f,.f,.f,.f,.f,.f,.f] (fun j=>[(44,aa .i64 j)]) s.caches[k].entries.length (uH s.caches[k].entries) rfl (by simp) (fun j hj _=> ?_) (fun _ hq=> ?_)
    ·have he:=hc.2.2 _ (Zf hj)
     have e4:=bX he.1
     have e5:=bX he.2.1
     have e6:=jB s.caches[k].entries[j].resp
     have e7:=lV (c:=s.caches[k]) hc.2.1 s.caches[k].entries[j].site s.caches[k].entries[j].path
     have hs:=we (p:=Cd s.caches[k].entries[j].site s.caches[k].entries[j].path) hj (by simp[Cd])
     have hz:=XCached.e.eq_1 s.caches[k].entries[j]
     have hbE:uH s.caches[k].entries j=(!(dB s.caches[k].entries[j].site)||(!(dB s.caches[k].entries[j].path)||(!(qS s.caches[k].entries[j].resp)||gD j (ir (Cd s.caches[k].entries[j].site s.caches[k].entries[j].path) s.caches[k].entries)))):=by simp[uH,hj]
     rw[hbE,←hs]
     generalize dR (Cd s.caches[k].entries[j].site s.caches[k].entries[j].path) s.caches[k].entries=F at e7⊢
     obtain⟨g,hg⟩:∃g,(F==(j:Int))=g:=⟨_,rfl⟩
     rw[hg]
     simp +contextual (maxSteps:=9999999) [dH,hj,hz,e4,e5,e6,e7,hg,aR hc.2.1 hj,bd hj,hD]
    ·rw[hD]at hq;cases hq
 ·simp(maxSteps:=9999999) [dx,hp]
end Gi
