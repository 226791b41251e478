/- Of this proof. -/
import Derived.Test.YtgmnakghjemjlaaGreatGky
import Derived.Test.YtgmnakghjemjlaaGreatGkd
import Derived.Test.YtgmnakghjemjlaaGreatGkr
set_option linter.unusedSimpArgs false
set_option linter.unusedVariables false
namespace Gi
open Go Go.RowKit
set_option maxHeartbeats 8000000
set_option maxRecDepth 4000
attribute [local simp] bu sQ bg bX ep fZ ej fY f8 f7 uP uY uQ uZ uR u0 uS vd uT ve uU vf uV vg uW vh uX vi V.cells plain bn f9 isInt isStr isBool bin cW jN cX jO f4 un asList L.view ap V.view viewL aS av da cf bP comp aK bt dz ct bI bG bH bO bj cz aX bK aQ aY bM cB bL bJ bN V.flat L.flat dL du bA putAt thaw thawL thawT V.ow f6 ew ez cY f5 cZ eu freezeVs freezeLs freezeL V.mut L.mut aJ fq i7 aM be aE dq bE bi bS L.ren aU dM cj dQ bT bC wp_seq wp_block bF eB db cg dd wp_skip wp_exit wp_ret cN cM cS cO dj dk di cq aW L.notArr aP aN aO eA bo storeD bc fR br cE bf nE L.mov L.closed V.closed PV.bare PV.flat
theorem mD {α:Type}{f:α→Nat}{c:Nat}:∀{xs:List α},(∀x∈xs,f x≤c)→hI f xs≤c*xs.length
 |[],_=>by simp[hI]
 |x::xs,h=>by
  have h1:=mD (xs:=xs) (fun y hy=>h y (by simp[hy]))
  have h2:=h x (by simp)
  simp only[hI,List.map_cons,List.sum_cons,List.length_cons,Nat.mul_add]at*
  omega
def qJ (d:XDatabase):Nat:=hI kK d.stores
theorem wG {d:XDatabase}(h:d.Ok 1048576):qJ d≤115343360*1048576:=Nat.le_trans (mD (c:=115343360) fun s hs=>Nat.le_trans (pF lE _) (by have:=(h.2.2.1.2 s hs).2.1.1;omega)) (Nat.mul_le_mul_left _ h.2.2.1.1)
theorem ro {d:XDatabase}(h:d.Ok 1048576):ag Ph aG 224 [d.v]=some (aa .i64 (qJ d:Nat)):=by
 refine ae (fn:=jD) rfl ?_
 simp +contextual (maxSteps:=9999999) [jD]
 refine aB aR Cl.fin [.f,.f,.f,.t,.f,.f,.f,.t,.t,.t,.f,.f,.f,.f,.f,.f,.f,.f,.f] (fun k=>[(3,aa .i64 (hI kK (d.stores.take k):Nat)),(9,aa .i64 k)]) d.stores.length (fun _=>false) rfl (by simp[hI]) (fun k hk _=> ?_) (fun _ _=> ?_)
 ·have hx:=XStore.e.eq_1 d.stores[k]
  have hi:=h.2.2.1.2 _ (List.getElem_mem hk)
  have e1:=o6 hi
  have l1:kK d.stores[k]≤115343360:=Nat.le_trans (pF lE _) (by have:=hi.2.1.1;omega)
  have l3:=mD (f:=kK) (c:=115343360) (xs:=d.stores.take k) (fun s hs=>Nat.le_trans (pF lE _) (by have:=(h.2.2.1.2 s (List.mem_of_mem_take hs)).2.1.1;omega))
  have l4:(d.stores.take k).length≤1048576:=by rw[List.length_take];have:=h.2.2.1.1;omega
  rw[mH hk]
  generalize hI kK (d.stores.take k)=A at l3⊢
  generalize kK d.stores[k]=a at l1 e1⊢
  have w1:IntKind.i64.wrap ((A:Int)+(a:Int))=(A:Int)+(a:Int):=by rw[IntKind.wrap_i64];omega
  simp(maxSteps:=9999999) [fV,hk,hx,e1,w1,aF (n:=d.stores.length) (by have:=h.2.2.1.1;unfold maxLen;omega) hk,aV hk]
 ·rw[List.take_length]
  simp(maxSteps:=9999999) [fV,qJ]
theorem ym {x:XDisk}(h:x.Ok 1048576):ag Ph aG 196 [x.v]=some (aa .i64 (qJ x.base+x.log.length:Nat)):=by
 have e1:=ro h.1
 have l1:=wG h.1
 have l2:=h.2.1
 generalize qJ x.base=A at e1 l1⊢
 have w1:IntKind.i64.wrap ((A:Int)+(x.log.length:Int))=(A:Int)+(x.log.length:Int):=by rw[IntKind.wrap_i64];omega
 refine ae (fn:=mQ) rfl ?_
 simp +contextual (maxSteps:=9999999) [mQ,e1,w1,bp]
theorem r8 {d:XDatabase}(h:d.Ok 1048576):ag Ph aG 220 [d.v]=some (aa .i64 (qJ d:Nat)):=by
 refine ae (fn:=jI) rfl ?_
 simp +contextual (maxSteps:=9999999) [jI]
 refine aB aR Cl.fin [.f,.t,.f,.t,.t,.f,.f,.f,.f,.f,.f,.f,.f,.f,.f,.f,.f,.f,.f,.f,.f] (fun k=>[(3,aa .i64 (hI kK (d.stores.take k):Nat)),(4,aa .i64 k)]) d.stores.length (fun _=>false) rfl (by simp[hI]) (fun k hk _=> ?_) (fun _ _=> ?_)
 ·have hx:=XStore.e.eq_1 d.stores[k]
  have hi:=h.2.2.1.2 _ (List.getElem_mem hk)
  have e1:=pa hi
  have l1:kK d.stores[k]≤115343360:=Nat.le_trans (pF lE _) (by have:=hi.2.1.1;omega)
  have l3:=mD (f:=kK) (c:=115343360) (xs:=d.stores.take k) (fun s hs=>Nat.le_trans (pF lE _) (by have:=(h.2.2.1.2 s (List.mem_of_mem_take hs)).2.1.1;omega))
  have l4:(d.stores.take k).length≤1048576:=by rw[List.length_take];have:=h.2.2.1.1;omega
  rw[mH hk]
  generalize hI kK (d.stores.take k)=A at l3⊢
  generalize kK d.stores[k]=a at l1 e1⊢
  have w1:IntKind.i64.wrap ((A:Int)+(a:Int))=(A:Int)+(a:Int):=by rw[IntKind.wrap_i64];omega
  simp(maxSteps:=9999999) [fX,hk,hx,e1,w1,aF (n:=d.stores.length) (by have:=h.2.2.1.1;unfold maxLen;omega) hk,aV hk]
 ·rw[List.take_length]
  simp(maxSteps:=9999999) [fX,qJ]
theorem yK {x:XDisk}(h:x.Ok 1048576):ag Ph aG 193 [x.v]=some (aa .i64 (qJ x.base+x.log.length:Nat)):=by
 have e1:=r8 h.1
 have l1:=wG h.1
 have l2:=h.2.1
 generalize qJ x.base=A at e1 l1⊢
 have w1:IntKind.i64.wrap ((A:Int)+(x.log.length:Int))=(A:Int)+(x.log.length:Int):=by rw[IntKind.wrap_i64];omega
 refine ae (fn:=m4) rfl ?_
 simp +contextual (maxSteps:=9999999) [m4,e1,w1,bp]
def zx (b:Bool)(x:XResponse):Nat:=cond b 76 (16+x.body.length)
def pZ (e:XCached):Nat:=zx (e.resp.type==3) e.resp
theorem rX {e:XCached}(h:e.Ok 1048576):pZ e≤1048592:=by
 have:=h.2.2.2.2.2
 unfold pZ zx
 cases(e.resp.type==3)<;>simp only[cond_true,cond_false]<;>omega
def tG (c:XCache):Nat:=hI pZ c.entries
theorem CU {c:XCache}(h:c.Ok 1048576):tG c≤1048592*1048576:=Nat.le_trans (mD fun e he=>rX (h.2.2 e he)) (Nat.mul_le_mul_left _ h.2.1)
def zw (s:XCacheSet):Nat:=hI tG s.caches
theorem uo {x:XResponse}(h:x.body.length≤1048576)(b:Bool):ag Ph aG 223 [x.v,au b]=some (aa .i64 (zx b x:Nat)):=by
 have w1:IntKind.i64.wrap (16+(x.body.length:Int))=16+(x.body.length:Int):=by rw[IntKind.wrap_i64];omega
 refine ae (fn:=kZ) rfl ?_
 cases b<;>simp(maxSteps:=9999999) [kZ,zx,w1,bp]
theorem um {s:XCacheSet}(h:s.Ok 1048576):ag Ph aG 195 [s.v]=some (aa .i64 (zw s:Nat)):=by
 refine ae (fn:=kY) rfl ?_
 simp +contextual (maxSteps:=9999999) [kY]
 refine aB aR Cl.fin [.f,.f,.f,.t,.f,.f,.f,.f,.f,.t,.t,.t,.f,.f,.f,.f,.f,.f,.f,.f,.f,.f,.f,.f,.f,.f,.f,.f,.f,.f,.f,.f,.f,.f] (fun k=>[(3,aa .i64 (hI tG (s.caches.take k):Nat)),(11,aa .i64 k)]) s.caches.length (fun _=>false) rfl (by simp[hI]) (fun k hk _=> ?_) (fun _ _=> ?_)
 ·have hx:=XCache.e.eq_1 s.caches[k]
  have hc:=h.2 _ (List.getElem_mem hk)
  have wk:=aF (n:=s.caches.length) (by have:=h.1;unfold maxLen;omega) hk
  have l4:=mD (f:=tG) (c:=1048592*1048576) (xs:=s.caches.take k) (fun c hm=>CU (h.2 c (List.mem_of_mem_take hm)))
  have l5:(s.caches.take k).length≤1048576:=by rw[List.length_take];have:=h.1;omega
  rw[mH hk]
  generalize hI tG (s.caches.take k)=A at l4⊢
  simp(maxSteps:=9999999) [gD,hk,hx,aV hk]
  refine aB aR Cl.kn [.f,.f,.f,.t,.f,.f,.f,.f,.f,.t,.t,.t,.f,.f,.f,.f,.t,.t,.t,.f,.f,.f,.f,.f,.f,.f,.f,.f,.f,.f,.f,.f,.f,.f] (fun j=>[(3,aa .i64 (A+hI pZ (s.caches[k].entries.take j):Nat)),(18,aa .i64 j)]) s.caches[k].entries.length (fun _=>false) rfl (by simp[hI]) (fun j hj _=> ?_) (fun _ _=> ?_)
  ·have hy:=XCached.e.eq_1 s.caches[k].entries[j]
   have he:=hc.2.2 _ (List.getElem_mem hj)
   have e1:=fun b=>uo (x:=s.caches[k].entries[j].resp) he.2.2.2.2.2 b
   have wj:=aF (n:=s.caches[k].entries.length) (by have:=hc.2.1;unfold maxLen;omega) hj
   have l1:=rX he
   have l2:=mD (f:=pZ) (c:=1048592) (xs:=s.caches[k].entries.take j) (fun c hm=>rX (hc.2.2 c (List.mem_of_mem_take hm)))
   have l3:(s.caches[k].entries.take j).length≤1048576:=by rw[List.length_take];have:=hc.2.1;omega
   have hs:zx (s.caches[k].entries[j].resp.type==3) s.caches[k].entries[j].resp=pZ s.caches[k].entries[j]:=rfl
   have e2:=e1 (s.caches[k].entries[j].resp.type==3)
   rw[hs]at e2
   rw[mH hj]
   generalize hI pZ (s.caches[k].entries.take j)=D at l2⊢
   generalize pZ s.caches[k].entries[j]=a at l1 e2⊢
   have w1:IntKind.i64.wrap ((A:Int)+(D:Int)+(a:Int))=(A:Int)+((D:Int)+(a:Int)):=by rw[IntKind.wrap_i64];omega
   simp(maxSteps:=9999999) [fG,hk,hj,hx,hy,e2,w1,wj,aV hj]
  ·rw[List.take_length]
   simp(maxSteps:=9999999) [fG,hk,hx,wk,tG]
 ·rw[List.take_length]
  simp(maxSteps:=9999999) [gD,zw]
theorem uK {x:XResponse}(h:x.body.length≤1048576)(b:Bool):ag Ph aG 219 [x.v,au b]=some (aa .i64 (zx b x:Nat)):=by
 have w1:IntKind.i64.wrap (16+(x.body.length:Int))=16+(x.body.length:Int):=by rw[IntKind.wrap_i64];omega
 refine ae (fn:=lm) rfl ?_
 cases b<;>simp(maxSteps:=9999999) [lm,zx,w1,bp]
theorem uJ {s:XCacheSet}(h:s.Ok 1048576):ag Ph aG 192 [s.v]=some (aa .i64 (zw s:Nat)):=by
 refine ae (fn:=li) rfl ?_
 simp +contextual (maxSteps:=9999999) [li]
 refine aB aR Cl.fin [.f,.t,.f,.t,.t,.f,.f,.f,.f,.f,.f,.f,.f,.f,.f,.f,.f,.f,.f,.f,.f,.f,.f,.f,.f,.f,.f,.f,.f,.f,.f,.f,.f,.f,.f,.f,.f,.f,.f,.f,.f,.f,.f] (fun k=>[(3,aa .i64 (hI tG (s.caches.take k):Nat)),(4,aa .i64 k)]) s.caches.length (fun _=>false) rfl (by simp[hI]) (fun k hk _=> ?_) (fun _ _=> ?_)
 ·have hx:=XCache.e.eq_1 s.caches[k]
  have hc:=h.2 _ (List.getElem_mem hk)
  have wk:=aF (n:=s.caches.length) (by have:=h.1;unfold maxLen;omega) hk
  have l4:=mD (f:=tG) (c:=1048592*1048576) (xs:=s.caches.take k) (fun c hm=>CU (h.2 c (List.mem_of_mem_take hm)))
  have l5:(s.caches.take k).length≤1048576:=by rw[List.length_take];have:=h.1;omega
  rw[mH hk]
  generalize hI tG (s.caches.take k)=A at l4⊢
  simp(maxSteps:=9999999) [gH,hk,hx,aV hk]
  refine aB aR Cl.kn [.f,.t,.f,.t,.t,.t,.f,.f,.f,.f,.f,.f,.f,.f,.f,.f,.f,.f,.f,.f,.f,.f,.f,.f,.f,.f,.f,.f,.f,.f,.f,.f,.f,.f,.f,.f,.f,.f,.f,.f,.f,.f,.f] (fun j=>[(3,aa .i64 (A+hI pZ (s.caches[k].entries.take j):Nat)),(5,aa .i64 j)]) s.caches[k].entries.length (fun _=>false) rfl (by simp[hI]) (fun j hj _=> ?_) (fun _ _=> ?_)
  ·have hy:=XCached.e.eq_1 s.caches[k].entries[j]
   have he:=hc.2.2 _ (List.getElem_mem hj)
   have e1:=fun b=>uK (x:=s.caches[k].entries[j].resp) he.2.2.2.2.2 b
   have wj:=aF (n:=s.caches[k].entries.length) (by have:=hc.2.1;unfold maxLen;omega) hj
   have l1:=rX he
   have l2:=mD (f:=pZ) (c:=1048592) (xs:=s.caches[k].entries.take j) (fun c hm=>rX (hc.2.2 c (List.mem_of_mem_take hm)))
   have l3:(s.caches[k].entries.take j).length≤1048576:=by rw[List.length_take];have:=hc.2.1;omega
   have hs:zx (s.caches[k].entries[j].resp.type==3) s.caches[k].entries[j].resp=pZ s.caches[k].entries[j]:=rfl
   have e2:=e1 (s.caches[k].entries[j].resp.type==3)
   rw[hs]at e2
   rw[mH hj]
   generalize hI pZ (s.caches[k].entries.take j)=D at l2⊢
   generalize pZ s.caches[k].entries[j]=a at l1 e2⊢
   have w1:IntKind.i64.wrap ((A:Int)+(D:Int)+(a:Int))=(A:Int)+((D:Int)+(a:Int)):=by rw[IntKind.wrap_i64];omega
   simp(maxSteps:=9999999) [fH,hk,hj,hx,hy,e2,w1,wj,aV hj]
  ·rw[List.take_length]
   simp(maxSteps:=9999999) [fH,hk,hx,wk,tG]
 ·rw[List.take_length]
  simp(maxSteps:=9999999) [gH,zw]
theorem If {s:XCacheSet}(h:s.Ok 1048576):zw s≤1048592*1048576*1048576:=Nat.le_trans (mD fun c hm=>CU (h.2 c hm)) (Nat.mul_le_mul_left _ h.1)
def IM (x:XBucket):Nat:=zw x.caches+(qJ x.disk.base+x.disk.log.length)+kK x.replica.base+40*x.replica.sync.outbox.writes.length
theorem Av {x:XBucket}(h:x.Ok 1048576):ag Ph aG 162 [x.v]=some (aa .i64 (IM x:Nat)):=by
 obtain⟨_,_,_,hc,hd,hr,_⟩:=h
 have e1:=um hc
 have e2:=ym hd
 have e3:=o6 hr.1
 have l1:=If hc
 have l2:=wG hd.1
 have l3:kK x.replica.base≤115343360:=Nat.le_trans (pF lE _) (by have:=hr.1.2.1.1;omega)
 have l4:=hd.2.1
 have l5:x.replica.sync.outbox.writes.length≤1048576:=hr.2.2.1.2.2.1
 unfold IM
 generalize zw x.caches=A at e1 l1⊢
 generalize qJ x.disk.base=B at e2 l2⊢
 generalize kK x.replica.base=C at e3 l3⊢
 have w1:IntKind.i64.wrap ((A:Int)+((B:Int)+(x.disk.log.length:Int)))=(A:Int)+((B:Int)+(x.disk.log.length:Int)):=by rw[IntKind.wrap_i64];omega
 have w2:IntKind.i64.wrap ((A:Int)+((B:Int)+(x.disk.log.length:Int))+(C:Int))=(A:Int)+((B:Int)+(x.disk.log.length:Int))+(C:Int):=by rw[IntKind.wrap_i64];omega
 have w3:IntKind.i64.wrap (40*(x.replica.sync.outbox.writes.length:Int))=40*(x.replica.sync.outbox.writes.length:Int):=by rw[IntKind.wrap_i64];omega
 have w4:IntKind.i64.wrap ((A:Int)+((B:Int)+(x.disk.log.length:Int))+(C:Int)+40*(x.replica.sync.outbox.writes.length:Int))=(A:Int)+((B:Int)+(x.disk.log.length:Int))+(C:Int)+40*(x.replica.sync.outbox.writes.length:Int):=by rw[IntKind.wrap_i64];omega
 refine ae (fn:=nM) rfl ?_
 simp +contextual (maxSteps:=9999999) [nM,e1,e2,e3,w1,w2,w3,w4]
theorem AC {x:XBucket}(h:x.Ok 1048576):ag Ph aG 161 [x.v]=some (aa .i64 (IM x:Nat)):=by
 obtain⟨_,_,_,hc,hd,hr,_⟩:=h
 have e1:=uJ hc
 have e2:=yK hd
 have e3:=pa hr.1
 have l1:=If hc
 have l2:=wG hd.1
 have l3:kK x.replica.base≤115343360:=Nat.le_trans (pF lE _) (by have:=hr.1.2.1.1;omega)
 have l4:=hd.2.1
 have l5:x.replica.sync.outbox.writes.length≤1048576:=hr.2.2.1.2.2.1
 unfold IM
 generalize zw x.caches=A at e1 l1⊢
 generalize qJ x.disk.base=B at e2 l2⊢
 generalize kK x.replica.base=C at e3 l3⊢
 have w1:IntKind.i64.wrap ((A:Int)+((B:Int)+(x.disk.log.length:Int)))=(A:Int)+((B:Int)+(x.disk.log.length:Int)):=by rw[IntKind.wrap_i64];omega
 have w2:IntKind.i64.wrap ((A:Int)+((B:Int)+(x.disk.log.length:Int))+(C:Int))=(A:Int)+((B:Int)+(x.disk.log.length:Int))+(C:Int):=by rw[IntKind.wrap_i64];omega
 have w3:IntKind.i64.wrap (40*(x.replica.sync.outbox.writes.length:Int))=40*(x.replica.sync.outbox.writes.length:Int):=by rw[IntKind.wrap_i64];omega
 have w4:IntKind.i64.wrap ((A:Int)+((B:Int)+(x.disk.log.length:Int))+(C:Int)+40*(x.replica.sync.outbox.writes.length:Int))=(A:Int)+((B:Int)+(x.disk.log.length:Int))+(C:Int)+40*(x.replica.sync.outbox.writes.length:Int):=by rw[IntKind.wrap_i64];omega
 refine ae (fn:=nR) rfl ?_
 simp +contextual (maxSteps:=9999999) [nR,e1,e2,e3,w1,w2,w3,w4]
abbrev qt (s:List UInt8):Bool:=pD s 30 true
theorem uk {s:List UInt8}(h:s.length≤maxLen):ag Ph aG 389 [dS s]=some (au (qt s)):=by
 refine ae (fn:=kV) rfl ?_
 simp(maxSteps:=9999999) [kV,rz h]
theorem uH {s:List UInt8}(h:s.length≤maxLen):ag Ph aG 386 [dS s]=some (au (qt s)):=by
 refine ae (fn:=lg) rfl ?_
 simp +contextual (maxSteps:=9999999) [lg]
 refine aB aR Cl.fin [.t,.f,.f,.t,.f,.f,.f,.f,.f,.f,.f,.f,.f,.f,.f,.f,.f,.f,.f,.f,.f,.f,.f,.f,.f,.f,.f,.f,.f] (fun k=>[(3,aa .i64 k)]) s.length (I1 true s) rfl (by simp) (fun k hk _=> ?_) (fun _ hp=> ?_)
 ·simp +contextual (maxSteps:=9999999) [gG,I1,qt,pD,hk,aF h hk,aV hk]
 ·simp +contextual (maxSteps:=9999999) [gG,qt,pD,hp,bq]
def ov (x:XResponse):Bool:=rg x.type 1 4&&(rg x.status 0 999&&(rg x.version 0 1000000000000&& !(dK 60 x.body.length)))
theorem it (x:XResponse):ag Ph aG 403 [x.v]=some (au (ov x)):=by
 refine ae (fn:=kW) rfl ?_
 simp +contextual (maxSteps:=9999999) [kW,aZ,ov,bp]
theorem uI (x:XResponse):ag Ph aG 408 [x.v]=some (au (ov x)):=by
 refine ae (fn:=lh) rfl ?_
 simp +contextual (maxSteps:=9999999) [lh,bq,ov,bp]
def HM (x:XWrite):Bool:=rg x.dev 1 1000000&&(rg x.seq 1 1000000&&(pT x.key&&(cy x.field&&rg x.n 0 1000000000)))
theorem lK {x:XWrite}(h:x.Ok maxLen):ag Ph aG 390 [x.v]=some (au (HM x)):=by
 refine ae (fn:=jc) rfl ?_
 simp +contextual (maxSteps:=9999999) [jc,aZ,mB h.2.2.1,bh h.2.2.2.1,HM]
theorem lM {x:XWrite}(h:x.Ok maxLen):ag Ph aG 383 [x.v]=some (au (HM x)):=by
 refine ae (fn:=je) rfl ?_
 simp +contextual (maxSteps:=9999999) [je,bq,mC h.2.2.1,ca h.2.2.2.1,HM]
def vk (a b:XBucket):Bool:=Op.bytesLess a.site b.site||(a.site==b.site&&Op.bytesLess a.top b.top)
theorem rp (a b:XBucket):ag Ph aG 388 [a.v,b.v]=some (au (vk a b)):=by
 refine ae (fn:=jE) rfl ?_
 simp +contextual (maxSteps:=9999999) [jE,vk]
theorem AR (a b:XBucket):ag Ph aG 385 [a.v,dS b.site,dS b.top]=some (au (vk a b)):=by
 refine ae (fn:=oh) rfl ?_
 simp +contextual (maxSteps:=9999999) [oh,vk]
def Jz :List (List UInt8):=[[98,97,110,107],[110,101,119,115],[115,104,111,112]]
theorem yM :ag Ph aG 181 []=some (.one (.own 1 (Jz.map uD))):=by
 refine ae (fn:=m6) rfl ?_
 simp(maxSteps:=9999999) [m6,Jz,uD]
theorem Ct {us:List (List UInt8)}(hl:us.length≤maxLen)(x:List UInt8):ag Ph aG 182 [bv (us.map uD),dS x]=some (aa .i64 (gB (fun u=>x==u) us)):=by
 refine ae (fn:=fB) rfl ?_
 simp +contextual (maxSteps:=9999999) [fB]
 refine aB aR Cl.fin [.t,.t,.f,.f,.f,.f,.f,.t,.t,.f,.f,.f,.f,.f,.f,.f,.f,.f,.f] (fun k=>[(8,aa .i64 k)]) us.length (iO (fun u=>x==u) us) rfl (by simp) (fun k hk hj=> ?_) (fun hj _=> ?_)
 ·have hf:=ye hk hj
  have hs:(us.map uD)[k]'(by simpa using hk)=[.str us[k]]:=by simp[uD]
  cases hg:(x==us[k])
  ·simp(maxSteps:=9999999) [cI,iO,hk,hg,aF hl hk,aV hk,uD]
  ·have hf2:=hf hg
   have ha:iO (fun u=>x==u) us k=true:=by simp only[iO,hk,List.getElem?_eq_getElem,hg]
   generalize gB (fun u=>x==u) us=F at hf2⊢
   generalize iO (fun u=>x==u) us=A at ha⊢
   simp(maxSteps:=9999999) [cI,ha,hk,hg,hf2,aF hl hk,aV hk,uD]
 ·simp +contextual (maxSteps:=9999999) [cI,Cd hj]
def yG (s:List UInt8):Int:=gB (fun u=>s==u) Jz
theorem ul (s:List UInt8):ag Ph aG 154 [dS s]=some (aa .i64 (yG s)):=by
 have e1:=Ct (us:=Jz) (by decide) s
 simp only[Jz,List.map_cons,List.map_nil,uD]at e1
 refine ae (fn:=kX) rfl ?_
 simp(maxSteps:=9999999) [kX,e1,yG,Jz]
def Fg (l v:Int):Bool:= !(rg v 0 1000000000000)||(!(v==0)&& !(dK l v))
def ON (l v:Int):Int:=if v=0 then l else v
def L5 (V:List Int)(k:Nat):Int:=(V.take k).foldl ON 0
def Fh (V:List Int)(k:Nat):Bool:=match V[k]? with
 |some v=>Fg (L5 V k) v
 |none=>false
def Cz (r:XRegistration):Bool:= !(fL [r.active,r.waiting,r.installing].length (Fh [r.active,r.waiting,r.installing]))&&cy r.site
theorem O6 {l v:Int}(h:Fg l v=true):(rg v 0 1000000000000=true→(v==0)=false)∧(rg v 0 1000000000000=true→dK l v=false):=by
 refine⟨fun g=> ?_,fun g=> ?_⟩<;>rw[Fg,g]at h<;>simp at h
 ·simpa using h.1
 ·exact h.2
theorem M7 {l v:Int}(h:Fg l v=false)(hl:0≤l):rg v 0 1000000000000=true∧((v==0)=false→dK l v=true)∧(if l<v then v else l)=ON l v∧0≤ON l v:=by
 simp only[Fg,Bool.or_eq_false_iff,Bool.not_eq_false',Bool.and_eq_false_iff,beq_iff_eq]at h
 obtain⟨h1,h2⟩:=h
 unfold ON
 by_cases z:v=0
 ·rw[if_pos z];subst z;exact⟨h1,fun q=>by simp at q,by rw[if_neg (by omega)],hl⟩
 ·rw[if_neg z]
  have h3:=h2.resolve_left z
  have:=of_decide_eq_true h3
  exact⟨h1,fun _=>h3,by rw[if_pos this],by omega⟩
theorem NA {V:List Int}{k:Nat}(hk:k<V.length):L5 V (k+1)=ON (L5 V k) V[k]:=by
 unfold L5;rw[List.take_succ_eq_append_getElem hk,List.foldl_append];rfl
theorem F2 {V:List Int}:∀{k:Nat},k≤V.length→(∀j,j<k→Fh V j=false)→0≤L5 V k
 |0,_,_=>Int.le_refl 0
 |k+1,hk,hj=>by
  have ih:=F2 (V:=V) (k:=k) (by omega) (fun j h=>hj j (by omega))
  have hb:=hj k (by omega)
  have hk':k<V.length:=hk
  simp only[Fh,hk',List.getElem?_eq_getElem]at hb
  rw[NA hk']
  exact(M7 hb ih).2.2.2
theorem qr {r:XRegistration}(h:r.Ok maxLen):ag Ph aG 395 [r.v]=some (au (Cz r)):=by
 have e1:=bh h.1
 unfold Cz
 obtain⟨V,hV⟩:∃V,V=[r.active,r.waiting,r.installing]:=⟨_,rfl⟩
 have hR:[[PV.int .i64 r.active],[PV.int .i64 r.waiting],[PV.int .i64 r.installing]]=V.map sU:=by rw[hV];rfl
 have hl:V.length=3:=by rw[hV];rfl
 rw[←hV]
 refine ae (fn:=iF) rfl ?_
 simp(maxSteps:=9999999) [iF]
 rw[hR]
 clear hR hV
 refine aB aR Cl.fin [.f,.t,.f,.t,.f,.f,.f,.f,.f,.f,.f,.f,.t,.t,.t,.f,.f,.f,.f,.f,.f,.f,.f,.f,.f,.f,.f,.f,.f,.f,.f,.f,.f,.f,.f,.f,.f] (fun k=>[(3,aa .i64 (L5 V k)),(14,aa .i64 k)]) V.length (Fh V) rfl (by simp[L5,hl]) (fun k hk hj=> ?_) (fun _ hp=> ?_)
 ·have hpos:=F2 (Nat.le_of_lt hk) hj
  have hs:=NA hk
  have hb:Fh V k=Fg (L5 V k) V[k]:=by simp[Fh,hk]
  have e3:=aZ V[k] 0 1000000000000
  have w:=aF (n:=V.length) (by rw[hl];decide) hk
  have lk:dK (k:Int) 3=true:=lL (by omega)
  have hk3:k<3:=by omega
  rw[hb,hs]
  generalize L5 V k=l at hpos⊢
  generalize hv:V[k]=v at e3⊢
  cases b:Fg l v
  ·obtain⟨g,z,mx,_⟩:=M7 b hpos
   rw[g]at e3
   cases z0:(v==0)
   ·have z1:=z z0
    have nx:ON l v=v:=if_neg (by simpa using z0)
    simp(maxSteps:=9999999) [cH,hk,hk3,hl,hv,sU,e3,z0,z1,mx,nx,w,lk]
   ·have nx:ON l v=l:=if_pos (by simpa using z0)
    simp(maxSteps:=9999999) [cH,hk,hk3,hl,hv,sU,e3,z0,mx,nx,w,lk]
  ·obtain⟨q1,q2⟩:=O6 b
   cases g:rg v 0 1000000000000<;>rw[g]at e3
   ·simp +contextual (maxSteps:=9999999) [cH,hk,hk3,hl,hv,sU,e3,w,lk]
   ·have q3:=q1 g
    have q4:=q2 g
    simp +contextual (maxSteps:=9999999) [cH,hk,hk3,hl,hv,sU,e3,q3,q4,w,lk]
 ·rw[hl]at hp
  simp(maxSteps:=9999999) [cH,hp,hl,e1,show dK 3 3=false from rfl]
theorem qB {r:XRegistration}(h:r.Ok maxLen):ag Ph aG 391 [r.v]=some (au (Cz r)):=by
 have e1:=ca h.1
 unfold Cz
 obtain⟨V,hV⟩:∃V,V=[r.active,r.waiting,r.installing]:=⟨_,rfl⟩
 have hR:[[PV.int .i64 r.active],[PV.int .i64 r.waiting],[PV.int .i64 r.installing]]=V.map sU:=by rw[hV];rfl
 have hl:V.length=3:=by rw[hV];rfl
 rw[←hV]
 refine ae (fn:=iI) rfl ?_
 simp(maxSteps:=9999999) [iI]
 rw[hR]
 clear hR hV
 refine aB aR Cl.fin [.f,.t,.f,.t,.t,.t,.f,.f,.f,.f,.f,.f,.f,.f,.f,.f,.f,.f,.f,.f,.f,.f,.f,.f,.f,.f,.f,.f,.f,.f,.f,.f,.f,.f,.f,.f,.f,.f,.f,.f,.f,.f,.f,.f,.f,.f,.f,.f,.f,.f,.f,.f] (fun k=>[(3,aa .i64 (L5 V k)),(5,aa .i64 k)]) V.length (Fh V) rfl (by simp[L5,hl]) (fun k hk hj=> ?_) (fun _ hp=> ?_)
 ·have hpos:=F2 (Nat.le_of_lt hk) hj
  have hs:=NA hk
  have hb:Fh V k=Fg (L5 V k) V[k]:=by simp[Fh,hk]
  have e3:=bq V[k] 0 1000000000000
  have w:=aF (n:=V.length) (by rw[hl];decide) hk
  have lk:dK (k:Int) 3=true:=lL (by omega)
  have hk3:k<3:=by omega
  rw[hb,hs]
  generalize L5 V k=l at hpos⊢
  generalize hv:V[k]=v at e3⊢
  cases b:Fg l v
  ·obtain⟨g,z,mx,_⟩:=M7 b hpos
   rw[g]at e3
   cases z0:(v==0)
   ·have z1:=z z0
    have nx:ON l v=v:=if_neg (by simpa using z0)
    simp(maxSteps:=9999999) [cJ,hk,hk3,hl,hv,sU,e3,z0,z1,mx,nx,w,lk]
   ·have nx:ON l v=l:=if_pos (by simpa using z0)
    simp(maxSteps:=9999999) [cJ,hk,hk3,hl,hv,sU,e3,z0,mx,nx,w,lk]
  ·obtain⟨q1,q2⟩:=O6 b
   cases g:rg v 0 1000000000000<;>rw[g]at e3
   ·simp +contextual (maxSteps:=9999999) [cJ,hk,hk3,hl,hv,sU,e3,w,lk]
   ·have q3:=q1 g
    have q4:=q2 g
    simp +contextual (maxSteps:=9999999) [cJ,hk,hk3,hl,hv,sU,e3,q3,q4,w,lk]
 ·rw[hl]at hp
  simp(maxSteps:=9999999) [cJ,hp,hl,e1,show dK 3 3=false from rfl]
def PP (fs:List XField)(nm:List UInt8):Nat:=fs.findIdx fun f=> !(Op.bytesLess f.name nm)
def Qm (fs:List XField)(nm:List UInt8)(n:Int):List XField:=match fs[PP fs nm]? with
 |some f=>if f.name=nm then fs.set (PP fs nm) ⟨nm,n⟩else fs.take (PP fs nm)++(⟨nm,n⟩::fs.drop (PP fs nm))
 |none=>fs.take (PP fs nm)++(⟨nm,n⟩::fs.drop (PP fs nm))
def setR (fs:List XField)(nm:List UInt8)(n:Int):List XField×Bool:=cond (ng fs&&ng (Qm fs nm n)) (Qm fs nm n,true) (fs,false)
theorem Ou {α:Type}{p:α→Bool}{xs:List α}(h:gB p xs= -1):∀x∈xs,p x=false:=fun x hx=>by
 unfold gB at h
 cases q:xs.findIdx? p with
 |none=>rw[List.findIdx?_eq_none_iff]at q;exact q x hx
 |some i=>rw[q]at h;simp only at h;omega
theorem uy {j:Nat}:dK (j:Int) 0=false:=wv (by omega)
end Gi
