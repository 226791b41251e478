/- Of this proof. -/
import Derived.Test.YtgmnakghjemjlabGreatGki
import Derived.Test.YtgmnakghjemjlabGreatGkp
set_option linter.unusedSimpArgs false
set_option linter.unusedVariables false
namespace Gi
open Go Go.RowKit
set_option maxHeartbeats 8000000
set_option maxRecDepth 4000
attribute [local simp] bw rW bg bY dS fY dR fX f7 f6 um uB uo uC uq uD ur uE ut uF uu uG uw uH uy uI uz uJ V.cells plain bo gr isInt isStr isBool bin cT jF cU jG fZ un asList L.view ap V.view viewL aU ar cX bZ bP comp aK bu dz cr bD bB bC bx bc bU aO bH aS aX bJ bV bI bG bK V.flat L.flat dJ dk bt putAt thaw thawL thawT V.ow f5 dW dX cV f4 cW dV freezeVs freezeLs freezeL V.mut L.mut aJ cG iK aN be aG dv bM bi bS L.ren aV dL ce dO bQ bF wp_seq wp_block bA ed cY ca cZ wp_skip wp_exit wp_ret cK cI cS cL df dg de cq aW L.notArr aR aP aQ dZ bp storeD a9 fT br cE bh nK L.mov L.closed V.closed PV.bare PV.flat
def zU (s t:List UInt8)(x:XCached):Bool:=x.site==s&&x.path==t
theorem ky {c:XCache}(h:c.entries.length≤maxLen)(s t:List UInt8):ag Ph aE 333 [c.v,fM s,fM t]=some (aa .i64 (ib (zU s t) c.entries)):=by
 have e1:=Dc (e:=XCached.e) (p:=zU s t) (xs:=c.entries) (k:=346) (z:=7) (kc:=347) (caps:=[[.str s],[.str t]]) rfl h (fun _=>rfl) (fun x _=>by
  refine ae (fn:=mH) rfl ?_
  simp +contextual (maxSteps:=9999999) [mH,XCached.e.eq_1,F4,zU])
 refine ae (fn:=oq) rfl ?_
 simp +contextual (maxSteps:=9999999) [oq,kE,pB,e1]
def rH (es:List XCached)(k:Nat):Bool:=match es[k]? with
 |some e=> !(cC e.site)||(!(cC e.path)||(!(oW e.resp)||fA k (io (zU e.site e.path) es)))
 |none=>false
def K9 (es:List XCached):Bool:= !(fA es.length (rH es))&& !(dA 12 es.length)
theorem tf {α:Type}{p:α→Bool}{xs:List α}{k:Nat}(hk:k<xs.length)(hs:p xs[k]=true):(!(ib p xs==(k:Int)))=fA k (io p xs):=by
 cases q:fA k (io p xs)with
 |false=>rw[yM hk (fun j hj=>ND q hj) hs];simp
 |true=>
  rw[Bool.not_eq_true',beq_eq_false_iff_ne]
  intro e
  unfold fA at q
  rw[List.any_eq_true]at q
  obtain⟨j,hj,h⟩:=q
  have hj:=List.mem_range.1 hj
  unfold ib at e
  cases h1:xs.findIdx? p with
  |none=>rw[h1]at e;simp only at e;omega
  |some i=>
   rw[h1]at e
   simp only at e
   obtain rfl:i=k:=by omega
   rw[List.findIdx?_eq_some_iff_getElem]at h1
   have h2:j<xs.length:=by omega
   have:=h1.2.2 j hj
   simp only[io,h2,List.getElem?_eq_getElem]at h
   exact this h
def LQ (cs:List XCache)(k:Nat):Bool:=match cs[k]?,cs[k-1]? with
 |some x,some y=> !(rg x.version 1 1000000000000)||((dA 0 k&& !(dA y.version x.version))|| !(K9 x.entries))
 |_,_=>false
def JY (cs:List XCache):Bool:= !(fA cs.length (LQ cs))&& !(dA 4 cs.length)
theorem vN {es:List XCached}(hl:es.length≤maxLen)(h:∀e∈es,e.Ok maxLen):ag Ph aE 399 [bm (es.map XCached.e)]=some (au (K9 es)):=by
 unfold K9
 refine ae (fn:=lO) rfl ?_
 simp +contextual (maxSteps:=9999999) [lO]
 refine aC aT Cl.fin [.t,.f,.f,.t,.f,.f,.f,.f,.f,.f,.f,.f,.f,.f,.f,.f,.f,.f,.f,.f,.f,.f,.f,.f,.f,.f,.f,.f,.f,.f,.f,.f,.f,.f,.f,.f,.f,.f,.f,.f,.f,.f,.f,.f,.f,.f,.f,.f,.f,.f,.f,.f,.f,.f,.f,.f,.f,.f,.f,.f,.f,.f,.f,.f,.f,.f,.f,.f] (fun k=>[(3,aa .i64 k)]) es.length (rH es) rfl (by simp) (fun k hk _=> ?_) (fun _ hp=> ?_)
 ·have e1:=co (h _ (List.getElem_mem hk)).1
  have e2:=co (h _ (List.getElem_mem hk)).2.1
  have e3:=vK es[k].resp
  have hx:=XCached.e.eq_1 es[k]
  have hb:rH es k=(!(cC es[k].site)||(!(cC es[k].path)||(!(oW es[k].resp)||fA k (io (zU es[k].site es[k].path) es)))):=by simp[rH,hk]
  rw[hb]
  generalize cC es[k].site=b1 at e1⊢
  generalize cC es[k].path=b2 at e2⊢
  generalize oW es[k].resp=b3 at e3⊢
  cases b1
  ·simp +contextual (maxSteps:=9999999) [dx,hk,hx,e1,aY hk]
  cases b2
  ·simp +contextual (maxSteps:=9999999) [dx,hk,hx,e1,e2,aY hk]
  cases b3
  ·simp +contextual (maxSteps:=9999999) [dx,hk,hx,e1,e2,e3,aY hk]
  cases hD:fA k (io (zU es[k].site es[k].path) es)
  ·simp(maxSteps:=9999999) [dx,hk,hx,e1,e2,e3,aY hk]
   refine aC aT Cl.kn [.t,.f,.f,.t,.t,.f,.f,.f,.f,.f,.f,.f,.f,.f,.f,.f,.f,.f,.f,.f,.f,.f,.f,.f,.f,.f,.f,.f,.f,.f,.f,.f,.f,.f,.f,.f,.f,.f,.f,.f,.f,.f,.f,.f,.f,.f,.f,.f,.f,.f,.f,.f,.f,.f,.f,.f,.f,.f,.f,.f,.f,.f,.f,.f,.f,.f,.f,.f] (fun j=>[(4,aa .i64 j)]) k (io (zU es[k].site es[k].path) es) rfl (by simp) (fun i hi _=> ?_) (fun _ hq=> ?_)
   ·have hi2:i<es.length:=by omega
    simp +contextual (maxSteps:=9999999) [eT,io,zU,hi,hi2,hk,hx,XCached.e.eq_1 es[i],aF hl hi2,aY hi,hD]
   ·simp(maxSteps:=9999999) [eT,aF hl hk]
  ·simp(maxSteps:=9999999) [dx,hk,hx,e1,e2,e3,aY hk]
   refine aC aT (Cl.imp aT Cl.fin rfl) [.t,.f,.f,.t,.t,.f,.f,.f,.f,.f,.f,.f,.f,.f,.f,.f,.f,.f,.f,.f,.f,.f,.f,.f,.f,.f,.f,.f,.f,.f,.f,.f,.f,.f,.f,.f,.f,.f,.f,.f,.f,.f,.f,.f,.f,.f,.f,.f,.f,.f,.f,.f,.f,.f,.f,.f,.f,.f,.f,.f,.f,.f,.f,.f,.f,.f,.f,.f] (fun j=>[(4,aa .i64 j)]) k (io (zU es[k].site es[k].path) es) rfl (by simp) (fun i hi _=> ?_) (fun _ hq=> ?_)
   ·have hi2:i<es.length:=by omega
    simp +contextual (maxSteps:=9999999) [eT,io,zU,hi,hi2,hk,hx,XCached.e.eq_1 es[i],aF hl hi2,aY hi,hD]
   ·rw[hD]at hq;cases hq
 ·simp(maxSteps:=9999999) [dx,hp]
theorem vH {s:XCacheSet}(h:s.Ok maxLen):ag Ph aE 392 [s.v]=some (au (JY s.caches)):=by
 obtain⟨h1,h2⟩:=h
 have e2:=fun v=>bq v 1 1000000000000
 unfold JY
 refine ae (fn:=lI) rfl ?_
 simp +contextual (maxSteps:=9999999) [lI]
 refine aC aT Cl.fin [.f,.t,.f,.t,.f,.f,.f,.f,.f,.f,.f,.f,.f,.f,.f,.f,.f,.f,.f,.f,.f,.f,.f,.f,.f,.f,.f,.f,.f,.f,.f,.f,.f,.f,.f,.f,.f,.f,.f,.f,.f,.f,.f,.f,.f,.f,.f,.f,.f,.f,.f,.f,.f] (fun k=>[(3,aa .i64 k)]) s.caches.length (LQ s.caches) rfl (by simp) (fun k hk _=> ?_) (fun _ hp=> ?_)
 ·obtain⟨q1,q2⟩:=tN h1 hk
  have hc:=h2 _ (List.getElem_mem hk)
  have e3:=vN hc.2.1 hc.2.2
  simp +contextual (maxSteps:=9999999) [gR,LQ,hk,q1,q2,e2,e3,aF h1 hk,aY hk,XCache.e.eq_1 s.caches[k],XCache.e.eq_1 s.caches[k-1]]
 ·simp(maxSteps:=9999999) [gR,hp]
theorem vo {s:XCacheSet}(h:s.Ok maxLen):ag Ph aE 396 [s.v]=some (au (JY s.caches)):=by
 obtain⟨h1,h2⟩:=h
 unfold JY
 refine ae (fn:=lu) rfl ?_
 simp +contextual (maxSteps:=9999999) [lu]
 refine aC aT Cl.fin [.f,.t,.f,.f,.f,.f,.f,.f,.t,.t,.t,.f,.f,.f,.f,.f,.f,.f,.f,.f,.f,.f,.f,.f,.f,.f,.f,.f,.f,.f,.f,.f,.f,.f,.f,.f,.f,.f,.f,.f,.f,.f,.f,.f,.f,.f,.f,.f,.f,.f,.f,.f,.f,.f,.f,.f,.f,.f,.f,.f,.f,.f,.f,.f,.f,.f,.f,.f,.f,.f,.f,.f,.f,.f,.f,.f,.f,.f,.f,.f,.f] (fun k=>[(10,aa .i64 k)]) s.caches.length (LQ s.caches) rfl (by simp) (fun k hk _=> ?_) (fun _ hp=> ?_)
 ·obtain⟨q1,q2⟩:=tN h1 hk
  have hc:=h2 _ (List.getElem_mem hk)
  have e2:=aZ s.caches[k].version 1 1000000000000
  have hx:=XCache.e.eq_1 s.caches[k]
  have hy:=XCache.e.eq_1 s.caches[k-1]
  have hb:LQ s.caches k=(!(rg s.caches[k].version 1 1000000000000)||((dA 0 k&& !(dA s.caches[k-1].version s.caches[k].version))||(dA 12 s.caches[k].entries.length||fA s.caches[k].entries.length (rH s.caches[k].entries)))):=by
   simp only[LQ,hk,q2,List.getElem?_eq_getElem,K9,Bool.not_and,Bool.not_not]
   rw[Bool.or_comm (dA 12 _)]
  rw[hb]
  generalize rg s.caches[k].version 1 1000000000000=b1 at e2⊢
  cases b1
  ·simp +contextual (maxSteps:=9999999) [cy,hk,hx,e2,aY hk]
  cases c2:dA 0 k&& !(dA s.caches[k-1].version s.caches[k].version)
  rotate_left
  ·rw[Bool.and_eq_true]at c2
   have c3:=q1 c2.1
   have c4:dA s.caches[k-1].version s.caches[k].version=false:=by simpa using c2.2
   simp +contextual (maxSteps:=9999999) [cy,hk,q2,hx,hy,e2,c2.1,c3,c4,aY hk]
  have c3:dA 0 k=true→dA s.caches[k-1].version s.caches[k].version=true:=fun q=>by simpa[q]using c2
  cases c4:dA 12 s.caches[k].entries.length
  rotate_left
  ·simp +contextual (maxSteps:=9999999) [cy,hk,q1,q2,hx,hy,e2,c3,c4,aY hk]
  cases hD:fA s.caches[k].entries.length (rH s.caches[k].entries)
  ·cases c5:dA 0 k
   ·simp(maxSteps:=9999999) [cy,hk,hx,e2,c5,c4,aY hk]
    refine aC aT Cl.kn [.f,.t,.f,.f,.t,.f,.f,.f,.t,.t,.t,.f,.f,.f,.f,.f,.f,.f,.f,.f,.f,.f,.f,.f,.f,.f,.f,.f,.f,.f,.f,.f,.f,.f,.f,.f,.f,.f,.f,.f,.f,.f,.t,.t,.t,.f,.f,.f,.f,.f,.f,.f,.f,.f,.f,.f,.f,.f,.f,.f,.f,.f,.f,.f,.f,.f,.f,.f,.f,.f,.f,.f,.f,.f,.f,.f,.f,.f,.f,.f,.f] (fun j=>[(44,aa .i64 j)]) s.caches[k].entries.length (rH s.caches[k].entries) rfl (by simp) (fun j hj _=> ?_) (fun _ hq=> ?_)
    ·have he:=hc.2.2 _ (List.getElem_mem hj)
     have e4:=bn he.1
     have e5:=bn he.2.1
     have e6:=iE s.caches[k].entries[j].resp
     have e7:=ky (c:=s.caches[k]) hc.2.1 s.caches[k].entries[j].site s.caches[k].entries[j].path
     have hs:=tf (p:=zU s.caches[k].entries[j].site s.caches[k].entries[j].path) hj (by simp[zU])
     have hz:=XCached.e.eq_1 s.caches[k].entries[j]
     have hbE:rH s.caches[k].entries j=(!(cC s.caches[k].entries[j].site)||(!(cC s.caches[k].entries[j].path)||(!(oW s.caches[k].entries[j].resp)||fA j (io (zU s.caches[k].entries[j].site s.caches[k].entries[j].path) s.caches[k].entries)))):=by simp[rH,hj]
     rw[hbE,←hs]
     generalize ib (zU s.caches[k].entries[j].site s.caches[k].entries[j].path) s.caches[k].entries=F at e7⊢
     obtain⟨g,hg⟩:∃g,(F==(j:Int))=g:=⟨_,rfl⟩
     rw[hg]
     simp +contextual (maxSteps:=9999999) [cN,hj,hz,e4,e5,e6,e7,hg,aF hc.2.1 hj,aY hj,hD]
    ·simp(maxSteps:=9999999) [cN,aF h1 hk]
   ·have c6:=q1 c5
    have c7:=c3 c5
    simp(maxSteps:=9999999) [cy,hk,q2,hx,hy,e2,c5,c6,c7,c4,aY hk]
    refine aC aT Cl.kn [.f,.t,.f,.f,.t,.f,.f,.f,.t,.t,.t,.f,.f,.f,.f,.f,.f,.f,.f,.f,.f,.f,.f,.f,.f,.f,.f,.f,.f,.f,.f,.f,.f,.f,.f,.f,.f,.f,.f,.f,.f,.f,.t,.t,.t,.f,.f,.f,.f,.f,.f,.f,.f,.f,.f,.f,.f,.f,.f,.f,.f,.f,.f,.f,.f,.f,.f,.f,.f,.f,.f,.f,.f,.f,.f,.f,.f,.f,.f,.f,.f] (fun j=>[(44,aa .i64 j)]) s.caches[k].entries.length (rH s.caches[k].entries) rfl (by simp) (fun j hj _=> ?_) (fun _ hq=> ?_)
    ·have he:=hc.2.2 _ (List.getElem_mem hj)
     have e4:=bn he.1
     have e5:=bn he.2.1
     have e6:=iE s.caches[k].entries[j].resp
     have e7:=ky (c:=s.caches[k]) hc.2.1 s.caches[k].entries[j].site s.caches[k].entries[j].path
     have hs:=tf (p:=zU s.caches[k].entries[j].site s.caches[k].entries[j].path) hj (by simp[zU])
     have hz:=XCached.e.eq_1 s.caches[k].entries[j]
     have hbE:rH s.caches[k].entries j=(!(cC s.caches[k].entries[j].site)||(!(cC s.caches[k].entries[j].path)||(!(oW s.caches[k].entries[j].resp)||fA j (io (zU s.caches[k].entries[j].site s.caches[k].entries[j].path) s.caches[k].entries)))):=by simp[rH,hj]
     rw[hbE,←hs]
     generalize ib (zU s.caches[k].entries[j].site s.caches[k].entries[j].path) s.caches[k].entries=F at e7⊢
     obtain⟨g,hg⟩:∃g,(F==(j:Int))=g:=⟨_,rfl⟩
     rw[hg]
     simp +contextual (maxSteps:=9999999) [cN,hj,hz,e4,e5,e6,e7,hg,aF hc.2.1 hj,aY hj,hD]
    ·simp(maxSteps:=9999999) [cN,aF h1 hk]
  ·cases c5:dA 0 k
   ·simp(maxSteps:=9999999) [cy,hk,hx,e2,c5,c4,aY hk]
    refine aC aT (Cl.imp aT Cl.fin rfl) [.f,.t,.f,.f,.t,.f,.f,.f,.t,.t,.t,.f,.f,.f,.f,.f,.f,.f,.f,.f,.f,.f,.f,.f,.f,.f,.f,.f,.f,.f,.f,.f,.f,.f,.f,.f,.f,.f,.f,.f,.f,.f,.t,.t,.t,.f,.f,.f,.f,.f,.f,.f,.f,.f,.f,.f,.f,.f,.f,.f,.f,.f,.f,.f,.f,.f,.f,.f,.f,.f,.f,.f,.f,.f,.f,.f,.f,.f,.f,.f,.f] (fun j=>[(44,aa .i64 j)]) s.caches[k].entries.length (rH s.caches[k].entries) rfl (by simp) (fun j hj _=> ?_) (fun _ hq=> ?_)
    ·have he:=hc.2.2 _ (List.getElem_mem hj)
     have e4:=bn he.1
     have e5:=bn he.2.1
     have e6:=iE s.caches[k].entries[j].resp
     have e7:=ky (c:=s.caches[k]) hc.2.1 s.caches[k].entries[j].site s.caches[k].entries[j].path
     have hs:=tf (p:=zU s.caches[k].entries[j].site s.caches[k].entries[j].path) hj (by simp[zU])
     have hz:=XCached.e.eq_1 s.caches[k].entries[j]
     have hbE:rH s.caches[k].entries j=(!(cC s.caches[k].entries[j].site)||(!(cC s.caches[k].entries[j].path)||(!(oW s.caches[k].entries[j].resp)||fA j (io (zU s.caches[k].entries[j].site s.caches[k].entries[j].path) s.caches[k].entries)))):=by simp[rH,hj]
     rw[hbE,←hs]
     generalize ib (zU s.caches[k].entries[j].site s.caches[k].entries[j].path) s.caches[k].entries=F at e7⊢
     obtain⟨g,hg⟩:∃g,(F==(j:Int))=g:=⟨_,rfl⟩
     rw[hg]
     simp +contextual (maxSteps:=9999999) [cN,hj,hz,e4,e5,e6,e7,hg,aF hc.2.1 hj,aY hj,hD]
    ·rw[hD]at hq;cases hq
   ·have c6:=q1 c5
    have c7:=c3 c5
    simp(maxSteps:=9999999) [cy,hk,q2,hx,hy,e2,c5,c6,c7,c4,aY hk]
    refine aC aT (Cl.imp aT Cl.fin rfl) [.f,.t,.f,.f,.t,.f,.f,.f,.t,.t,.t,.f,.f,.f,.f,.f,.f,.f,.f,.f,.f,.f,.f,.f,.f,.f,.f,.f,.f,.f,.f,.f,.f,.f,.f,.f,.f,.f,.f,.f,.f,.f,.t,.t,.t,.f,.f,.f,.f,.f,.f,.f,.f,.f,.f,.f,.f,.f,.f,.f,.f,.f,.f,.f,.f,.f,.f,.f,.f,.f,.f,.f,.f,.f,.f,.f,.f,.f,.f,.f,.f] (fun j=>[(44,aa .i64 j)]) s.caches[k].entries.length (rH s.caches[k].entries) rfl (by simp) (fun j hj _=> ?_) (fun _ hq=> ?_)
    ·have he:=hc.2.2 _ (List.getElem_mem hj)
     have e4:=bn he.1
     have e5:=bn he.2.1
     have e6:=iE s.caches[k].entries[j].resp
     have e7:=ky (c:=s.caches[k]) hc.2.1 s.caches[k].entries[j].site s.caches[k].entries[j].path
     have hs:=tf (p:=zU s.caches[k].entries[j].site s.caches[k].entries[j].path) hj (by simp[zU])
     have hz:=XCached.e.eq_1 s.caches[k].entries[j]
     have hbE:rH s.caches[k].entries j=(!(cC s.caches[k].entries[j].site)||(!(cC s.caches[k].entries[j].path)||(!(oW s.caches[k].entries[j].resp)||fA j (io (zU s.caches[k].entries[j].site s.caches[k].entries[j].path) s.caches[k].entries)))):=by simp[rH,hj]
     rw[hbE,←hs]
     generalize ib (zU s.caches[k].entries[j].site s.caches[k].entries[j].path) s.caches[k].entries=F at e7⊢
     obtain⟨g,hg⟩:∃g,(F==(j:Int))=g:=⟨_,rfl⟩
     rw[hg]
     simp +contextual (maxSteps:=9999999) [cN,hj,hz,e4,e5,e6,e7,hg,aF hc.2.1 hj,aY hj,hD]
    ·rw[hD]at hq;cases hq
 ·simp(maxSteps:=9999999) [cy,hp]
def NK (o:XOutbox)(k:Nat):Bool:=match o.writes[k]? with
 |some w=> !(In w)||(!(w.dev==o.dev)|| !(w.seq==IntKind.i64.wrap (IntKind.i64.wrap (o.next-(o.writes.length:Int))+(k:Int))))
 |none=>false
def zV (o:XOutbox):Bool:=rg o.dev 1 1000000&&(rg o.next 1 1000000&&(!(dA 20 o.writes.length)&& !(fA o.writes.length (NK o))))
theorem yT {o:XOutbox}(h:o.Ok maxLen):ag Ph aE 407 [o.v]=some (au (zV o)):=by
 have hl:=h.2.2.1
 refine ae (fn:=nf) rfl ?_
 simp +contextual (maxSteps:=9999999) [nf]
 refine aC aT Cl.fin [.f,.t,.f,.t,.f,.f,.f,.f,.f,.f,.t,.t,.t,.f,.f,.f,.f,.f,.f,.f,.f,.f,.f,.f,.f,.f,.f,.f,.f,.f,.f,.f,.f,.f,.f,.f,.f,.f,.f,.f,.f,.f,.f,.f,.f,.f,.f,.f,.f,.f,.f] (fun k=>[(12,aa .i64 k)]) o.writes.length (NK o) rfl (by simp) (fun k hk _=> ?_) (fun _ hp=> ?_)
 ·have e1:=mj (h.2.2.2 _ (List.getElem_mem hk))
  simp +contextual (maxSteps:=9999999) [i7,NK,zV,hk,e1,aF hl hk,aY hk,XWrite.e.eq_1 o.writes[k]]
 ·simp +contextual (maxSteps:=9999999) [i7,hp,zV,aZ]
theorem zw {o:XOutbox}(h:o.Ok maxLen):ag Ph aE 402 [o.v]=some (au (zV o)):=by
 have hl:=h.2.2.1
 have e2:=bq o.dev 1 1000000
 have e3:=bq o.next 1 1000000
 unfold zV
 refine ae (fn:=gy) rfl ?_
 cases c1:rg o.dev 1 1000000<;>rw[c1]at e2
 ·simp(maxSteps:=9999999) [gy,e2]
 cases c2:rg o.next 1 1000000<;>rw[c2]at e3
 ·simp(maxSteps:=9999999) [gy,e2,e3]
 cases c3:dA 20 o.writes.length
 rotate_left
 ·simp(maxSteps:=9999999) [gy,e2,e3,c3]
 simp(maxSteps:=9999999) [gy,e2,e3,c3]
 refine aC aT Cl.fin [.f,.t,.f,.t,.t,.f,.f,.f,.f,.f,.f,.f,.f,.f,.f,.f,.f,.f,.f,.f,.f,.f,.f,.f,.f,.f,.f,.f,.f,.f,.f,.f,.f,.f,.f,.f,.f,.f,.f,.f,.f,.f,.f,.f,.f,.f,.f,.f,.f,.f,.f,.f,.f,.f,.f,.f,.f,.f,.f,.f] (fun k=>[(4,aa .i64 k)]) o.writes.length (NK o) rfl (by simp) (fun k hk _=> ?_) (fun _ hp=> ?_)
 ·have e1:=ml (h.2.2.2 _ (List.getElem_mem hk))
  simp +contextual (maxSteps:=9999999) [jc,NK,hk,e1,aF hl hk,aY hk,XWrite.e.eq_1 o.writes[k]]
 ·simp +contextual (maxSteps:=9999999) [jc,hp]
def sD :List UInt8:=[110,111,116,101,115]
def Da (r:XReplica):Bool:=lV r.base&&(r.base.name==sD&&(rg r.seen 0 1000000000000&&zV r.sync.outbox))
theorem wR {r:XReplica}(h:r.Ok maxLen):ag Ph aE 398 [r.v]=some (au (Da r)):=by
 have e1:=nC h.1
 have e2:=aZ r.seen 0 1000000000000
 have e3:=yT h.2.2.1
 unfold Da
 generalize lV r.base=b1 at e1⊢
 generalize rg r.seen 0 1000000000000=b2 at e2⊢
 generalize zV r.sync.outbox=b3 at e3⊢
 obtain⟨b4,h4⟩:∃g,(r.base.name==sD)=g:=⟨_,rfl⟩
 rw[h4]
 unfold sD at h4
 refine ae (fn:=mA) rfl ?_
 cases b1<;>cases b2<;>cases b3<;>cases b4<;>simp(maxSteps:=9999999) [mA,e1,e2,e3,h4]
theorem xp {r:XReplica}(h:r.Ok maxLen):ag Ph aE 394 [r.v]=some (au (Da r)):=by
 have e1:=nD h.1
 have e2:=bq r.seen 0 1000000000000
 have e3:=zw h.2.2.1
 unfold Da
 generalize lV r.base=b1 at e1⊢
 generalize rg r.seen 0 1000000000000=b2 at e2⊢
 generalize zV r.sync.outbox=b3 at e3⊢
 obtain⟨b4,h4⟩:∃g,(r.base.name==sD)=g:=⟨_,rfl⟩
 rw[h4]
 unfold sD at h4
 refine ae (fn:=mM) rfl ?_
 cases b1<;>cases b2<;>cases b3<;>cases b4<;>simp(maxSteps:=9999999) [mM,e1,e2,e3,h4]
def qa (x y:XLock):Bool:=y.name==x.name&&(x.held&&(!y.held||(!x.shared|| !y.shared)))
def JB (ls:List XLock)(k:Nat):Bool:=match ls[k]? with
 |some x=> !(qT x.name)||(!(rg x.page 1 1000000000000)||fA k (io (qa x) ls))
 |none=>false
def qU (ls:List XLock):Bool:= !(fA ls.length (JB ls))&& !(dA 12 ls.length)
theorem tF {ls:List XLock}(hl:ls.length≤maxLen)(h:∀x∈ls,x.Ok maxLen):ag Ph aE 380 [.agg [.pv (.lst (ls.map XLock.e))]]=some (au (qU ls)):=by
 unfold qU
 refine ae (fn:=kI) rfl ?_
 simp +contextual (maxSteps:=9999999) [kI]
 refine aC aT Cl.fin [.f,.t,.f,.f,.f,.f,.f,.f,.t,.t,.t,.f,.f,.f,.f,.f,.f,.f,.f,.f,.f,.f,.f,.f,.f,.f,.f,.f,.f,.f,.f,.f,.f,.f,.f,.f,.f,.f,.f,.f,.f,.f,.f,.f,.f,.f,.f,.f,.f,.f,.f,.f,.f,.f,.f,.f,.f,.f,.f,.f,.f,.f,.f,.f] (fun k=>[(10,aa .i64 k)]) ls.length (JB ls) rfl (by simp) (fun k hk _=> ?_) (fun _ hp=> ?_)
 ·have e1:=vq (h _ (List.getElem_mem hk)).1
  have e2:=aZ ls[k].page 1 1000000000000
  have hx:=XLock.e.eq_1 ls[k]
  have w:=dC (e:=XLock.e) (z:=4) (fun _=>rfl) ls
  have hb:JB ls k=(!(qT ls[k].name)||(!(rg ls[k].page 1 1000000000000)||fA k (io (qa ls[k]) ls))):=by simp[JB,hk]
  rw[hb]
  generalize qT ls[k].name=b1 at e1⊢
  generalize rg ls[k].page 1 1000000000000=b2 at e2⊢
  cases b1
  ·simp +contextual (maxSteps:=9999999) [dD,hk,hx,e1,aY hk]
  cases b2
  ·simp +contextual (maxSteps:=9999999) [dD,hk,hx,e1,e2,aY hk]
  cases hD:fA k (io (qa ls[k]) ls)
  ·simp(maxSteps:=9999999) [dD,hk,hx,e1,e2,w,Nat.le_of_lt hk,aY hk]
   refine aC aT Cl.kn [.f,.t,.f,.f,.t,.f,.f,.f,.t,.t,.t,.f,.f,.f,.f,.f,.f,.f,.f,.f,.f,.f,.f,.f,.f,.f,.f,.f,.t,.t,.t,.f,.f,.f,.f,.f,.f,.f,.f,.f,.f,.f,.f,.f,.f,.f,.f,.f,.f,.f,.f,.f,.f,.f,.f,.f,.f,.f,.f,.f,.f,.f,.f,.f] (fun j=>[(30,aa .i64 j)]) k (io (qa ls[k]) ls) rfl (by simp) (fun i hi _=> ?_) (fun _ hq=> ?_)
   ·have hi2:i<ls.length:=by omega
    simp +contextual (maxSteps:=9999999) [ep,io,qa,hi,hi2,hk,hx,XLock.e.eq_1 ls[i],aF hl hi2,aY hi,hD]
   ·simp(maxSteps:=9999999) [ep,aF hl hk]
  ·simp(maxSteps:=9999999) [dD,hk,hx,e1,e2,w,Nat.le_of_lt hk,aY hk]
   refine aC aT (Cl.imp aT Cl.fin rfl) [.f,.t,.f,.f,.t,.f,.f,.f,.t,.t,.t,.f,.f,.f,.f,.f,.f,.f,.f,.f,.f,.f,.f,.f,.f,.f,.f,.f,.t,.t,.t,.f,.f,.f,.f,.f,.f,.f,.f,.f,.f,.f,.f,.f,.f,.f,.f,.f,.f,.f,.f,.f,.f,.f,.f,.f,.f,.f,.f,.f,.f,.f,.f,.f] (fun j=>[(30,aa .i64 j)]) k (io (qa ls[k]) ls) rfl (by simp) (fun i hi _=> ?_) (fun _ hq=> ?_)
   ·have hi2:i<ls.length:=by omega
    simp +contextual (maxSteps:=9999999) [ep,io,qa,hi,hi2,hk,hx,XLock.e.eq_1 ls[i],aF hl hi2,aY hi,hD]
   ·rw[hD]at hq;cases hq
 ·simp(maxSteps:=9999999) [dD,hp]
theorem tR {ls:List XLock}(hl:ls.length≤maxLen)(h:∀x∈ls,x.Ok maxLen):ag Ph aE 378 [.agg [.pv (.lst (ls.map XLock.e))]]=some (au (qU ls)):=by
 unfold qU
 refine ae (fn:=kU) rfl ?_
 simp +contextual (maxSteps:=9999999) [kU]
 refine aC aT Cl.fin [.f,.t,.f,.t,.f,.f,.f,.f,.f,.f,.f,.f,.f,.f,.f,.f,.f,.f,.f,.f,.f,.f,.f,.f,.f,.f,.f,.f,.f,.f,.f,.f,.f,.f,.f,.f,.f,.f,.f,.f,.f,.f,.f,.f,.f,.f,.f,.f,.f,.f,.f,.f,.f,.f,.f,.f,.f,.f,.f,.f,.f,.f,.f,.f,.f,.f,.f] (fun k=>[(3,aa .i64 k)]) ls.length (JB ls) rfl (by simp) (fun k hk _=> ?_) (fun _ hp=> ?_)
 ·have e1:=vJ (h _ (List.getElem_mem hk)).1
  have e2:=bq ls[k].page 1 1000000000000
  have hx:=XLock.e.eq_1 ls[k]
  have hb:JB ls k=(!(qT ls[k].name)||(!(rg ls[k].page 1 1000000000000)||fA k (io (qa ls[k]) ls))):=by simp[JB,hk]
  rw[hb]
  generalize qT ls[k].name=b1 at e1⊢
  generalize rg ls[k].page 1 1000000000000=b2 at e2⊢
  cases b1
  ·simp +contextual (maxSteps:=9999999) [dF,hk,hx,e1,aY hk]
  cases b2
  ·simp +contextual (maxSteps:=9999999) [dF,hk,hx,e1,e2,aY hk]
  cases hD:fA k (io (qa ls[k]) ls)
  ·simp(maxSteps:=9999999) [dF,hk,hx,e1,e2,aY hk]
   refine aC aT Cl.kn [.f,.t,.f,.t,.t,.t,.f,.f,.f,.f,.f,.f,.f,.f,.f,.f,.f,.f,.f,.f,.f,.f,.f,.f,.f,.f,.f,.f,.f,.f,.f,.f,.f,.f,.f,.f,.f,.f,.f,.f,.f,.f,.f,.f,.f,.f,.f,.f,.f,.f,.f,.f,.f,.f,.f,.f,.f,.f,.f,.f,.f,.f,.f,.f,.f,.f,.f] (fun j=>[(5,aa .i64 j)]) k (io (qa ls[k]) ls) rfl (by simp) (fun i hi _=> ?_) (fun _ hq=> ?_)
   ·have hi2:i<ls.length:=by omega
    simp +contextual (maxSteps:=9999999) [eB,io,qa,hi,hi2,hk,hx,XLock.e.eq_1 ls[i],aF hl hi2,aY hi,hD]
   ·simp(maxSteps:=9999999) [eB,aF hl hk]
  ·simp(maxSteps:=9999999) [dF,hk,hx,e1,e2,aY hk]
   refine aC aT (Cl.imp aT Cl.fin rfl) [.f,.t,.f,.t,.t,.t,.f,.f,.f,.f,.f,.f,.f,.f,.f,.f,.f,.f,.f,.f,.f,.f,.f,.f,.f,.f,.f,.f,.f,.f,.f,.f,.f,.f,.f,.f,.f,.f,.f,.f,.f,.f,.f,.f,.f,.f,.f,.f,.f,.f,.f,.f,.f,.f,.f,.f,.f,.f,.f,.f,.f,.f,.f,.f,.f,.f,.f] (fun j=>[(5,aa .i64 j)]) k (io (qa ls[k]) ls) rfl (by simp) (fun i hi _=> ?_) (fun _ hq=> ?_)
   ·have hi2:i<ls.length:=by omega
    simp +contextual (maxSteps:=9999999) [eB,io,qa,hi,hi2,hk,hx,XLock.e.eq_1 ls[i],aF hl hi2,aY hi,hD]
   ·rw[hD]at hq;cases hq
 ·simp(maxSteps:=9999999) [dF,hp]
def NH (l:List XApplied)(k:Nat):Bool:=match l[k]?,l[k-1]? with
 |some x,some y=> !(rg x.dev 1 1000000)||(!(rg x.seq 0 1000000)||(dA 0 k&& !(dA y.dev x.dev)))
 |_,_=>false
def wZ (s:XServer):Bool:= !(fA s.applied.length (NH s.applied))&&(!(fA s.changes.length (io (fun w=> !(In w)) s.changes))&&(lV s.store&&(s.store.name==sD&& !(dA 60 s.applied.length))))
theorem yU {s:XServer}(h:s.Ok maxLen):ag Ph aE 382 [s.v]=some (au (wZ s)):=by
 obtain⟨h1,⟨h2,h3⟩,h4,h5⟩:=h
 have e1:=nC h1
 have e2:=fun v=>aZ v 1 1000000
 have e3:=fun v=>aZ v 0 1000000
 unfold wZ
 refine ae (fn:=nh) rfl ?_
 simp +contextual (maxSteps:=9999999) [nh]
 refine aC aT Cl.fin [.f,.t,.f,.f,.f,.f,.f,.f,.t,.t,.t,.f,.f,.f,.f,.f,.f,.f,.f,.f,.f,.f,.f,.f,.f,.f,.f,.f,.f,.f,.f,.f,.f,.f,.f,.f,.f,.f,.f,.f,.f,.f,.f,.f,.f,.f,.f,.f,.f,.f,.f,.f,.f,.f,.f,.f,.f,.f,.f,.f,.f,.f,.f,.f,.f,.f,.f,.f] (fun k=>[(10,aa .i64 k)]) s.applied.length (NH s.applied) rfl (by simp) (fun k hk _=> ?_) (fun _ hp=> ?_)
 ·obtain⟨q1,q2⟩:=tN h2 hk
  simp +contextual (maxSteps:=9999999) [gE,NH,hk,q1,q2,e2,e3,aF h2 hk,aY hk,XApplied.e.eq_1 s.applied[k],XApplied.e.eq_1 s.applied[k-1]]
 ·simp(maxSteps:=9999999) [gE,hp]
  refine aC aT Cl.fin [.f,.t,.f,.f,.f,.f,.f,.f,.f,.f,.f,.f,.f,.f,.f,.f,.f,.f,.f,.f,.f,.f,.f,.f,.f,.f,.f,.f,.f,.f,.f,.f,.f,.f,.f,.f,.f,.f,.f,.f,.f,.f,.f,.t,.t,.t,.f,.f,.f,.f,.f,.f,.f,.f,.f,.f,.f,.f,.f,.f,.f,.f,.f,.f,.f,.f,.f,.f] (fun k=>[(45,aa .i64 k)]) s.changes.length (io (fun w=> !(In w)) s.changes) rfl (by simp) (fun k hk _=> ?_) (fun _ hp=> ?_)
  ·have e4:=mj (h5 _ (List.getElem_mem hk))
   simp +contextual (maxSteps:=9999999) [ja,io,hk,e4,aF h4 hk,aY hk,XWrite.e.eq_1 s.changes[k]]
  ·simp +contextual (maxSteps:=9999999) [ja,hp,e1,sD]
theorem zx {s:XServer}(h:s.Ok maxLen):ag Ph aE 376 [s.v]=some (au (wZ s)):=by
 obtain⟨h1,⟨h2,h3⟩,h4,h5⟩:=h
 have e1:=nD h1
 have e2:=fun v=>bq v 1 1000000
 have e3:=fun v=>bq v 0 1000000
 unfold wZ
 refine ae (fn:=nw) rfl ?_
 simp +contextual (maxSteps:=9999999) [nw]
 refine aC aT Cl.fin [.f,.t,.f,.t,.f,.f,.f,.f,.f,.f,.f,.f,.f,.f,.f,.f,.f,.f,.f,.f,.f,.f,.f,.f,.f,.f,.f,.f,.f,.f,.f,.f,.f,.f,.f,.f,.f,.f,.f,.f,.f,.f,.f,.f,.f,.f,.f,.f,.f,.f,.f,.f,.f,.f,.f,.f,.f,.f,.f,.f,.f,.f,.f,.f,.f,.f,.f,.f,.f,.f,.f,.f,.f,.f,.f,.f,.f,.f,.f] (fun k=>[(3,aa .i64 k)]) s.applied.length (NH s.applied) rfl (by simp) (fun k hk _=> ?_) (fun _ hp=> ?_)
 ·obtain⟨q1,q2⟩:=tN h2 hk
  simp +contextual (maxSteps:=9999999) [gF,NH,hk,q1,q2,e2,e3,aF h2 hk,aY hk,XApplied.e.eq_1 s.applied[k],XApplied.e.eq_1 s.applied[k-1]]
 ·simp(maxSteps:=9999999) [gF,hp]
  refine aC aT Cl.fin [.f,.t,.f,.f,.t,.f,.f,.f,.f,.f,.f,.f,.f,.f,.f,.f,.f,.f,.f,.f,.f,.f,.f,.f,.f,.f,.f,.f,.f,.f,.f,.f,.f,.f,.f,.f,.f,.f,.f,.f,.f,.f,.f,.f,.f,.f,.f,.f,.f,.f,.f,.f,.f,.f,.f,.f,.f,.f,.f,.f,.f,.f,.f,.f,.f,.f,.f,.f,.f,.f,.f,.f,.f,.f,.f,.f,.f,.f,.f] (fun k=>[(4,aa .i64 k)]) s.changes.length (io (fun w=> !(In w)) s.changes) rfl (by simp) (fun k hk _=> ?_) (fun _ hp=> ?_)
  ·have e4:=ml (h5 _ (List.getElem_mem hk))
   simp +contextual (maxSteps:=9999999) [je,io,hk,e4,aF h4 hk,aY hk,XWrite.e.eq_1 s.changes[k]]
  ·simp +contextual (maxSteps:=9999999) [je,hp,e1,sD]
def NJ (l:List (List UInt8))(k:Nat):Bool:=match l[k]?,l[k-1]? with
 |some x,some y=> !(cC x)||(dA 0 k&& !(Op.bytesLess y x))
 |_,_=>false
def qW (s:XSite):Bool:= !(fA s.files.length (NJ s.files))&&(cC s.name&&(rg s.version 1 1000000000000&&rg s.files.length 1 6))
theorem C6 {s:XSite}(h:s.Ok maxLen):ag Ph aE 381 [s.v]=some (au (qW s)):=by
 obtain⟨h1,_,h2,h3⟩:=h
 have e1:=bn h1
 unfold qW
 refine ae (fn:=pO) rfl ?_
 simp +contextual (maxSteps:=9999999) [pO]
 refine aC aT Cl.fin [.f,.t,.f,.f,.f,.f,.t,.t,.t,.f,.f,.f,.f,.f,.f,.f,.f,.f,.f,.f,.f,.f,.f,.f,.f,.f,.f,.f,.f,.f,.f,.f,.f,.f,.f,.f,.f,.f,.f,.f,.f,.f,.f,.f,.f] (fun k=>[(8,aa .i64 k)]) s.files.length (NJ s.files) rfl (by simp) (fun k hk _=> ?_) (fun _ hp=> ?_)
 ·obtain⟨q1,q2⟩:=tN h2 hk
  have e2:=bn (h3 _ (List.getElem_mem hk))
  simp +contextual (maxSteps:=9999999) [kh,NJ,hk,q1,q2,e2,aF h2 hk,aY hk,nI]
 ·simp +contextual (maxSteps:=9999999) [kh,hp,e1,aZ]
theorem DA {s:XSite}(h:s.Ok maxLen):ag Ph aE 375 [s.v]=some (au (qW s)):=by
 obtain⟨h1,_,h2,h3⟩:=h
 have e1:=co h1
 unfold qW
 refine ae (fn:=pS) rfl ?_
 simp +contextual (maxSteps:=9999999) [pS]
 refine aC aT Cl.fin [.f,.t,.f,.t,.f,.f,.f,.f,.f,.f,.f,.f,.f,.f,.f,.f,.f,.f,.f,.f,.f,.f,.f,.f,.f,.f,.f,.f,.f,.f,.f,.f,.f,.f,.f,.f,.f,.f,.f,.f,.f,.f,.f,.f,.f,.f,.f,.f,.f,.f] (fun k=>[(3,aa .i64 k)]) s.files.length (NJ s.files) rfl (by simp) (fun k hk _=> ?_) (fun _ hp=> ?_)
 ·obtain⟨q1,q2⟩:=tN h2 hk
  have e2:=co (h3 _ (List.getElem_mem hk))
  simp +contextual (maxSteps:=9999999) [ko,NJ,hk,q1,q2,e2,aF h2 hk,aY hk,nI]
 ·simp +contextual (maxSteps:=9999999) [ko,hp,e1,bq]
def qV (p:XPage):Bool:= !(fA p.loaded.length (io (fun x=> !(cC x.path)|| !(x.version==p.version)) p.loaded))&&(rg p.id 1 1000000000000&&(cC p.site&&(cC p.top&&(rg p.version 1 1000000000000&& !(dA 8 p.loaded.length)))))
theorem C5 {p:XPage}(h:p.Ok maxLen):ag Ph aE 151 [p.v]=some (au (qV p)):=by
 obtain⟨_,h1,h2,_,⟨h3,h4⟩,_⟩:=h
 have e1:=bn h1
 have e2:=bn h2
 unfold qV
 refine ae (fn:=pN) rfl ?_
 simp +contextual (maxSteps:=9999999) [pN]
 refine aC aT Cl.fin [.f,.t,.f,.f,.f,.f,.t,.t,.t,.f,.f,.f,.f,.f,.f,.f,.f,.f,.f,.f,.f,.f,.f,.f,.f,.f,.f,.f,.f,.f,.f,.f,.f,.f,.f,.f,.f,.f,.f,.f,.f,.f,.f,.f,.f,.f,.f,.f] (fun k=>[(8,aa .i64 k)]) p.loaded.length (io (fun x=> !(cC x.path)|| !(x.version==p.version)) p.loaded) rfl (by simp) (fun k hk _=> ?_) (fun _ hp=> ?_)
 ·have e3:=bn (h4 _ (List.getElem_mem hk)).1
  simp +contextual (maxSteps:=9999999) [kg,io,hk,e3,aF h3 hk,aY hk,XLoaded.e.eq_1 p.loaded[k]]
 ·simp +contextual (maxSteps:=9999999) [kg,hp,e1,e2,aZ]
theorem Dz {p:XPage}(h:p.Ok maxLen):ag Ph aE 149 [p.v]=some (au (qV p)):=by
 obtain⟨_,h1,h2,_,⟨h3,h4⟩,_⟩:=h
 have e1:=co h1
 have e2:=co h2
 unfold qV
 refine ae (fn:=pR) rfl ?_
 simp +contextual (maxSteps:=9999999) [pR]
 refine aC aT Cl.fin [.f,.t,.f,.t,.f,.f,.f,.f,.f,.f,.f,.f,.f,.f,.f,.f,.f,.f,.f,.f,.f,.f,.f,.f,.f,.f,.f,.f,.f,.f,.f,.f,.f,.f,.f,.f,.f,.f,.f,.f,.f,.f,.f,.f,.f,.f,.f,.f,.f,.f,.f,.f,.f,.f] (fun k=>[(3,aa .i64 k)]) p.loaded.length (io (fun x=> !(cC x.path)|| !(x.version==p.version)) p.loaded) rfl (by simp) (fun k hk _=> ?_) (fun _ hp=> ?_)
 ·have e3:=co (h4 _ (List.getElem_mem hk)).1
  simp +contextual (maxSteps:=9999999) [km,io,hk,e3,aF h3 hk,aY hk,XLoaded.e.eq_1 p.loaded[k]]
 ·simp +contextual (maxSteps:=9999999) [km,hp,e1,e2,bq]
end Gi
