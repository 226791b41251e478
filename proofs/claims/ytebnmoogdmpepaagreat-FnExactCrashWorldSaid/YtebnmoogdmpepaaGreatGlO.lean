/- Of this proof. -/
import Derived.Test.YtebnmoogdmpepaaGreatGkp
set_option linter.unusedSimpArgs false
set_option linter.unusedVariables false
namespace Gi
open Go Go.RowKit
set_option maxHeartbeats 8000000
set_option maxRecDepth 4000
attribute [local simp] start rB bj cf dG fp dF fo fx fw tJ tT tK tU tL tV tM tW tN tX tO tY tP tZ tQ t6 tR t7 V.cells plain bo gn isInt isStr isBool bin cC iT cD iU fq un asList L.view am V.view viewL aY ar cH bP bM comp aJ bH df bY bz bw bx bG bc ca aN bB aT aO bE cd bD bA bF V.flat L.flat dO di bv putAt thaw thawL thawT V.ow fv dK dL cE fu cF dJ freezeVs freezeLs freezeL V.mut L.mut aG ez ie aW bm aF dz bL bf bS L.ren aV dA ce dM bO bh wp_seq wp_block bt dP cI bR cJ wp_skip wp_exit wp_ret cA cy cP cB cW cX cV bX aM L.notArr aS aQ aR dN bp storeD aX fD br ct bd m9 L.mov L.closed V.closed PV.bare PV.flat
def BU (s t:List UInt8)(x:XCached):Bool:=x.site==s&&x.path==t
theorem lf {c:XCache}(h:c.entries.length≤maxLen)(s t:List UInt8):ah Ph au 333 [c.v,f9 s,f9 t]=some (aa .i64 (gu (BU s t) c.entries)):=by
 have e1:=Fj (e:=XCached.e) (p:=BU s t) (xs:=c.entries) (k:=346) (z:=7) (kc:=347) (caps:=[[.str s],[.str t]]) rfl h (fun _=>rfl) (fun x _=>by
  refine ae (fn:=nB) rfl ?_
  simp +contextual (maxSteps:=9999999) [nB,XCached.e.eq_1,ww,BU])
 refine ae (fn:=pJ) rfl ?_
 simp +contextual (maxSteps:=9999999) [pJ,mc,rH,e1]
def t8 (es:List XCached)(k:Nat):Bool:=match es[k]? with
 |some e=> !(dd e.site)||(!(dd e.path)||(!(qa e.resp)||gx k (iZ (BU e.site e.path) es)))
 |none=>false
def N9 (es:List XCached):Bool:= !(gx es.length (t8 es))&& !(cQ 12 es.length)
theorem vq {α:Type}{p:α→Bool}{xs:List α}{k:Nat}(hk:k<xs.length)(hs:p xs[k]=true):(!(gu p xs==(k:Int)))=gx k (iZ p xs):=by
 cases q:gx k (iZ p xs)with
 |false=>rw[xb hk (fun j hj=>Mj q hj) hs];simp
 |true=>
  rw[Yk,beq_eq_false_iff_ne]
  intro e
  unfold gx at q
  rw[List.any_eq_true]at q
  obtain⟨j,hj,h⟩:=q
  have hj:=List.mem_range.1 hj
  unfold gu at e
  cases h1:xs.findIdx? p with
  |none=>rw[h1]at e;simp only at e;omega
  |some i=>
   rw[h1]at e
   simp only at e
   obtain rfl:i=k:=by omega
   rw[Yg]at h1
   have h2:j<xs.length:=by omega
   have:=h1.2.2 j hj
   simp only[iZ,h2,Zr]at h
   exact this h
def OZ (cs:List XCache)(k:Nat):Bool:=match cs[k]?,cs[k-1]? with
 |some x,some y=> !(rg x.version 1 1000000000000)||((cQ 0 k&& !(cQ y.version x.version))|| !(N9 x.entries))
 |_,_=>false
def MP (cs:List XCache):Bool:= !(gx cs.length (OZ cs))&& !(cQ 4 cs.length)
theorem xK {es:List XCached}(hl:es.length≤maxLen)(h:∀e∈es,e.Ok maxLen):ah Ph au 399 [ba (es.map XCached.e)]=some (av (N9 es)):=by
 unfold N9
 refine ae (fn:=mK) rfl ?_
 simp +contextual (maxSteps:=9999999) [mK]
 refine aC aU Cl.fin [.t,.f,.f,.t,.f,.f,.f,.f,.f,.f,.f,.f,.f,.f,.f,.f,.f,.f,.f,.f,.f,.f,.f,.f,.f,.f,.f,.f,.f,.f,.f,.f,.f,.f,.f,.f,.f,.f,.f,.f,.f,.f,.f,.f,.f,.f,.f,.f,.f,.f,.f,.f,.f,.f,.f,.f,.f,.f,.f,.f,.f,.f,.f,.f,.f,.f,.f,.f] (fun k=>[(3,aa .i64 k)]) es.length (t8 es) rfl (by simp) (fun k hk _=> ?_) (fun _ hp=> ?_)
 ·have e1:=cN (h _ (Zg hk)).1
  have e2:=cN (h _ (Zg hk)).2.1
  have e3:=xH es[k].resp
  have hx:=XCached.e.eq_1 es[k]
  have hb:t8 es k=(!(dd es[k].site)||(!(dd es[k].path)||(!(qa es[k].resp)||gx k (iZ (BU es[k].site es[k].path) es)))):=by simp[t8,hk]
  rw[hb]
  generalize dd es[k].site=b1 at e1⊢
  generalize dd es[k].path=b2 at e2⊢
  generalize qa es[k].resp=b3 at e3⊢
  cases b1
  ·simp +contextual (maxSteps:=9999999) [dU,hk,hx,e1,aZ hk]
  cases b2
  ·simp +contextual (maxSteps:=9999999) [dU,hk,hx,e1,e2,aZ hk]
  cases b3
  ·simp +contextual (maxSteps:=9999999) [dU,hk,hx,e1,e2,e3,aZ hk]
  cases hD:gx k (iZ (BU es[k].site es[k].path) es)
  ·simp(maxSteps:=9999999) [dU,hk,hx,e1,e2,e3,aZ hk]
   refine aC aU Cl.kn [.t,.f,.f,.t,.t,.f,.f,.f,.f,.f,.f,.f,.f,.f,.f,.f,.f,.f,.f,.f,.f,.f,.f,.f,.f,.f,.f,.f,.f,.f,.f,.f,.f,.f,.f,.f,.f,.f,.f,.f,.f,.f,.f,.f,.f,.f,.f,.f,.f,.f,.f,.f,.f,.f,.f,.f,.f,.f,.f,.f,.f,.f,.f,.f,.f,.f,.f,.f] (fun j=>[(4,aa .i64 j)]) k (iZ (BU es[k].site es[k].path) es) rfl (by simp) (fun i hi _=> ?_) (fun _ hq=> ?_)
   ·have hi2:i<es.length:=by omega
    simp +contextual (maxSteps:=9999999) [fj,iZ,BU,hi,hi2,hk,hx,XCached.e.eq_1 es[i],aE hl hi2,aZ hi,hD]
   ·simp(maxSteps:=9999999) [fj,aE hl hk]
  ·simp(maxSteps:=9999999) [dU,hk,hx,e1,e2,e3,aZ hk]
   refine aC aU (Cl.imp aU Cl.fin rfl) [.t,.f,.f,.t,.t,.f,.f,.f,.f,.f,.f,.f,.f,.f,.f,.f,.f,.f,.f,.f,.f,.f,.f,.f,.f,.f,.f,.f,.f,.f,.f,.f,.f,.f,.f,.f,.f,.f,.f,.f,.f,.f,.f,.f,.f,.f,.f,.f,.f,.f,.f,.f,.f,.f,.f,.f,.f,.f,.f,.f,.f,.f,.f,.f,.f,.f,.f,.f] (fun j=>[(4,aa .i64 j)]) k (iZ (BU es[k].site es[k].path) es) rfl (by simp) (fun i hi _=> ?_) (fun _ hq=> ?_)
   ·have hi2:i<es.length:=by omega
    simp +contextual (maxSteps:=9999999) [fj,iZ,BU,hi,hi2,hk,hx,XCached.e.eq_1 es[i],aE hl hi2,aZ hi,hD]
   ·rw[hD]at hq;cases hq
 ·simp(maxSteps:=9999999) [dU,hp]
theorem xE {s:XCacheSet}(h:s.Ok maxLen):ah Ph au 392 [s.v]=some (av (MP s.caches)):=by
 obtain⟨h1,h2⟩:=h
 have e2:=fun v=>bK v 1 1000000000000
 unfold MP
 refine ae (fn:=mD) rfl ?_
 simp +contextual (maxSteps:=9999999) [mD]
 refine aC aU Cl.fin [.f,.t,.f,.t,.f,.f,.f,.f,.f,.f,.f,.f,.f,.f,.f,.f,.f,.f,.f,.f,.f,.f,.f,.f,.f,.f,.f,.f,.f,.f,.f,.f,.f,.f,.f,.f,.f,.f,.f,.f,.f,.f,.f,.f,.f,.f,.f,.f,.f,.f,.f,.f,.f] (fun k=>[(3,aa .i64 k)]) s.caches.length (OZ s.caches) rfl (by simp) (fun k hk _=> ?_) (fun _ hp=> ?_)
 ·obtain⟨q1,q2⟩:=vQ h1 hk
  have hc:=h2 _ (Zg hk)
  have e3:=xK hc.2.1 hc.2.2
  simp +contextual (maxSteps:=9999999) [iq,OZ,hk,q1,q2,e2,e3,aE h1 hk,aZ hk,XCache.e.eq_1 s.caches[k],XCache.e.eq_1 s.caches[k-1]]
 ·simp(maxSteps:=9999999) [iq,hp]
theorem xf {s:XCacheSet}(h:s.Ok maxLen):ah Ph au 396 [s.v]=some (av (MP s.caches)):=by
 obtain⟨h1,h2⟩:=h
 unfold MP
 refine ae (fn:=mj) rfl ?_
 simp +contextual (maxSteps:=9999999) [mj]
 refine aC aU Cl.fin [.f,.t,.f,.f,.f,.f,.f,.f,.t,.t,.t,.f,.f,.f,.f,.f,.f,.f,.f,.f,.f,.f,.f,.f,.f,.f,.f,.f,.f,.f,.f,.f,.f,.f,.f,.f,.f,.f,.f,.f,.f,.f,.f,.f,.f,.f,.f,.f,.f,.f,.f,.f,.f,.f,.f,.f,.f,.f,.f,.f,.f,.f,.f,.f,.f,.f,.f,.f,.f,.f,.f,.f,.f,.f,.f,.f,.f,.f,.f,.f,.f] (fun k=>[(10,aa .i64 k)]) s.caches.length (OZ s.caches) rfl (by simp) (fun k hk _=> ?_) (fun _ hp=> ?_)
 ·obtain⟨q1,q2⟩:=vQ h1 hk
  have hc:=h2 _ (Zg hk)
  have e2:=be s.caches[k].version 1 1000000000000
  have hx:=XCache.e.eq_1 s.caches[k]
  have hy:=XCache.e.eq_1 s.caches[k-1]
  have hb:OZ s.caches k=(!(rg s.caches[k].version 1 1000000000000)||((cQ 0 k&& !(cQ s.caches[k-1].version s.caches[k].version))||(cQ 12 s.caches[k].entries.length||gx s.caches[k].entries.length (t8 s.caches[k].entries)))):=by
   simp only[OZ,hk,q2,Zr,N9,Bool.not_and,Bool.not_not]
   rw[Bool.or_comm (cQ 12 _)]
  rw[hb]
  generalize rg s.caches[k].version 1 1000000000000=b1 at e2⊢
  cases b1
  ·simp +contextual (maxSteps:=9999999) [cT,hk,hx,e2,aZ hk]
  cases c2:cQ 0 k&& !(cQ s.caches[k-1].version s.caches[k].version)
  rotate_left
  ·rw[Zm]at c2
   have c3:=q1 c2.1
   have c4:cQ s.caches[k-1].version s.caches[k].version=false:=by simpa using c2.2
   simp +contextual (maxSteps:=9999999) [cT,hk,q2,hx,hy,e2,c2.1,c3,c4,aZ hk]
  have c3:cQ 0 k=true→cQ s.caches[k-1].version s.caches[k].version=true:=fun q=>by simpa[q]using c2
  cases c4:cQ 12 s.caches[k].entries.length
  rotate_left
  ·simp +contextual (maxSteps:=9999999) [cT,hk,q1,q2,hx,hy,e2,c3,c4,aZ hk]
  cases hD:gx s.caches[k].entries.length (t8 s.caches[k].entries)
  ·cases c5:cQ 0 k
   ·simp(maxSteps:=9999999) [cT,hk,hx,e2,c5,c4,aZ hk]
    refine aC aU Cl.kn [.f,.t,.f,.f,.t,.f,.f,.f,.t,.t,.t,.f,.f,.f,.f,.f,.f,.f,.f,.f,.f,.f,.f,.f,.f,.f,.f,.f,.f,.f,.f,.f,.f,.f,.f,.f,.f,.f,.f,.f,.f,.f,.t,.t,.t,.f,.f,.f,.f,.f,.f,.f,.f,.f,.f,.f,.f,.f,.f,.f,.f,.f,.f,.f,.f,.f,.f,.f,.f,.f,.f,.f,.f,.f,.f,.f,.f,.f,.f,.f,.f] (fun j=>[(44,aa .i64 j)]) s.caches[k].entries.length (t8 s.caches[k].entries) rfl (by simp) (fun j hj _=> ?_) (fun _ hq=> ?_)
    ·have he:=hc.2.2 _ (Zg hj)
     have e4:=bC he.1
     have e5:=bC he.2.1
     have e6:=jj s.caches[k].entries[j].resp
     have e7:=lf (c:=s.caches[k]) hc.2.1 s.caches[k].entries[j].site s.caches[k].entries[j].path
     have hs:=vq (p:=BU s.caches[k].entries[j].site s.caches[k].entries[j].path) hj (by simp[BU])
     have hz:=XCached.e.eq_1 s.caches[k].entries[j]
     have hbE:t8 s.caches[k].entries j=(!(dd s.caches[k].entries[j].site)||(!(dd s.caches[k].entries[j].path)||(!(qa s.caches[k].entries[j].resp)||gx j (iZ (BU s.caches[k].entries[j].site s.caches[k].entries[j].path) s.caches[k].entries)))):=by simp[t8,hj]
     rw[hbE,←hs]
     generalize gu (BU s.caches[k].entries[j].site s.caches[k].entries[j].path) s.caches[k].entries=F at e7⊢
     obtain⟨g,hg⟩:∃g,(F==(j:Int))=g:=⟨_,rfl⟩
     rw[hg]
     simp +contextual (maxSteps:=9999999) [dq,hj,hz,e4,e5,e6,e7,hg,aE hc.2.1 hj,aZ hj,hD]
    ·simp(maxSteps:=9999999) [dq,aE h1 hk]
   ·have c6:=q1 c5
    have c7:=c3 c5
    simp(maxSteps:=9999999) [cT,hk,q2,hx,hy,e2,c5,c6,c7,c4,aZ hk]
    refine aC aU Cl.kn [.f,.t,.f,.f,.t,.f,.f,.f,.t,.t,.t,.f,.f,.f,.f,.f,.f,.f,.f,.f,.f,.f,.f,.f,.f,.f,.f,.f,.f,.f,.f,.f,.f,.f,.f,.f,.f,.f,.f,.f,.f,.f,.t,.t,.t,.f,.f,.f,.f,.f,.f,.f,.f,.f,.f,.f,.f,.f,.f,.f,.f,.f,.f,.f,.f,.f,.f,.f,.f,.f,.f,.f,.f,.f,.f,.f,.f,.f,.f,.f,.f] (fun j=>[(44,aa .i64 j)]) s.caches[k].entries.length (t8 s.caches[k].entries) rfl (by simp) (fun j hj _=> ?_) (fun _ hq=> ?_)
    ·have he:=hc.2.2 _ (Zg hj)
     have e4:=bC he.1
     have e5:=bC he.2.1
     have e6:=jj s.caches[k].entries[j].resp
     have e7:=lf (c:=s.caches[k]) hc.2.1 s.caches[k].entries[j].site s.caches[k].entries[j].path
     have hs:=vq (p:=BU s.caches[k].entries[j].site s.caches[k].entries[j].path) hj (by simp[BU])
     have hz:=XCached.e.eq_1 s.caches[k].entries[j]
     have hbE:t8 s.caches[k].entries j=(!(dd s.caches[k].entries[j].site)||(!(dd s.caches[k].entries[j].path)||(!(qa s.caches[k].entries[j].resp)||gx j (iZ (BU s.caches[k].entries[j].site s.caches[k].entries[j].path) s.caches[k].entries)))):=by simp[t8,hj]
     rw[hbE,←hs]
     generalize gu (BU s.caches[k].entries[j].site s.caches[k].entries[j].path) s.caches[k].entries=F at e7⊢
     obtain⟨g,hg⟩:∃g,(F==(j:Int))=g:=⟨_,rfl⟩
     rw[hg]
     simp +contextual (maxSteps:=9999999) [dq,hj,hz,e4,e5,e6,e7,hg,aE hc.2.1 hj,aZ hj,hD]
    ·simp(maxSteps:=9999999) [dq,aE h1 hk]
  ·cases c5:cQ 0 k
   ·simp(maxSteps:=9999999) [cT,hk,hx,e2,c5,c4,aZ hk]
    refine aC aU (Cl.imp aU Cl.fin rfl) [.f,.t,.f,.f,.t,.f,.f,.f,.t,.t,.t,.f,.f,.f,.f,.f,.f,.f,.f,.f,.f,.f,.f,.f,.f,.f,.f,.f,.f,.f,.f,.f,.f,.f,.f,.f,.f,.f,.f,.f,.f,.f,.t,.t,.t,.f,.f,.f,.f,.f,.f,.f,.f,.f,.f,.f,.f,.f,.f,.f,.f,.f,.f,.f,.f,.f,.f,.f,.f,.f,.f,.f,.f,.f,.f,.f,.f,.f,.f,.f,.f] (fun j=>[(44,aa .i64 j)]) s.caches[k].entries.length (t8 s.caches[k].entries) rfl (by simp) (fun j hj _=> ?_) (fun _ hq=> ?_)
    ·have he:=hc.2.2 _ (Zg hj)
     have e4:=bC he.1
     have e5:=bC he.2.1
     have e6:=jj s.caches[k].entries[j].resp
     have e7:=lf (c:=s.caches[k]) hc.2.1 s.caches[k].entries[j].site s.caches[k].entries[j].path
     have hs:=vq (p:=BU s.caches[k].entries[j].site s.caches[k].entries[j].path) hj (by simp[BU])
     have hz:=XCached.e.eq_1 s.caches[k].entries[j]
     have hbE:t8 s.caches[k].entries j=(!(dd s.caches[k].entries[j].site)||(!(dd s.caches[k].entries[j].path)||(!(qa s.caches[k].entries[j].resp)||gx j (iZ (BU s.caches[k].entries[j].site s.caches[k].entries[j].path) s.caches[k].entries)))):=by simp[t8,hj]
     rw[hbE,←hs]
     generalize gu (BU s.caches[k].entries[j].site s.caches[k].entries[j].path) s.caches[k].entries=F at e7⊢
     obtain⟨g,hg⟩:∃g,(F==(j:Int))=g:=⟨_,rfl⟩
     rw[hg]
     simp +contextual (maxSteps:=9999999) [dq,hj,hz,e4,e5,e6,e7,hg,aE hc.2.1 hj,aZ hj,hD]
    ·rw[hD]at hq;cases hq
   ·have c6:=q1 c5
    have c7:=c3 c5
    simp(maxSteps:=9999999) [cT,hk,q2,hx,hy,e2,c5,c6,c7,c4,aZ hk]
    refine aC aU (Cl.imp aU Cl.fin rfl) [.f,.t,.f,.f,.t,.f,.f,.f,.t,.t,.t,.f,.f,.f,.f,.f,.f,.f,.f,.f,.f,.f,.f,.f,.f,.f,.f,.f,.f,.f,.f,.f,.f,.f,.f,.f,.f,.f,.f,.f,.f,.f,.t,.t,.t,.f,.f,.f,.f,.f,.f,.f,.f,.f,.f,.f,.f,.f,.f,.f,.f,.f,.f,.f,.f,.f,.f,.f,.f,.f,.f,.f,.f,.f,.f,.f,.f,.f,.f,.f,.f] (fun j=>[(44,aa .i64 j)]) s.caches[k].entries.length (t8 s.caches[k].entries) rfl (by simp) (fun j hj _=> ?_) (fun _ hq=> ?_)
    ·have he:=hc.2.2 _ (Zg hj)
     have e4:=bC he.1
     have e5:=bC he.2.1
     have e6:=jj s.caches[k].entries[j].resp
     have e7:=lf (c:=s.caches[k]) hc.2.1 s.caches[k].entries[j].site s.caches[k].entries[j].path
     have hs:=vq (p:=BU s.caches[k].entries[j].site s.caches[k].entries[j].path) hj (by simp[BU])
     have hz:=XCached.e.eq_1 s.caches[k].entries[j]
     have hbE:t8 s.caches[k].entries j=(!(dd s.caches[k].entries[j].site)||(!(dd s.caches[k].entries[j].path)||(!(qa s.caches[k].entries[j].resp)||gx j (iZ (BU s.caches[k].entries[j].site s.caches[k].entries[j].path) s.caches[k].entries)))):=by simp[t8,hj]
     rw[hbE,←hs]
     generalize gu (BU s.caches[k].entries[j].site s.caches[k].entries[j].path) s.caches[k].entries=F at e7⊢
     obtain⟨g,hg⟩:∃g,(F==(j:Int))=g:=⟨_,rfl⟩
     rw[hg]
     simp +contextual (maxSteps:=9999999) [dq,hj,hz,e4,e5,e6,e7,hg,aE hc.2.1 hj,aZ hj,hD]
    ·rw[hD]at hq;cases hq
 ·simp(maxSteps:=9999999) [cT,hp]
def QX (o:XOutbox)(k:Nat):Bool:=match o.writes[k]? with
 |some w=> !(K2 w)||(!(w.dev==o.dev)|| !(w.seq==IntKind.i64.wrap (IntKind.i64.wrap (o.next-(o.writes.length:Int))+(k:Int))))
 |none=>false
def BV (o:XOutbox):Bool:=rg o.dev 1 1000000&&(rg o.next 1 1000000&&(!(cQ 20 o.writes.length)&& !(gx o.writes.length (QX o))))
theorem A7 {o:XOutbox}(h:o.Ok maxLen):ah Ph au 407 [o.v]=some (av (BV o)):=by
 have hl:=h.2.2.1
 refine ae (fn:=oD) rfl ?_
 simp +contextual (maxSteps:=9999999) [oD]
 refine aC aU Cl.fin [.f,.t,.f,.t,.f,.f,.f,.f,.f,.f,.t,.t,.t,.f,.f,.f,.f,.f,.f,.f,.f,.f,.f,.f,.f,.f,.f,.f,.f,.f,.f,.f,.f,.f,.f,.f,.f,.f,.f,.f,.f,.f,.f,.f,.f,.f,.f,.f,.f,.f,.f] (fun k=>[(12,aa .i64 k)]) o.writes.length (QX o) rfl (by simp) (fun k hk _=> ?_) (fun _ hp=> ?_)
 ·have e1:=m6 (h.2.2.2 _ (Zg hk))
  simp +contextual (maxSteps:=9999999) [jD,QX,BV,hk,e1,aE hl hk,aZ hk,XWrite.e.eq_1 o.writes[k]]
 ·simp +contextual (maxSteps:=9999999) [jD,hp,BV,be]
theorem Bw {o:XOutbox}(h:o.Ok maxLen):ah Ph au 402 [o.v]=some (av (BV o)):=by
 have hl:=h.2.2.1
 have e2:=bK o.dev 1 1000000
 have e3:=bK o.next 1 1000000
 unfold BV
 refine ae (fn:=gV) rfl ?_
 cases c1:rg o.dev 1 1000000<;>rw[c1]at e2
 ·simp(maxSteps:=9999999) [gV,e2]
 cases c2:rg o.next 1 1000000<;>rw[c2]at e3
 ·simp(maxSteps:=9999999) [gV,e2,e3]
 cases c3:cQ 20 o.writes.length
 rotate_left
 ·simp(maxSteps:=9999999) [gV,e2,e3,c3]
 simp(maxSteps:=9999999) [gV,e2,e3,c3]
 refine aC aU Cl.fin [.f,.t,.f,.t,.t,.f,.f,.f,.f,.f,.f,.f,.f,.f,.f,.f,.f,.f,.f,.f,.f,.f,.f,.f,.f,.f,.f,.f,.f,.f,.f,.f,.f,.f,.f,.f,.f,.f,.f,.f,.f,.f,.f,.f,.f,.f,.f,.f,.f,.f,.f,.f,.f,.f,.f,.f,.f,.f,.f,.f] (fun k=>[(4,aa .i64 k)]) o.writes.length (QX o) rfl (by simp) (fun k hk _=> ?_) (fun _ hp=> ?_)
 ·have e1:=m7 (h.2.2.2 _ (Zg hk))
  simp +contextual (maxSteps:=9999999) [jH,QX,hk,e1,aE hl hk,aZ hk,XWrite.e.eq_1 o.writes[k]]
 ·simp +contextual (maxSteps:=9999999) [jH,hp]
def uM :List UInt8:=[110,111,116,101,115]
def Fi (r:XReplica):Bool:=mO r.base&&(r.base.name==uM&&(rg r.seen 0 1000000000000&&BV r.sync.outbox))
theorem yQ {r:XReplica}(h:r.Ok maxLen):ah Ph au 398 [r.v]=some (av (Fi r)):=by
 have e1:=oW h.1
 have e2:=be r.seen 0 1000000000000
 have e3:=A7 h.2.2.1
 unfold Fi
 generalize mO r.base=b1 at e1⊢
 generalize rg r.seen 0 1000000000000=b2 at e2⊢
 generalize BV r.sync.outbox=b3 at e3⊢
 obtain⟨b4,h4⟩:∃g,(r.base.name==uM)=g:=⟨_,rfl⟩
 rw[h4]
 unfold uM at h4
 refine ae (fn:=nn) rfl ?_
 cases b1<;>cases b2<;>cases b3<;>cases b4<;>simp(maxSteps:=9999999) [nn,e1,e2,e3,h4]
theorem zB {r:XReplica}(h:r.Ok maxLen):ah Ph au 394 [r.v]=some (av (Fi r)):=by
 have e1:=oY h.1
 have e2:=bK r.seen 0 1000000000000
 have e3:=Bw h.2.2.1
 unfold Fi
 generalize mO r.base=b1 at e1⊢
 generalize rg r.seen 0 1000000000000=b2 at e2⊢
 generalize BV r.sync.outbox=b3 at e3⊢
 obtain⟨b4,h4⟩:∃g,(r.base.name==uM)=g:=⟨_,rfl⟩
 rw[h4]
 unfold uM at h4
 refine ae (fn:=nH) rfl ?_
 cases b1<;>cases b2<;>cases b3<;>cases b4<;>simp(maxSteps:=9999999) [nH,e1,e2,e3,h4]
def rJ (x y:XLock):Bool:=y.name==x.name&&(x.held&&(!y.held||(!x.shared|| !y.shared)))
def Mn (ls:List XLock)(k:Nat):Bool:=match ls[k]? with
 |some x=> !(sW x.name)||(!(rg x.page 1 1000000000000)||gx k (iZ (rJ x) ls))
 |none=>false
def sX (ls:List XLock):Bool:= !(gx ls.length (Mn ls))&& !(cQ 12 ls.length)
theorem vI {ls:List XLock}(hl:ls.length≤maxLen)(h:∀x∈ls,x.Ok maxLen):ah Ph au 380 [.agg [.pv (.lst (ls.map XLock.e))]]=some (av (sX ls)):=by
 unfold sX
 refine ae (fn:=lB) rfl ?_
 simp +contextual (maxSteps:=9999999) [lB]
 refine aC aU Cl.fin [.f,.t,.f,.f,.f,.f,.f,.f,.t,.t,.t,.f,.f,.f,.f,.f,.f,.f,.f,.f,.f,.f,.f,.f,.f,.f,.f,.f,.f,.f,.f,.f,.f,.f,.f,.f,.f,.f,.f,.f,.f,.f,.f,.f,.f,.f,.f,.f,.f,.f,.f,.f,.f,.f,.f,.f,.f,.f,.f,.f,.f,.f,.f,.f] (fun k=>[(10,aa .i64 k)]) ls.length (Mn ls) rfl (by simp) (fun k hk _=> ?_) (fun _ hp=> ?_)
 ·have e1:=xh (h _ (Zg hk)).1
  have e2:=be ls[k].page 1 1000000000000
  have hx:=XLock.e.eq_1 ls[k]
  have w:=dQ (e:=XLock.e) (z:=4) (fun _=>rfl) ls
  have hb:Mn ls k=(!(sW ls[k].name)||(!(rg ls[k].page 1 1000000000000)||gx k (iZ (rJ ls[k]) ls))):=by simp[Mn,hk]
  rw[hb]
  generalize sW ls[k].name=b1 at e1⊢
  generalize rg ls[k].page 1 1000000000000=b2 at e2⊢
  cases b1
  ·simp +contextual (maxSteps:=9999999) [dZ,hk,hx,e1,aZ hk]
  cases b2
  ·simp +contextual (maxSteps:=9999999) [dZ,hk,hx,e1,e2,aZ hk]
  cases hD:gx k (iZ (rJ ls[k]) ls)
  ·simp(maxSteps:=9999999) [dZ,hk,hx,e1,e2,w,Xc hk,aZ hk]
   refine aC aU Cl.kn [.f,.t,.f,.f,.t,.f,.f,.f,.t,.t,.t,.f,.f,.f,.f,.f,.f,.f,.f,.f,.f,.f,.f,.f,.f,.f,.f,.f,.t,.t,.t,.f,.f,.f,.f,.f,.f,.f,.f,.f,.f,.f,.f,.f,.f,.f,.f,.f,.f,.f,.f,.f,.f,.f,.f,.f,.f,.f,.f,.f,.f,.f,.f,.f] (fun j=>[(30,aa .i64 j)]) k (iZ (rJ ls[k]) ls) rfl (by simp) (fun i hi _=> ?_) (fun _ hq=> ?_)
   ·have hi2:i<ls.length:=by omega
    simp +contextual (maxSteps:=9999999) [eK,iZ,rJ,hi,hi2,hk,hx,XLock.e.eq_1 ls[i],aE hl hi2,aZ hi,hD]
   ·simp(maxSteps:=9999999) [eK,aE hl hk]
  ·simp(maxSteps:=9999999) [dZ,hk,hx,e1,e2,w,Xc hk,aZ hk]
   refine aC aU (Cl.imp aU Cl.fin rfl) [.f,.t,.f,.f,.t,.f,.f,.f,.t,.t,.t,.f,.f,.f,.f,.f,.f,.f,.f,.f,.f,.f,.f,.f,.f,.f,.f,.f,.t,.t,.t,.f,.f,.f,.f,.f,.f,.f,.f,.f,.f,.f,.f,.f,.f,.f,.f,.f,.f,.f,.f,.f,.f,.f,.f,.f,.f,.f,.f,.f,.f,.f,.f,.f] (fun j=>[(30,aa .i64 j)]) k (iZ (rJ ls[k]) ls) rfl (by simp) (fun i hi _=> ?_) (fun _ hq=> ?_)
   ·have hi2:i<ls.length:=by omega
    simp +contextual (maxSteps:=9999999) [eK,iZ,rJ,hi,hi2,hk,hx,XLock.e.eq_1 ls[i],aE hl hi2,aZ hi,hD]
   ·rw[hD]at hq;cases hq
 ·simp(maxSteps:=9999999) [dZ,hp]
theorem vU {ls:List XLock}(hl:ls.length≤maxLen)(h:∀x∈ls,x.Ok maxLen):ah Ph au 378 [.agg [.pv (.lst (ls.map XLock.e))]]=some (av (sX ls)):=by
 unfold sX
 refine ae (fn:=lP) rfl ?_
 simp +contextual (maxSteps:=9999999) [lP]
 refine aC aU Cl.fin [.f,.t,.f,.t,.f,.f,.f,.f,.f,.f,.f,.f,.f,.f,.f,.f,.f,.f,.f,.f,.f,.f,.f,.f,.f,.f,.f,.f,.f,.f,.f,.f,.f,.f,.f,.f,.f,.f,.f,.f,.f,.f,.f,.f,.f,.f,.f,.f,.f,.f,.f,.f,.f,.f,.f,.f,.f,.f,.f,.f,.f,.f,.f,.f,.f,.f,.f] (fun k=>[(3,aa .i64 k)]) ls.length (Mn ls) rfl (by simp) (fun k hk _=> ?_) (fun _ hp=> ?_)
 ·have e1:=xG (h _ (Zg hk)).1
  have e2:=bK ls[k].page 1 1000000000000
  have hx:=XLock.e.eq_1 ls[k]
  have hb:Mn ls k=(!(sW ls[k].name)||(!(rg ls[k].page 1 1000000000000)||gx k (iZ (rJ ls[k]) ls))):=by simp[Mn,hk]
  rw[hb]
  generalize sW ls[k].name=b1 at e1⊢
  generalize rg ls[k].page 1 1000000000000=b2 at e2⊢
  cases b1
  ·simp +contextual (maxSteps:=9999999) [ee,hk,hx,e1,aZ hk]
  cases b2
  ·simp +contextual (maxSteps:=9999999) [ee,hk,hx,e1,e2,aZ hk]
  cases hD:gx k (iZ (rJ ls[k]) ls)
  ·simp(maxSteps:=9999999) [ee,hk,hx,e1,e2,aZ hk]
   refine aC aU Cl.kn [.f,.t,.f,.t,.t,.t,.f,.f,.f,.f,.f,.f,.f,.f,.f,.f,.f,.f,.f,.f,.f,.f,.f,.f,.f,.f,.f,.f,.f,.f,.f,.f,.f,.f,.f,.f,.f,.f,.f,.f,.f,.f,.f,.f,.f,.f,.f,.f,.f,.f,.f,.f,.f,.f,.f,.f,.f,.f,.f,.f,.f,.f,.f,.f,.f,.f,.f] (fun j=>[(5,aa .i64 j)]) k (iZ (rJ ls[k]) ls) rfl (by simp) (fun i hi _=> ?_) (fun _ hq=> ?_)
   ·have hi2:i<ls.length:=by omega
    simp +contextual (maxSteps:=9999999) [eP,iZ,rJ,hi,hi2,hk,hx,XLock.e.eq_1 ls[i],aE hl hi2,aZ hi,hD]
   ·simp(maxSteps:=9999999) [eP,aE hl hk]
  ·simp(maxSteps:=9999999) [ee,hk,hx,e1,e2,aZ hk]
   refine aC aU (Cl.imp aU Cl.fin rfl) [.f,.t,.f,.t,.t,.t,.f,.f,.f,.f,.f,.f,.f,.f,.f,.f,.f,.f,.f,.f,.f,.f,.f,.f,.f,.f,.f,.f,.f,.f,.f,.f,.f,.f,.f,.f,.f,.f,.f,.f,.f,.f,.f,.f,.f,.f,.f,.f,.f,.f,.f,.f,.f,.f,.f,.f,.f,.f,.f,.f,.f,.f,.f,.f,.f,.f,.f] (fun j=>[(5,aa .i64 j)]) k (iZ (rJ ls[k]) ls) rfl (by simp) (fun i hi _=> ?_) (fun _ hq=> ?_)
   ·have hi2:i<ls.length:=by omega
    simp +contextual (maxSteps:=9999999) [eP,iZ,rJ,hi,hi2,hk,hx,XLock.e.eq_1 ls[i],aE hl hi2,aZ hi,hD]
   ·rw[hD]at hq;cases hq
 ·simp(maxSteps:=9999999) [ee,hp]
def QU (l:List XApplied)(k:Nat):Bool:=match l[k]?,l[k-1]? with
 |some x,some y=> !(rg x.dev 1 1000000)||(!(rg x.seq 0 1000000)||(cQ 0 k&& !(cQ y.dev x.dev)))
 |_,_=>false
def yW (s:XServer):Bool:= !(gx s.applied.length (QU s.applied))&&(!(gx s.changes.length (iZ (fun w=> !(K2 w)) s.changes))&&(mO s.store&&(s.store.name==uM&& !(cQ 60 s.applied.length))))
theorem A8 {s:XServer}(h:s.Ok maxLen):ah Ph au 382 [s.v]=some (av (yW s)):=by
 obtain⟨h1,⟨h2,h3⟩,h4,h5⟩:=h
 have e1:=oW h1
 have e2:=fun v=>be v 1 1000000
 have e3:=fun v=>be v 0 1000000
 unfold yW
 refine ae (fn:=oF) rfl ?_
 simp +contextual (maxSteps:=9999999) [oF]
 refine aC aU Cl.fin [.f,.t,.f,.f,.f,.f,.f,.f,.t,.t,.t,.f,.f,.f,.f,.f,.f,.f,.f,.f,.f,.f,.f,.f,.f,.f,.f,.f,.f,.f,.f,.f,.f,.f,.f,.f,.f,.f,.f,.f,.f,.f,.f,.f,.f,.f,.f,.f,.f,.f,.f,.f,.f,.f,.f,.f,.f,.f,.f,.f,.f,.f,.f,.f,.f,.f,.f,.f] (fun k=>[(10,aa .i64 k)]) s.applied.length (QU s.applied) rfl (by simp) (fun k hk _=> ?_) (fun _ hp=> ?_)
 ·obtain⟨q1,q2⟩:=vQ h2 hk
  simp +contextual (maxSteps:=9999999) [gZ,QU,hk,q1,q2,e2,e3,aE h2 hk,aZ hk,XApplied.e.eq_1 s.applied[k],XApplied.e.eq_1 s.applied[k-1]]
 ·simp(maxSteps:=9999999) [gZ,hp]
  refine aC aU Cl.fin [.f,.t,.f,.f,.f,.f,.f,.f,.f,.f,.f,.f,.f,.f,.f,.f,.f,.f,.f,.f,.f,.f,.f,.f,.f,.f,.f,.f,.f,.f,.f,.f,.f,.f,.f,.f,.f,.f,.f,.f,.f,.f,.f,.t,.t,.t,.f,.f,.f,.f,.f,.f,.f,.f,.f,.f,.f,.f,.f,.f,.f,.f,.f,.f,.f,.f,.f,.f] (fun k=>[(45,aa .i64 k)]) s.changes.length (iZ (fun w=> !(K2 w)) s.changes) rfl (by simp) (fun k hk _=> ?_) (fun _ hp=> ?_)
  ·have e4:=m6 (h5 _ (Zg hk))
   simp +contextual (maxSteps:=9999999) [jF,iZ,hk,e4,aE h4 hk,aZ hk,XWrite.e.eq_1 s.changes[k]]
  ·simp +contextual (maxSteps:=9999999) [jF,hp,e1,uM]
theorem Bx {s:XServer}(h:s.Ok maxLen):ah Ph au 376 [s.v]=some (av (yW s)):=by
 obtain⟨h1,⟨h2,h3⟩,h4,h5⟩:=h
 have e1:=oY h1
 have e2:=fun v=>bK v 1 1000000
 have e3:=fun v=>bK v 0 1000000
 unfold yW
 refine ae (fn:=oR) rfl ?_
 simp +contextual (maxSteps:=9999999) [oR]
 refine aC aU Cl.fin [.f,.t,.f,.t,.f,.f,.f,.f,.f,.f,.f,.f,.f,.f,.f,.f,.f,.f,.f,.f,.f,.f,.f,.f,.f,.f,.f,.f,.f,.f,.f,.f,.f,.f,.f,.f,.f,.f,.f,.f,.f,.f,.f,.f,.f,.f,.f,.f,.f,.f,.f,.f,.f,.f,.f,.f,.f,.f,.f,.f,.f,.f,.f,.f,.f,.f,.f,.f,.f,.f,.f,.f,.f,.f,.f,.f,.f,.f,.f] (fun k=>[(3,aa .i64 k)]) s.applied.length (QU s.applied) rfl (by simp) (fun k hk _=> ?_) (fun _ hp=> ?_)
 ·obtain⟨q1,q2⟩:=vQ h2 hk
  simp +contextual (maxSteps:=9999999) [hI,QU,hk,q1,q2,e2,e3,aE h2 hk,aZ hk,XApplied.e.eq_1 s.applied[k],XApplied.e.eq_1 s.applied[k-1]]
 ·simp(maxSteps:=9999999) [hI,hp]
  refine aC aU Cl.fin [.f,.t,.f,.f,.t,.f,.f,.f,.f,.f,.f,.f,.f,.f,.f,.f,.f,.f,.f,.f,.f,.f,.f,.f,.f,.f,.f,.f,.f,.f,.f,.f,.f,.f,.f,.f,.f,.f,.f,.f,.f,.f,.f,.f,.f,.f,.f,.f,.f,.f,.f,.f,.f,.f,.f,.f,.f,.f,.f,.f,.f,.f,.f,.f,.f,.f,.f,.f,.f,.f,.f,.f,.f,.f,.f,.f,.f,.f,.f] (fun k=>[(4,aa .i64 k)]) s.changes.length (iZ (fun w=> !(K2 w)) s.changes) rfl (by simp) (fun k hk _=> ?_) (fun _ hp=> ?_)
  ·have e4:=m7 (h5 _ (Zg hk))
   simp +contextual (maxSteps:=9999999) [jJ,iZ,hk,e4,aE h4 hk,aZ hk,XWrite.e.eq_1 s.changes[k]]
  ·simp +contextual (maxSteps:=9999999) [jJ,hp,e1,uM]
def QW (l:List (List UInt8))(k:Nat):Bool:=match l[k]?,l[k-1]? with
 |some x,some y=> !(dd x)||(cQ 0 k&& !(Op.bytesLess y x))
 |_,_=>false
def sZ (s:XSite):Bool:= !(gx s.files.length (QW s.files))&&(dd s.name&&(rg s.version 1 1000000000000&&rg s.files.length 1 6))
theorem Fe {s:XSite}(h:s.Ok maxLen):ah Ph au 381 [s.v]=some (av (sZ s)):=by
 obtain⟨h1,_,h2,h3⟩:=h
 have e1:=bC h1
 unfold sZ
 refine ae (fn:=qU) rfl ?_
 simp +contextual (maxSteps:=9999999) [qU]
 refine aC aU Cl.fin [.f,.t,.f,.f,.f,.f,.t,.t,.t,.f,.f,.f,.f,.f,.f,.f,.f,.f,.f,.f,.f,.f,.f,.f,.f,.f,.f,.f,.f,.f,.f,.f,.f,.f,.f,.f,.f,.f,.f,.f,.f,.f,.f,.f,.f] (fun k=>[(8,aa .i64 k)]) s.files.length (QW s.files) rfl (by simp) (fun k hk _=> ?_) (fun _ hp=> ?_)
 ·obtain⟨q1,q2⟩:=vQ h2 hk
  have e2:=bC (h3 _ (Zg hk))
  simp +contextual (maxSteps:=9999999) [kX,QW,hk,q1,q2,e2,aE h2 hk,aZ hk,xA]
 ·simp +contextual (maxSteps:=9999999) [kX,hp,e1,be]
theorem FM {s:XSite}(h:s.Ok maxLen):ah Ph au 375 [s.v]=some (av (sZ s)):=by
 obtain⟨h1,_,h2,h3⟩:=h
 have e1:=cN h1
 unfold sZ
 refine ae (fn:=qY) rfl ?_
 simp +contextual (maxSteps:=9999999) [qY]
 refine aC aU Cl.fin [.f,.t,.f,.t,.f,.f,.f,.f,.f,.f,.f,.f,.f,.f,.f,.f,.f,.f,.f,.f,.f,.f,.f,.f,.f,.f,.f,.f,.f,.f,.f,.f,.f,.f,.f,.f,.f,.f,.f,.f,.f,.f,.f,.f,.f,.f,.f,.f,.f,.f] (fun k=>[(3,aa .i64 k)]) s.files.length (QW s.files) rfl (by simp) (fun k hk _=> ?_) (fun _ hp=> ?_)
 ·obtain⟨q1,q2⟩:=vQ h2 hk
  have e2:=cN (h3 _ (Zg hk))
  simp +contextual (maxSteps:=9999999) [k7,QW,hk,q1,q2,e2,aE h2 hk,aZ hk,xA]
 ·simp +contextual (maxSteps:=9999999) [k7,hp,e1,bK]
def sY (p:XPage):Bool:= !(gx p.loaded.length (iZ (fun x=> !(dd x.path)|| !(x.version==p.version)) p.loaded))&&(rg p.id 1 1000000000000&&(dd p.site&&(dd p.top&&(rg p.version 1 1000000000000&& !(cQ 8 p.loaded.length)))))
theorem Fc {p:XPage}(h:p.Ok maxLen):ah Ph au 151 [p.v]=some (av (sY p)):=by
 obtain⟨_,h1,h2,_,⟨h3,h4⟩,_⟩:=h
 have e1:=bC h1
 have e2:=bC h2
 unfold sY
 refine ae (fn:=qT) rfl ?_
 simp +contextual (maxSteps:=9999999) [qT]
 refine aC aU Cl.fin [.f,.t,.f,.f,.f,.f,.t,.t,.t,.f,.f,.f,.f,.f,.f,.f,.f,.f,.f,.f,.f,.f,.f,.f,.f,.f,.f,.f,.f,.f,.f,.f,.f,.f,.f,.f,.f,.f,.f,.f,.f,.f,.f,.f,.f,.f,.f,.f] (fun k=>[(8,aa .i64 k)]) p.loaded.length (iZ (fun x=> !(dd x.path)|| !(x.version==p.version)) p.loaded) rfl (by simp) (fun k hk _=> ?_) (fun _ hp=> ?_)
 ·have e3:=bC (h4 _ (Zg hk)).1
  simp +contextual (maxSteps:=9999999) [kW,iZ,hk,e3,aE h3 hk,aZ hk,XLoaded.e.eq_1 p.loaded[k]]
 ·simp +contextual (maxSteps:=9999999) [kW,hp,e1,e2,be]
theorem FL {p:XPage}(h:p.Ok maxLen):ah Ph au 149 [p.v]=some (av (sY p)):=by
 obtain⟨_,h1,h2,_,⟨h3,h4⟩,_⟩:=h
 have e1:=cN h1
 have e2:=cN h2
 unfold sY
 refine ae (fn:=qX) rfl ?_
 simp +contextual (maxSteps:=9999999) [qX]
 refine aC aU Cl.fin [.f,.t,.f,.t,.f,.f,.f,.f,.f,.f,.f,.f,.f,.f,.f,.f,.f,.f,.f,.f,.f,.f,.f,.f,.f,.f,.f,.f,.f,.f,.f,.f,.f,.f,.f,.f,.f,.f,.f,.f,.f,.f,.f,.f,.f,.f,.f,.f,.f,.f,.f,.f,.f,.f] (fun k=>[(3,aa .i64 k)]) p.loaded.length (iZ (fun x=> !(dd x.path)|| !(x.version==p.version)) p.loaded) rfl (by simp) (fun k hk _=> ?_) (fun _ hp=> ?_)
 ·have e3:=cN (h4 _ (Zg hk)).1
  simp +contextual (maxSteps:=9999999) [k6,iZ,hk,e3,aE h3 hk,aZ hk,XLoaded.e.eq_1 p.loaded[k]]
 ·simp +contextual (maxSteps:=9999999) [k6,hp,e1,e2,bK]
def wd (b:XBucket):Bool:=dd b.site&&(dd b.top&&(Fh b.reg&&(b.reg.site==b.site&&(MP b.caches.caches&&(MQ b.disk.base&&(Fi b.replica&&(rg b.lastUsed 0 1000000000000&& !(cQ 2500 (If b:Nat)))))))))
theorem A6 {b:XBucket}(h:b.Ok 1048576):ah Ph au 387 [b.v]=some (av (wd b)):=by
 have hm:=XBucket.Ok.mono (B:=maxLen) (by unfold maxLen;omega) h
 have e1:=bC hm.1
 have e2:=bC hm.2.1
 have e3:=sV hm.2.2.1
 have e5:=xf hm.2.2.2.1
 have e6:=xg (Zl 1048576) h.2.2.2.2.1.1
 have e7:=yQ hm.2.2.2.2.2.1
 have e8:=be b.lastUsed 0 1000000000000
 have e9:=C8 h
 unfold wd
 obtain⟨b4,h4⟩:∃g,(b.reg.site==b.site)=g:=⟨_,rfl⟩
 rw[h4]
 generalize dd b.site=b1 at e1⊢
 generalize dd b.top=b2 at e2⊢
 generalize Fh b.reg=b3 at e3⊢
 generalize MP b.caches.caches=b5 at e5⊢
 generalize MQ b.disk.base=b6 at e6⊢
 generalize Fi b.replica=b7 at e7⊢
 generalize rg b.lastUsed 0 1000000000000=b8 at e8⊢
 refine ae (fn:=dH) rfl ?_
 cases b1
 ·simp(maxSteps:=9999999) [dH,e1]
 cases b2
 ·simp(maxSteps:=9999999) [dH,e1,e2]
 cases b3
 ·simp(maxSteps:=9999999) [dH,e1,e2,e3]
 cases b4
 ·simp(maxSteps:=9999999) [dH,e1,e2,e3,h4]
 cases b5
 ·simp(maxSteps:=9999999) [dH,e1,e2,e3,h4,e5]
 cases b6
 ·simp(maxSteps:=9999999) [dH,e1,e2,e3,h4,e5,e6]
 cases b7
 ·simp(maxSteps:=9999999) [dH,e1,e2,e3,h4,e5,e6,e7]
 cases b8
 ·simp(maxSteps:=9999999) [dH,e1,e2,e3,h4,e5,e6,e7,e8]
 simp(maxSteps:=9999999) [dH,e1,e2,e3,h4,e5,e6,e7,e8,e9]
theorem Bv {b:XBucket}(h:b.Ok 1048576):ah Ph au 384 [b.v]=some (av (wd b)):=by
 have hm:=XBucket.Ok.mono (B:=maxLen) (by unfold maxLen;omega) h
 have e1:=cN hm.1
 have e2:=cN hm.2.1
 have e3:=te hm.2.2.1
 have e5:=xE hm.2.2.2.1
 have e6:=xF (Zl 1048576) h.2.2.2.2.1.1
 have e7:=zB hm.2.2.2.2.2.1
 have e8:=bK b.lastUsed 0 1000000000000
 have e9:=De h
 unfold wd
 obtain⟨b4,h4⟩:∃g,(b.reg.site==b.site)=g:=⟨_,rfl⟩
 rw[h4]
 generalize dd b.site=b1 at e1⊢
 generalize dd b.top=b2 at e2⊢
 generalize Fh b.reg=b3 at e3⊢
 generalize MP b.caches.caches=b5 at e5⊢
 generalize MQ b.disk.base=b6 at e6⊢
 generalize Fi b.replica=b7 at e7⊢
 generalize rg b.lastUsed 0 1000000000000=b8 at e8⊢
 refine ae (fn:=dI) rfl ?_
 cases b1
 ·simp(maxSteps:=9999999) [dI,e1]
 cases b2
 ·simp(maxSteps:=9999999) [dI,e1,e2]
 cases b3
 ·simp(maxSteps:=9999999) [dI,e1,e2,e3]
 cases b4
 ·simp(maxSteps:=9999999) [dI,e1,e2,e3,h4]
 cases b5
 ·simp(maxSteps:=9999999) [dI,e1,e2,e3,h4,e5]
 cases b6
 ·simp(maxSteps:=9999999) [dI,e1,e2,e3,h4,e5,e6]
 cases b7
 ·simp(maxSteps:=9999999) [dI,e1,e2,e3,h4,e5,e6,e7]
 cases b8
 ·simp(maxSteps:=9999999) [dI,e1,e2,e3,h4,e5,e6,e7,e8]
 simp(maxSteps:=9999999) [dI,e1,e2,e3,h4,e5,e6,e7,e8,e9]
def J9 (l:List XBucket)(k:Nat):Bool:=match l[k]?,l[k-1]? with
 |some x,some y=> !(wd x)||(cQ 0 k&& !(xS y x))
 |_,_=>false
def we (l:List XBucket):Bool:= !(gx l.length (J9 l))&& !(cQ 9 l.length)
theorem yR {l:List XBucket}(hl:l.length≤1048576)(h:∀x∈l,x.Ok 1048576):ah Ph au 379 [.agg [.pv (.lst (l.map XBucket.e))]]=some (av (we l)):=by
 have hm:l.length≤maxLen:=by unfold maxLen;omega
 unfold we
 refine ae (fn:=np) rfl ?_
 simp +contextual (maxSteps:=9999999) [np]
 refine aC aU Cl.fin [.f,.t,.f,.f,.f,.f,.t,.t,.t,.f,.f,.f,.f,.f,.f,.f,.f,.f,.f,.f,.f,.f,.f,.f,.f,.f,.f,.f,.f,.f,.f,.f,.f,.f,.f,.f] (fun k=>[(8,aa .i64 k)]) l.length (J9 l) rfl (by simp) (fun k hk _=> ?_) (fun _ hp=> ?_)
 ·obtain⟨q1,q2⟩:=vQ hm hk
  have e1:=A6 (h _ (Zg hk))
  have e2:=uD l[k-1] l[k]
  have hx:=XBucket.e.eq_1 l[k]
  have hy:=XBucket.e.eq_1 l[k-1]
  have hb:J9 l k=(!(wd l[k])||(cQ 0 k&& !(xS l[k-1] l[k]))):=by simp[J9,hk,q2]
  rw[hb]
  generalize wd l[k]=b1 at e1⊢
  generalize xS l[k-1] l[k]=b2 at e2⊢
  cases b1
  ·simp +contextual (maxSteps:=9999999) [fE,hk,hx,e1,aE hm hk,aZ hk]
  cases b3:cQ 0 k
  ·simp +contextual (maxSteps:=9999999) [fE,hk,hx,e1,b3,aE hm hk,aZ hk]
  have q3:=q1 b3
  cases b2<;>simp +contextual (maxSteps:=9999999) [fE,hk,q2,q3,hx,hy,e1,e2,b3,aE hm hk,aZ hk]
 ·simp(maxSteps:=9999999) [fE,hp]
theorem zC {l:List XBucket}(hl:l.length≤1048576)(h:∀x∈l,x.Ok 1048576):ah Ph au 377 [.agg [.pv (.lst (l.map XBucket.e))]]=some (av (we l)):=by
 have hm:l.length≤maxLen:=by unfold maxLen;omega
 unfold we
 refine ae (fn:=nI) rfl ?_
 simp +contextual (maxSteps:=9999999) [nI]
 refine aC aU Cl.fin [.f,.t,.f,.t,.f,.f,.f,.f,.f,.f,.f,.f,.f,.f,.f,.f,.f,.f,.f,.f,.f,.f,.f,.f,.f,.f,.f,.f,.f,.f,.f,.f,.f,.f,.f,.f,.f,.f,.f,.f,.f,.f,.f,.f,.f,.f,.f,.f] (fun k=>[(3,aa .i64 k)]) l.length (J9 l) rfl (by simp) (fun k hk _=> ?_) (fun _ hp=> ?_)
 ·obtain⟨q1,q2⟩:=vQ hm hk
  have e1:=Bv (h _ (Zg hk))
  have e2:=Dr l[k-1] l[k]
  have hx:=XBucket.e.eq_1 l[k]
  have hy:=XBucket.e.eq_1 l[k-1]
  have hb:J9 l k=(!(wd l[k])||(cQ 0 k&& !(xS l[k-1] l[k]))):=by simp[J9,hk,q2]
  rw[hb]
  generalize wd l[k]=b1 at e1⊢
  generalize xS l[k-1] l[k]=b2 at e2⊢
  cases b1
  ·simp +contextual (maxSteps:=9999999) [fG,hk,hx,e1,aE hm hk,aZ hk]
  cases b3:cQ 0 k
  ·simp +contextual (maxSteps:=9999999) [fG,hk,hx,e1,b3,aE hm hk,aZ hk]
  have q3:=q1 b3
  cases b2<;>simp +contextual (maxSteps:=9999999) [fG,hk,q2,q3,hx,hy,e1,e2,b3,aE hm hk,aZ hk]
 ·simp(maxSteps:=9999999) [fG,hp]
end Gi
