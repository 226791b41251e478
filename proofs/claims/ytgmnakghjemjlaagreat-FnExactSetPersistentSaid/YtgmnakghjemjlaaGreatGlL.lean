/- Of this proof. -/
import Derived.Test.YtgmnakghjemjlaaGreatGko
import Derived.Test.YtgmnakghjemjlaaGreatGki
set_option linter.unusedSimpArgs false
set_option linter.unusedVariables false
namespace Gi
open Go Go.RowKit
set_option maxHeartbeats 8000000
set_option maxRecDepth 4000
attribute [local simp] bu sQ bg bX ep fZ ej fY f8 f7 uP uY uQ uZ uR u0 uS vd uT ve uU vf uV vg uW vh uX vi V.cells plain bn f9 isInt isStr isBool bin cW jN cX jO f4 un asList L.view ap V.view viewL aS av da cf bP comp aK bt dz ct bI bG bH bO bj cz aX bK aQ aY bM cB bL bJ bN V.flat L.flat dL du bA putAt thaw thawL thawT V.ow f6 ew ez cY f5 cZ eu freezeVs freezeLs freezeL V.mut L.mut aJ fq i7 aM be aE dq bE bi bS L.ren aU dM cj dQ bT bC wp_seq wp_block bF eB db cg dd wp_skip wp_exit wp_ret cN cM cS cO dj dk di cq aW L.notArr aP aN aO eA bo storeD bc fR br cE bf nE L.mov L.closed V.closed PV.bare PV.flat
theorem Cl.imp {call:Nat→List V→Option V}(hc:kL call){Q:Ex→St→Prop}(hQ:Cl Q){ks:List Fr}(hz:kz ks=true){A:Prop}:Cl (fun e τ=>A→wp call Q ks (some (e,τ))):=fun e σ τ k h a=>IQ hc hQ hz k (h a)
theorem uG {B:Nat}(hB1:B≤1048576){d:XDatabase}(h:d.Ok B):ag Ph aG 393 [d.v]=some (au (Jo d)):=by
 have hB:B≤maxLen:=by unfold maxLen;omega
 obtain⟨hn,hv,⟨hsl,hs⟩,hul,hu⟩:=h
 have e1:=ca (Nat.le_trans hn hB)
 have e2:=bq d.version 0 1000
 have hsL:d.stores.length≤maxLen:=Nat.le_trans hsl hB
 have huL:d.unique.length≤maxLen:=Nat.le_trans hul hB
 unfold Jo
 refine ae (fn:=lf) rfl ?_
 simp(maxSteps:=9999999) [lf]
 refine aB aR Cl.fin [.f,.t,.f,.t,.f,.f,.f,.f,.f,.f,.f,.f,.f,.f,.f,.f,.f,.f,.f,.f,.f,.f,.f,.f,.f,.f,.f,.f,.f,.f,.f,.f,.f,.f,.f,.f,.f,.f,.f,.f,.f,.f,.f,.f,.f,.f,.f,.f,.f,.f,.f,.f,.f,.f,.f,.f,.f,.f,.f,.f,.f,.f,.f,.f,.f,.f,.f,.f,.f,.f,.f,.f,.f,.f,.f,.f,.f,.f,.f,.f,.f,.f,.f,.f,.f,.f,.f,.f,.f,.f,.f,.f,.f,.f,.f,.f,.f,.f,.f,.f,.f,.f,.f,.f,.f,.f,.f,.f,.f,.f,.f,.f,.f,.f,.f,.f,.f,.f,.f,.f,.f,.f,.f,.f] (fun k=>[(3,aa .i64 k)]) d.stores.length (M5 d.stores) rfl (by simp) (fun k hk _=> ?_) (fun _ hp=> ?_)
 ·obtain⟨q1,q2⟩:=td hsL hk
  have e3:=m9 (XStore.Ok.mono hB (hs _ (List.getElem_mem hk)))
  simp +contextual (maxSteps:=9999999) [eK,M5,hk,q1,q2,aF hsL hk,aV hk,XStore.e.eq_1 d.stores[k],XStore.e.eq_1 d.stores[k-1],e3]
 ·simp(maxSteps:=9999999) [eK,hp]
  refine aB aR Cl.fin [.f,.t,.f,.f,.t,.f,.f,.f,.f,.f,.f,.f,.f,.f,.f,.f,.f,.f,.f,.f,.f,.f,.f,.f,.f,.f,.f,.f,.f,.f,.f,.f,.f,.f,.f,.f,.f,.f,.f,.f,.f,.f,.f,.f,.f,.f,.f,.f,.f,.f,.f,.f,.f,.f,.f,.f,.f,.f,.f,.f,.f,.f,.f,.f,.f,.f,.f,.f,.f,.f,.f,.f,.f,.f,.f,.f,.f,.f,.f,.f,.f,.f,.f,.f,.f,.f,.f,.f,.f,.f,.f,.f,.f,.f,.f,.f,.f,.f,.f,.f,.f,.f,.f,.f,.f,.f,.f,.f,.f,.f,.f,.f,.f,.f,.f,.f,.f,.f,.f,.f,.f,.f,.f,.f] (fun k=>[(4,aa .i64 k)]) d.unique.length (Dt d.stores d.unique) rfl (by simp) (fun k hk _=> ?_) (fun _ hp=> ?_)
  ·have e3:=wI (d:=d) hsL d.unique[k].store
   have e4:=ca (Nat.le_trans (hu _ (List.getElem_mem hk)).2 hB)
   have hdup:Hh d.unique k=fL k (iO (oE d.unique[k]) d.unique):=by simp[Hh,hk]
   have hx:=XIndexDef.e.eq_1 d.unique[k]
   rcases EM (OD d.unique[k].store) d.stores with⟨h1,h2⟩|⟨j,hj,h1,h2⟩<;>rw[h1]at e3
   ·rw[show Dt d.stores d.unique k=true by simp[Dt,hk,h2]]
    simp +contextual (maxSteps:=9999999) [df,hk,e3,hx,aF huL hk,aV hk,show dK (-1) 0=true from rfl]
   ·have e6:=tj hB1 (hs _ (List.getElem_mem hj)) d.unique[k].field
    have hy:=XStore.e.eq_1 d.stores[j]
    rw[show Dt d.stores d.unique k=(!(cy d.unique[k].field)||(Hh d.unique k||(N5 d.unique[k].field (mo d.unique[k].field d.stores[j].items)).2.2)) by simp[Dt,hk,h2],hdup]
    generalize N5 d.unique[k].field (mo d.unique[k].field d.stores[j].items)=T at e6⊢
    unfold PU at e6
    generalize cy d.unique[k].field=N at e4⊢
    cases N
    ·simp +contextual (maxSteps:=9999999) [df,hk,hj,e3,e4,e6,hx,hy,aF huL hk,aV hk,uy]
    cases hT:T.2.2<;>rw[hT]at e6
    rotate_left
    ·simp +contextual (maxSteps:=9999999) [df,hk,hj,e3,e4,e6,hx,hy,aF huL hk,aV hk,uy]
    cases hD:fL k (iO (oE d.unique[k]) d.unique)
    ·simp(maxSteps:=9999999) [df,hk,hj,e3,e4,e6,hx,hy,aF huL hk,aV hk,uy]
     refine aB aR (Cl.kn) [.f,.t,.f,.f,.t,.f,.f,.f,.f,.t,.f,.f,.f,.f,.f,.f,.f,.f,.f,.f,.f,.f,.f,.f,.f,.f,.f,.f,.f,.f,.f,.f,.f,.f,.f,.f,.f,.f,.f,.f,.f,.f,.f,.f,.f,.f,.f,.f,.f,.f,.f,.f,.f,.f,.f,.f,.f,.f,.f,.f,.f,.f,.f,.f,.f,.f,.f,.f,.f,.f,.f,.f,.f,.f,.f,.f,.f,.f,.f,.f,.f,.f,.f,.f,.f,.f,.f,.f,.f,.f,.f,.f,.f,.f,.f,.f,.f,.f,.f,.f,.f,.f,.f,.f,.f,.f,.f,.f,.f,.f,.f,.f,.f,.f,.f,.f,.f,.f,.f,.f,.f,.f,.f,.f] (fun j=>[(9,aa .i64 j)]) k (iO (oE d.unique[k]) d.unique) rfl (by simp) (fun i hi _=> ?_) (fun _ hq=> ?_)
     ·have hi2:i<d.unique.length:=by omega
      have hcm:oE d.unique[k] d.unique[i]=(d.unique[i].store==d.unique[k].store&&d.unique[i].field==d.unique[k].field):=CR _ _
      simp +contextual (maxSteps:=9999999) [eL,iO,hcm,hi2,hk,hx,XIndexDef.e.eq_1 d.unique[i],oS,MJ,aF huL hi2,aV hi,hD]
     ·simp(maxSteps:=9999999) [eL,aF huL hk]
    ·simp(maxSteps:=9999999) [df,hk,hj,e3,e4,e6,hx,hy,aF huL hk,aV hk,uy]
     refine aB aR (Cl.imp aR Cl.fin rfl) [.f,.t,.f,.f,.t,.f,.f,.f,.f,.t,.f,.f,.f,.f,.f,.f,.f,.f,.f,.f,.f,.f,.f,.f,.f,.f,.f,.f,.f,.f,.f,.f,.f,.f,.f,.f,.f,.f,.f,.f,.f,.f,.f,.f,.f,.f,.f,.f,.f,.f,.f,.f,.f,.f,.f,.f,.f,.f,.f,.f,.f,.f,.f,.f,.f,.f,.f,.f,.f,.f,.f,.f,.f,.f,.f,.f,.f,.f,.f,.f,.f,.f,.f,.f,.f,.f,.f,.f,.f,.f,.f,.f,.f,.f,.f,.f,.f,.f,.f,.f,.f,.f,.f,.f,.f,.f,.f,.f,.f,.f,.f,.f,.f,.f,.f,.f,.f,.f,.f,.f,.f,.f,.f,.f] (fun j=>[(9,aa .i64 j)]) k (iO (oE d.unique[k]) d.unique) rfl (by simp) (fun i hi _=> ?_) (fun _ hq=> ?_)
     ·have hi2:i<d.unique.length:=by omega
      have hcm:oE d.unique[k] d.unique[i]=(d.unique[i].store==d.unique[k].store&&d.unique[i].field==d.unique[k].field):=CR _ _
      simp +contextual (maxSteps:=9999999) [eL,iO,hcm,hi2,hk,hx,XIndexDef.e.eq_1 d.unique[i],oS,MJ,aF huL hi2,aV hi,hD]
     ·rw[hD]at hq;cases hq
  ·simp +contextual (maxSteps:=9999999) [df,hp,e1,e2]
def zf (s t:List UInt8)(x:XCached):Bool:=x.site==s&&x.path==t
theorem j5 {c:XCache}(h:c.entries.length≤maxLen)(s t:List UInt8):ag Ph aG 333 [c.v,dS s,dS t]=some (aa .i64 (gB (zf s t) c.entries)):=by
 have e1:=FX (e:=XCached.e) (p:=zf s t) (xs:=c.entries) (k:=346) (z:=7) (kc:=347) (caps:=[[.str s],[.str t]]) rfl h (fun _=>rfl) (fun x _=>by
  refine ae (fn:=mb) rfl ?_
  simp +contextual (maxSteps:=9999999) [mb,XCached.e.eq_1,G9,zf])
 refine ae (fn:=nN) rfl ?_
 simp +contextual (maxSteps:=9999999) [nN,lN,qG,e1]
def qK (es:List XCached)(k:Nat):Bool:=match es[k]? with
 |some e=> !(cy e.site)||(!(cy e.path)||(!(ov e.resp)||fL k (iO (zf e.site e.path) es)))
 |none=>false
def Kr (es:List XCached):Bool:= !(fL es.length (qK es))&& !(dK 12 es.length)
theorem sD {α:Type}{p:α→Bool}{xs:List α}{k:Nat}(hk:k<xs.length)(hs:p xs[k]=true):(!(gB p xs==(k:Int)))=fL k (iO p xs):=by
 cases q:fL k (iO p xs)with
 |false=>rw[ye hk (fun j hj=>MU q hj) hs];simp
 |true=>
  rw[Bool.not_eq_true',beq_eq_false_iff_ne]
  intro e
  unfold fL at q
  rw[List.any_eq_true]at q
  obtain⟨j,hj,h⟩:=q
  have hj:=List.mem_range.1 hj
  unfold gB at e
  cases h1:xs.findIdx? p with
  |none=>rw[h1]at e;simp only at e;omega
  |some i=>
   rw[h1]at e
   simp only at e
   obtain rfl:i=k:=by omega
   rw[List.findIdx?_eq_some_iff_getElem]at h1
   have h2:j<xs.length:=by omega
   have:=h1.2.2 j hj
   simp only[iO,h2,List.getElem?_eq_getElem]at h
   exact this h
def K9 (cs:List XCache)(k:Nat):Bool:=match cs[k]?,cs[k-1]? with
 |some x,some y=> !(rg x.version 1 1000000000000)||((dK 0 k&& !(dK y.version x.version))|| !(Kr x.entries))
 |_,_=>false
def Jn (cs:List XCache):Bool:= !(fL cs.length (K9 cs))&& !(dK 4 cs.length)
theorem uL {es:List XCached}(hl:es.length≤maxLen)(h:∀e∈es,e.Ok maxLen):ag Ph aG 399 [bv (es.map XCached.e)]=some (au (Kr es)):=by
 unfold Kr
 refine ae (fn:=lq) rfl ?_
 simp +contextual (maxSteps:=9999999) [lq]
 refine aB aR Cl.fin [.t,.f,.f,.t,.f,.f,.f,.f,.f,.f,.f,.f,.f,.f,.f,.f,.f,.f,.f,.f,.f,.f,.f,.f,.f,.f,.f,.f,.f,.f,.f,.f,.f,.f,.f,.f,.f,.f,.f,.f,.f,.f,.f,.f,.f,.f,.f,.f,.f,.f,.f,.f,.f,.f,.f,.f,.f,.f,.f,.f,.f,.f,.f,.f,.f,.f,.f,.f] (fun k=>[(3,aa .i64 k)]) es.length (qK es) rfl (by simp) (fun k hk _=> ?_) (fun _ hp=> ?_)
 ·have e1:=ca (h _ (List.getElem_mem hk)).1
  have e2:=ca (h _ (List.getElem_mem hk)).2.1
  have e3:=uI es[k].resp
  have hx:=XCached.e.eq_1 es[k]
  have hb:qK es k=(!(cy es[k].site)||(!(cy es[k].path)||(!(ov es[k].resp)||fL k (iO (zf es[k].site es[k].path) es)))):=by simp[qK,hk]
  rw[hb]
  generalize cy es[k].site=b1 at e1⊢
  generalize cy es[k].path=b2 at e2⊢
  generalize ov es[k].resp=b3 at e3⊢
  cases b1
  ·simp +contextual (maxSteps:=9999999) [dg,hk,hx,e1,aV hk]
  cases b2
  ·simp +contextual (maxSteps:=9999999) [dg,hk,hx,e1,e2,aV hk]
  cases b3
  ·simp +contextual (maxSteps:=9999999) [dg,hk,hx,e1,e2,e3,aV hk]
  cases hD:fL k (iO (zf es[k].site es[k].path) es)
  ·simp(maxSteps:=9999999) [dg,hk,hx,e1,e2,e3,aV hk]
   refine aB aR Cl.kn [.t,.f,.f,.t,.t,.f,.f,.f,.f,.f,.f,.f,.f,.f,.f,.f,.f,.f,.f,.f,.f,.f,.f,.f,.f,.f,.f,.f,.f,.f,.f,.f,.f,.f,.f,.f,.f,.f,.f,.f,.f,.f,.f,.f,.f,.f,.f,.f,.f,.f,.f,.f,.f,.f,.f,.f,.f,.f,.f,.f,.f,.f,.f,.f,.f,.f,.f,.f] (fun j=>[(4,aa .i64 j)]) k (iO (zf es[k].site es[k].path) es) rfl (by simp) (fun i hi _=> ?_) (fun _ hq=> ?_)
   ·have hi2:i<es.length:=by omega
    simp +contextual (maxSteps:=9999999) [eM,iO,zf,hi,hi2,hk,hx,XCached.e.eq_1 es[i],aF hl hi2,aV hi,hD]
   ·simp(maxSteps:=9999999) [eM,aF hl hk]
  ·simp(maxSteps:=9999999) [dg,hk,hx,e1,e2,e3,aV hk]
   refine aB aR (Cl.imp aR Cl.fin rfl) [.t,.f,.f,.t,.t,.f,.f,.f,.f,.f,.f,.f,.f,.f,.f,.f,.f,.f,.f,.f,.f,.f,.f,.f,.f,.f,.f,.f,.f,.f,.f,.f,.f,.f,.f,.f,.f,.f,.f,.f,.f,.f,.f,.f,.f,.f,.f,.f,.f,.f,.f,.f,.f,.f,.f,.f,.f,.f,.f,.f,.f,.f,.f,.f,.f,.f,.f,.f] (fun j=>[(4,aa .i64 j)]) k (iO (zf es[k].site es[k].path) es) rfl (by simp) (fun i hi _=> ?_) (fun _ hq=> ?_)
   ·have hi2:i<es.length:=by omega
    simp +contextual (maxSteps:=9999999) [eM,iO,zf,hi,hi2,hk,hx,XCached.e.eq_1 es[i],aF hl hi2,aV hi,hD]
   ·rw[hD]at hq;cases hq
 ·simp(maxSteps:=9999999) [dg,hp]
theorem uF {s:XCacheSet}(h:s.Ok maxLen):ag Ph aG 392 [s.v]=some (au (Jn s.caches)):=by
 obtain⟨h1,h2⟩:=h
 have e2:=fun v=>bq v 1 1000000000000
 unfold Jn
 refine ae (fn:=lc) rfl ?_
 simp +contextual (maxSteps:=9999999) [lc]
 refine aB aR Cl.fin [.f,.t,.f,.t,.f,.f,.f,.f,.f,.f,.f,.f,.f,.f,.f,.f,.f,.f,.f,.f,.f,.f,.f,.f,.f,.f,.f,.f,.f,.f,.f,.f,.f,.f,.f,.f,.f,.f,.f,.f,.f,.f,.f,.f,.f,.f,.f,.f,.f,.f,.f,.f,.f] (fun k=>[(3,aa .i64 k)]) s.caches.length (K9 s.caches) rfl (by simp) (fun k hk _=> ?_) (fun _ hp=> ?_)
 ·obtain⟨q1,q2⟩:=td h1 hk
  have hc:=h2 _ (List.getElem_mem hk)
  have e3:=uL hc.2.1 hc.2.2
  simp +contextual (maxSteps:=9999999) [gF,K9,hk,q1,q2,e2,e3,aF h1 hk,aV hk,XCache.e.eq_1 s.caches[k],XCache.e.eq_1 s.caches[k-1]]
 ·simp(maxSteps:=9999999) [gF,hp]
theorem uh {s:XCacheSet}(h:s.Ok maxLen):ag Ph aG 396 [s.v]=some (au (Jn s.caches)):=by
 obtain⟨h1,h2⟩:=h
 unfold Jn
 refine ae (fn:=kU) rfl ?_
 simp +contextual (maxSteps:=9999999) [kU]
 refine aB aR Cl.fin [.f,.t,.f,.f,.f,.f,.f,.f,.t,.t,.t,.f,.f,.f,.f,.f,.f,.f,.f,.f,.f,.f,.f,.f,.f,.f,.f,.f,.f,.f,.f,.f,.f,.f,.f,.f,.f,.f,.f,.f,.f,.f,.f,.f,.f,.f,.f,.f,.f,.f,.f,.f,.f,.f,.f,.f,.f,.f,.f,.f,.f,.f,.f,.f,.f,.f,.f,.f,.f,.f,.f,.f,.f,.f,.f,.f,.f,.f,.f,.f,.f] (fun k=>[(10,aa .i64 k)]) s.caches.length (K9 s.caches) rfl (by simp) (fun k hk _=> ?_) (fun _ hp=> ?_)
 ·obtain⟨q1,q2⟩:=td h1 hk
  have hc:=h2 _ (List.getElem_mem hk)
  have e2:=aZ s.caches[k].version 1 1000000000000
  have hx:=XCache.e.eq_1 s.caches[k]
  have hy:=XCache.e.eq_1 s.caches[k-1]
  have hb:K9 s.caches k=(!(rg s.caches[k].version 1 1000000000000)||((dK 0 k&& !(dK s.caches[k-1].version s.caches[k].version))||(dK 12 s.caches[k].entries.length||fL s.caches[k].entries.length (qK s.caches[k].entries)))):=by
   simp only[K9,hk,q2,List.getElem?_eq_getElem,Kr,Bool.not_and,Bool.not_not]
   rw[Bool.or_comm (dK 12 _)]
  rw[hb]
  generalize rg s.caches[k].version 1 1000000000000=b1 at e2⊢
  cases b1
  ·simp +contextual (maxSteps:=9999999) [ce,hk,hx,e2,aV hk]
  cases c2:dK 0 k&& !(dK s.caches[k-1].version s.caches[k].version)
  rotate_left
  ·rw[Bool.and_eq_true]at c2
   have c3:=q1 c2.1
   have c4:dK s.caches[k-1].version s.caches[k].version=false:=by simpa using c2.2
   simp +contextual (maxSteps:=9999999) [ce,hk,q2,hx,hy,e2,c2.1,c3,c4,aV hk]
  have c3:dK 0 k=true→dK s.caches[k-1].version s.caches[k].version=true:=fun q=>by simpa[q]using c2
  cases c4:dK 12 s.caches[k].entries.length
  rotate_left
  ·simp +contextual (maxSteps:=9999999) [ce,hk,q1,q2,hx,hy,e2,c3,c4,aV hk]
  cases hD:fL s.caches[k].entries.length (qK s.caches[k].entries)
  ·cases c5:dK 0 k
   ·simp(maxSteps:=9999999) [ce,hk,hx,e2,c5,c4,aV hk]
    refine aB aR Cl.kn [.f,.t,.f,.f,.t,.f,.f,.f,.t,.t,.t,.f,.f,.f,.f,.f,.f,.f,.f,.f,.f,.f,.f,.f,.f,.f,.f,.f,.f,.f,.f,.f,.f,.f,.f,.f,.f,.f,.f,.f,.f,.f,.t,.t,.t,.f,.f,.f,.f,.f,.f,.f,.f,.f,.f,.f,.f,.f,.f,.f,.f,.f,.f,.f,.f,.f,.f,.f,.f,.f,.f,.f,.f,.f,.f,.f,.f,.f,.f,.f,.f] (fun j=>[(44,aa .i64 j)]) s.caches[k].entries.length (qK s.caches[k].entries) rfl (by simp) (fun j hj _=> ?_) (fun _ hq=> ?_)
    ·have he:=hc.2.2 _ (List.getElem_mem hj)
     have e4:=bh he.1
     have e5:=bh he.2.1
     have e6:=it s.caches[k].entries[j].resp
     have e7:=j5 (c:=s.caches[k]) hc.2.1 s.caches[k].entries[j].site s.caches[k].entries[j].path
     have hs:=sD (p:=zf s.caches[k].entries[j].site s.caches[k].entries[j].path) hj (by simp[zf])
     have hz:=XCached.e.eq_1 s.caches[k].entries[j]
     have hbE:qK s.caches[k].entries j=(!(cy s.caches[k].entries[j].site)||(!(cy s.caches[k].entries[j].path)||(!(ov s.caches[k].entries[j].resp)||fL j (iO (zf s.caches[k].entries[j].site s.caches[k].entries[j].path) s.caches[k].entries)))):=by simp[qK,hj]
     rw[hbE,←hs]
     generalize gB (zf s.caches[k].entries[j].site s.caches[k].entries[j].path) s.caches[k].entries=F at e7⊢
     obtain⟨g,hg⟩:∃g,(F==(j:Int))=g:=⟨_,rfl⟩
     rw[hg]
     simp +contextual (maxSteps:=9999999) [cG,hj,hz,e4,e5,e6,e7,hg,aF hc.2.1 hj,aV hj,hD]
    ·simp(maxSteps:=9999999) [cG,aF h1 hk]
   ·have c6:=q1 c5
    have c7:=c3 c5
    simp(maxSteps:=9999999) [ce,hk,q2,hx,hy,e2,c5,c6,c7,c4,aV hk]
    refine aB aR Cl.kn [.f,.t,.f,.f,.t,.f,.f,.f,.t,.t,.t,.f,.f,.f,.f,.f,.f,.f,.f,.f,.f,.f,.f,.f,.f,.f,.f,.f,.f,.f,.f,.f,.f,.f,.f,.f,.f,.f,.f,.f,.f,.f,.t,.t,.t,.f,.f,.f,.f,.f,.f,.f,.f,.f,.f,.f,.f,.f,.f,.f,.f,.f,.f,.f,.f,.f,.f,.f,.f,.f,.f,.f,.f,.f,.f,.f,.f,.f,.f,.f,.f] (fun j=>[(44,aa .i64 j)]) s.caches[k].entries.length (qK s.caches[k].entries) rfl (by simp) (fun j hj _=> ?_) (fun _ hq=> ?_)
    ·have he:=hc.2.2 _ (List.getElem_mem hj)
     have e4:=bh he.1
     have e5:=bh he.2.1
     have e6:=it s.caches[k].entries[j].resp
     have e7:=j5 (c:=s.caches[k]) hc.2.1 s.caches[k].entries[j].site s.caches[k].entries[j].path
     have hs:=sD (p:=zf s.caches[k].entries[j].site s.caches[k].entries[j].path) hj (by simp[zf])
     have hz:=XCached.e.eq_1 s.caches[k].entries[j]
     have hbE:qK s.caches[k].entries j=(!(cy s.caches[k].entries[j].site)||(!(cy s.caches[k].entries[j].path)||(!(ov s.caches[k].entries[j].resp)||fL j (iO (zf s.caches[k].entries[j].site s.caches[k].entries[j].path) s.caches[k].entries)))):=by simp[qK,hj]
     rw[hbE,←hs]
     generalize gB (zf s.caches[k].entries[j].site s.caches[k].entries[j].path) s.caches[k].entries=F at e7⊢
     obtain⟨g,hg⟩:∃g,(F==(j:Int))=g:=⟨_,rfl⟩
     rw[hg]
     simp +contextual (maxSteps:=9999999) [cG,hj,hz,e4,e5,e6,e7,hg,aF hc.2.1 hj,aV hj,hD]
    ·simp(maxSteps:=9999999) [cG,aF h1 hk]
  ·cases c5:dK 0 k
   ·simp(maxSteps:=9999999) [ce,hk,hx,e2,c5,c4,aV hk]
    refine aB aR (Cl.imp aR Cl.fin rfl) [.f,.t,.f,.f,.t,.f,.f,.f,.t,.t,.t,.f,.f,.f,.f,.f,.f,.f,.f,.f,.f,.f,.f,.f,.f,.f,.f,.f,.f,.f,.f,.f,.f,.f,.f,.f,.f,.f,.f,.f,.f,.f,.t,.t,.t,.f,.f,.f,.f,.f,.f,.f,.f,.f,.f,.f,.f,.f,.f,.f,.f,.f,.f,.f,.f,.f,.f,.f,.f,.f,.f,.f,.f,.f,.f,.f,.f,.f,.f,.f,.f] (fun j=>[(44,aa .i64 j)]) s.caches[k].entries.length (qK s.caches[k].entries) rfl (by simp) (fun j hj _=> ?_) (fun _ hq=> ?_)
    ·have he:=hc.2.2 _ (List.getElem_mem hj)
     have e4:=bh he.1
     have e5:=bh he.2.1
     have e6:=it s.caches[k].entries[j].resp
     have e7:=j5 (c:=s.caches[k]) hc.2.1 s.caches[k].entries[j].site s.caches[k].entries[j].path
     have hs:=sD (p:=zf s.caches[k].entries[j].site s.caches[k].entries[j].path) hj (by simp[zf])
     have hz:=XCached.e.eq_1 s.caches[k].entries[j]
     have hbE:qK s.caches[k].entries j=(!(cy s.caches[k].entries[j].site)||(!(cy s.caches[k].entries[j].path)||(!(ov s.caches[k].entries[j].resp)||fL j (iO (zf s.caches[k].entries[j].site s.caches[k].entries[j].path) s.caches[k].entries)))):=by simp[qK,hj]
     rw[hbE,←hs]
     generalize gB (zf s.caches[k].entries[j].site s.caches[k].entries[j].path) s.caches[k].entries=F at e7⊢
     obtain⟨g,hg⟩:∃g,(F==(j:Int))=g:=⟨_,rfl⟩
     rw[hg]
     simp +contextual (maxSteps:=9999999) [cG,hj,hz,e4,e5,e6,e7,hg,aF hc.2.1 hj,aV hj,hD]
    ·rw[hD]at hq;cases hq
   ·have c6:=q1 c5
    have c7:=c3 c5
    simp(maxSteps:=9999999) [ce,hk,q2,hx,hy,e2,c5,c6,c7,c4,aV hk]
    refine aB aR (Cl.imp aR Cl.fin rfl) [.f,.t,.f,.f,.t,.f,.f,.f,.t,.t,.t,.f,.f,.f,.f,.f,.f,.f,.f,.f,.f,.f,.f,.f,.f,.f,.f,.f,.f,.f,.f,.f,.f,.f,.f,.f,.f,.f,.f,.f,.f,.f,.t,.t,.t,.f,.f,.f,.f,.f,.f,.f,.f,.f,.f,.f,.f,.f,.f,.f,.f,.f,.f,.f,.f,.f,.f,.f,.f,.f,.f,.f,.f,.f,.f,.f,.f,.f,.f,.f,.f] (fun j=>[(44,aa .i64 j)]) s.caches[k].entries.length (qK s.caches[k].entries) rfl (by simp) (fun j hj _=> ?_) (fun _ hq=> ?_)
    ·have he:=hc.2.2 _ (List.getElem_mem hj)
     have e4:=bh he.1
     have e5:=bh he.2.1
     have e6:=it s.caches[k].entries[j].resp
     have e7:=j5 (c:=s.caches[k]) hc.2.1 s.caches[k].entries[j].site s.caches[k].entries[j].path
     have hs:=sD (p:=zf s.caches[k].entries[j].site s.caches[k].entries[j].path) hj (by simp[zf])
     have hz:=XCached.e.eq_1 s.caches[k].entries[j]
     have hbE:qK s.caches[k].entries j=(!(cy s.caches[k].entries[j].site)||(!(cy s.caches[k].entries[j].path)||(!(ov s.caches[k].entries[j].resp)||fL j (iO (zf s.caches[k].entries[j].site s.caches[k].entries[j].path) s.caches[k].entries)))):=by simp[qK,hj]
     rw[hbE,←hs]
     generalize gB (zf s.caches[k].entries[j].site s.caches[k].entries[j].path) s.caches[k].entries=F at e7⊢
     obtain⟨g,hg⟩:∃g,(F==(j:Int))=g:=⟨_,rfl⟩
     rw[hg]
     simp +contextual (maxSteps:=9999999) [cG,hj,hz,e4,e5,e6,e7,hg,aF hc.2.1 hj,aV hj,hD]
    ·rw[hD]at hq;cases hq
 ·simp(maxSteps:=9999999) [ce,hp]
def M4 (o:XOutbox)(k:Nat):Bool:=match o.writes[k]? with
 |some w=> !(HM w)||(!(w.dev==o.dev)|| !(w.seq==IntKind.i64.wrap (IntKind.i64.wrap (o.next-(o.writes.length:Int))+(k:Int))))
 |none=>false
def zg (o:XOutbox):Bool:=rg o.dev 1 1000000&&(rg o.next 1 1000000&&(!(dK 20 o.writes.length)&& !(fL o.writes.length (M4 o))))
theorem yk {o:XOutbox}(h:o.Ok maxLen):ag Ph aG 407 [o.v]=some (au (zg o)):=by
 have hl:=h.2.2.1
 refine ae (fn:=mN) rfl ?_
 simp +contextual (maxSteps:=9999999) [mN]
 refine aB aR Cl.fin [.f,.t,.f,.t,.f,.f,.f,.f,.f,.f,.t,.t,.t,.f,.f,.f,.f,.f,.f,.f,.f,.f,.f,.f,.f,.f,.f,.f,.f,.f,.f,.f,.f,.f,.f,.f,.f,.f,.f,.f,.f,.f,.f,.f,.f,.f,.f,.f,.f,.f,.f] (fun k=>[(12,aa .i64 k)]) o.writes.length (M4 o) rfl (by simp) (fun k hk _=> ?_) (fun _ hp=> ?_)
 ·have e1:=lK (h.2.2.2 _ (List.getElem_mem hk))
  simp +contextual (maxSteps:=9999999) [iP,M4,zg,hk,e1,aF hl hk,aV hk,XWrite.e.eq_1 o.writes[k]]
 ·simp +contextual (maxSteps:=9999999) [iP,hp,zg,aZ]
theorem yI {o:XOutbox}(h:o.Ok maxLen):ag Ph aG 402 [o.v]=some (au (zg o)):=by
 have hl:=h.2.2.1
 have e2:=bq o.dev 1 1000000
 have e3:=bq o.next 1 1000000
 unfold zg
 refine ae (fn:=gi) rfl ?_
 cases c1:rg o.dev 1 1000000<;>rw[c1]at e2
 ·simp(maxSteps:=9999999) [gi,e2]
 cases c2:rg o.next 1 1000000<;>rw[c2]at e3
 ·simp(maxSteps:=9999999) [gi,e2,e3]
 cases c3:dK 20 o.writes.length
 rotate_left
 ·simp(maxSteps:=9999999) [gi,e2,e3,c3]
 simp(maxSteps:=9999999) [gi,e2,e3,c3]
 refine aB aR Cl.fin [.f,.t,.f,.t,.t,.f,.f,.f,.f,.f,.f,.f,.f,.f,.f,.f,.f,.f,.f,.f,.f,.f,.f,.f,.f,.f,.f,.f,.f,.f,.f,.f,.f,.f,.f,.f,.f,.f,.f,.f,.f,.f,.f,.f,.f,.f,.f,.f,.f,.f,.f,.f,.f,.f,.f,.f,.f,.f,.f,.f] (fun k=>[(4,aa .i64 k)]) o.writes.length (M4 o) rfl (by simp) (fun k hk _=> ?_) (fun _ hp=> ?_)
 ·have e1:=lM (h.2.2.2 _ (List.getElem_mem hk))
  simp +contextual (maxSteps:=9999999) [iT,M4,hk,e1,aF hl hk,aV hk,XWrite.e.eq_1 o.writes[k]]
 ·simp +contextual (maxSteps:=9999999) [iT,hp]
def rU :List UInt8:=[110,111,116,101,115]
def CA (r:XReplica):Bool:=lB r.base&&(r.base.name==rU&&(rg r.seen 0 1000000000000&&zg r.sync.outbox))
theorem wd {r:XReplica}(h:r.Ok maxLen):ag Ph aG 398 [r.v]=some (au (CA r)):=by
 have e1:=m7 h.1
 have e2:=aZ r.seen 0 1000000000000
 have e3:=yk h.2.2.1
 unfold CA
 generalize lB r.base=b1 at e1⊢
 generalize rg r.seen 0 1000000000000=b2 at e2⊢
 generalize zg r.sync.outbox=b3 at e3⊢
 obtain⟨b4,h4⟩:∃g,(r.base.name==rU)=g:=⟨_,rfl⟩
 rw[h4]
 unfold rU at h4
 refine ae (fn:=lU) rfl ?_
 cases b1<;>cases b2<;>cases b3<;>cases b4<;>simp(maxSteps:=9999999) [lU,e1,e2,e3,h4]
theorem wJ {r:XReplica}(h:r.Ok maxLen):ag Ph aG 394 [r.v]=some (au (CA r)):=by
 have e1:=m9 h.1
 have e2:=bq r.seen 0 1000000000000
 have e3:=yI h.2.2.1
 unfold CA
 generalize lB r.base=b1 at e1⊢
 generalize rg r.seen 0 1000000000000=b2 at e2⊢
 generalize zg r.sync.outbox=b3 at e3⊢
 obtain⟨b4,h4⟩:∃g,(r.base.name==rU)=g:=⟨_,rfl⟩
 rw[h4]
 unfold rU at h4
 refine ae (fn:=mi) rfl ?_
 cases b1<;>cases b2<;>cases b3<;>cases b4<;>simp(maxSteps:=9999999) [mi,e1,e2,e3,h4]
def pJ (x y:XLock):Bool:=y.name==x.name&&(x.held&&(!y.held||(!x.shared|| !y.shared)))
def I0 (ls:List XLock)(k:Nat):Bool:=match ls[k]? with
 |some x=> !(qt x.name)||(!(rg x.page 1 1000000000000)||fL k (iO (pJ x) ls))
 |none=>false
def qu (ls:List XLock):Bool:= !(fL ls.length (I0 ls))&& !(dK 12 ls.length)
theorem sW {ls:List XLock}(hl:ls.length≤maxLen)(h:∀x∈ls,x.Ok maxLen):ag Ph aG 380 [.agg [.pv (.lst (ls.map XLock.e))]]=some (au (qu ls)):=by
 unfold qu
 refine ae (fn:=ki) rfl ?_
 simp +contextual (maxSteps:=9999999) [ki]
 refine aB aR Cl.fin [.f,.t,.f,.f,.f,.f,.f,.f,.t,.t,.t,.f,.f,.f,.f,.f,.f,.f,.f,.f,.f,.f,.f,.f,.f,.f,.f,.f,.f,.f,.f,.f,.f,.f,.f,.f,.f,.f,.f,.f,.f,.f,.f,.f,.f,.f,.f,.f,.f,.f,.f,.f,.f,.f,.f,.f,.f,.f,.f,.f,.f,.f,.f,.f] (fun k=>[(10,aa .i64 k)]) ls.length (I0 ls) rfl (by simp) (fun k hk _=> ?_) (fun _ hp=> ?_)
 ·have e1:=uk (h _ (List.getElem_mem hk)).1
  have e2:=aZ ls[k].page 1 1000000000000
  have hx:=XLock.e.eq_1 ls[k]
  have w:=dy (e:=XLock.e) (z:=4) (fun _=>rfl) ls
  have hb:I0 ls k=(!(qt ls[k].name)||(!(rg ls[k].page 1 1000000000000)||fL k (iO (pJ ls[k]) ls))):=by simp[I0,hk]
  rw[hb]
  generalize qt ls[k].name=b1 at e1⊢
  generalize rg ls[k].page 1 1000000000000=b2 at e2⊢
  cases b1
  ·simp +contextual (maxSteps:=9999999) [dA,hk,hx,e1,aV hk]
  cases b2
  ·simp +contextual (maxSteps:=9999999) [dA,hk,hx,e1,e2,aV hk]
  cases hD:fL k (iO (pJ ls[k]) ls)
  ·simp(maxSteps:=9999999) [dA,hk,hx,e1,e2,w,Nat.le_of_lt hk,aV hk]
   refine aB aR Cl.kn [.f,.t,.f,.f,.t,.f,.f,.f,.t,.t,.t,.f,.f,.f,.f,.f,.f,.f,.f,.f,.f,.f,.f,.f,.f,.f,.f,.f,.t,.t,.t,.f,.f,.f,.f,.f,.f,.f,.f,.f,.f,.f,.f,.f,.f,.f,.f,.f,.f,.f,.f,.f,.f,.f,.f,.f,.f,.f,.f,.f,.f,.f,.f,.f] (fun j=>[(30,aa .i64 j)]) k (iO (pJ ls[k]) ls) rfl (by simp) (fun i hi _=> ?_) (fun _ hq=> ?_)
   ·have hi2:i<ls.length:=by omega
    simp +contextual (maxSteps:=9999999) [dX,iO,pJ,hi,hi2,hk,hx,XLock.e.eq_1 ls[i],aF hl hi2,aV hi,hD]
   ·simp(maxSteps:=9999999) [dX,aF hl hk]
  ·simp(maxSteps:=9999999) [dA,hk,hx,e1,e2,w,Nat.le_of_lt hk,aV hk]
   refine aB aR (Cl.imp aR Cl.fin rfl) [.f,.t,.f,.f,.t,.f,.f,.f,.t,.t,.t,.f,.f,.f,.f,.f,.f,.f,.f,.f,.f,.f,.f,.f,.f,.f,.f,.f,.t,.t,.t,.f,.f,.f,.f,.f,.f,.f,.f,.f,.f,.f,.f,.f,.f,.f,.f,.f,.f,.f,.f,.f,.f,.f,.f,.f,.f,.f,.f,.f,.f,.f,.f,.f] (fun j=>[(30,aa .i64 j)]) k (iO (pJ ls[k]) ls) rfl (by simp) (fun i hi _=> ?_) (fun _ hq=> ?_)
   ·have hi2:i<ls.length:=by omega
    simp +contextual (maxSteps:=9999999) [dX,iO,pJ,hi,hi2,hk,hx,XLock.e.eq_1 ls[i],aF hl hi2,aV hi,hD]
   ·rw[hD]at hq;cases hq
 ·simp(maxSteps:=9999999) [dA,hp]
theorem tg {ls:List XLock}(hl:ls.length≤maxLen)(h:∀x∈ls,x.Ok maxLen):ag Ph aG 378 [.agg [.pv (.lst (ls.map XLock.e))]]=some (au (qu ls)):=by
 unfold qu
 refine ae (fn:=kC) rfl ?_
 simp +contextual (maxSteps:=9999999) [kC]
 refine aB aR Cl.fin [.f,.t,.f,.t,.f,.f,.f,.f,.f,.f,.f,.f,.f,.f,.f,.f,.f,.f,.f,.f,.f,.f,.f,.f,.f,.f,.f,.f,.f,.f,.f,.f,.f,.f,.f,.f,.f,.f,.f,.f,.f,.f,.f,.f,.f,.f,.f,.f,.f,.f,.f,.f,.f,.f,.f,.f,.f,.f,.f,.f,.f,.f,.f,.f,.f,.f,.f] (fun k=>[(3,aa .i64 k)]) ls.length (I0 ls) rfl (by simp) (fun k hk _=> ?_) (fun _ hp=> ?_)
 ·have e1:=uH (h _ (List.getElem_mem hk)).1
  have e2:=bq ls[k].page 1 1000000000000
  have hx:=XLock.e.eq_1 ls[k]
  have hb:I0 ls k=(!(qt ls[k].name)||(!(rg ls[k].page 1 1000000000000)||fL k (iO (pJ ls[k]) ls))):=by simp[I0,hk]
  rw[hb]
  generalize qt ls[k].name=b1 at e1⊢
  generalize rg ls[k].page 1 1000000000000=b2 at e2⊢
  cases b1
  ·simp +contextual (maxSteps:=9999999) [dC,hk,hx,e1,aV hk]
  cases b2
  ·simp +contextual (maxSteps:=9999999) [dC,hk,hx,e1,e2,aV hk]
  cases hD:fL k (iO (pJ ls[k]) ls)
  ·simp(maxSteps:=9999999) [dC,hk,hx,e1,e2,aV hk]
   refine aB aR Cl.kn [.f,.t,.f,.t,.t,.t,.f,.f,.f,.f,.f,.f,.f,.f,.f,.f,.f,.f,.f,.f,.f,.f,.f,.f,.f,.f,.f,.f,.f,.f,.f,.f,.f,.f,.f,.f,.f,.f,.f,.f,.f,.f,.f,.f,.f,.f,.f,.f,.f,.f,.f,.f,.f,.f,.f,.f,.f,.f,.f,.f,.f,.f,.f,.f,.f,.f,.f] (fun j=>[(5,aa .i64 j)]) k (iO (pJ ls[k]) ls) rfl (by simp) (fun i hi _=> ?_) (fun _ hq=> ?_)
   ·have hi2:i<ls.length:=by omega
    simp +contextual (maxSteps:=9999999) [ee,iO,pJ,hi,hi2,hk,hx,XLock.e.eq_1 ls[i],aF hl hi2,aV hi,hD]
   ·simp(maxSteps:=9999999) [ee,aF hl hk]
  ·simp(maxSteps:=9999999) [dC,hk,hx,e1,e2,aV hk]
   refine aB aR (Cl.imp aR Cl.fin rfl) [.f,.t,.f,.t,.t,.t,.f,.f,.f,.f,.f,.f,.f,.f,.f,.f,.f,.f,.f,.f,.f,.f,.f,.f,.f,.f,.f,.f,.f,.f,.f,.f,.f,.f,.f,.f,.f,.f,.f,.f,.f,.f,.f,.f,.f,.f,.f,.f,.f,.f,.f,.f,.f,.f,.f,.f,.f,.f,.f,.f,.f,.f,.f,.f,.f,.f,.f] (fun j=>[(5,aa .i64 j)]) k (iO (pJ ls[k]) ls) rfl (by simp) (fun i hi _=> ?_) (fun _ hq=> ?_)
   ·have hi2:i<ls.length:=by omega
    simp +contextual (maxSteps:=9999999) [ee,iO,pJ,hi,hi2,hk,hx,XLock.e.eq_1 ls[i],aF hl hi2,aV hi,hD]
   ·rw[hD]at hq;cases hq
 ·simp(maxSteps:=9999999) [dC,hp]
end Gi
