/- Of this proof. -/
import Derived.Test.YtpfadfkomcbecaaGreatGkn
set_option linter.unusedSimpArgs false
set_option linter.unusedVariables false
namespace Gi
open Go Go.RowKit
set_option maxHeartbeats 8000000
set_option maxRecDepth 4000
attribute [local simp] start sj bf bU dQ fY dP fX f7 f6 uH uQ uI uR uJ uS uK uT uL uU uM uV uN uW uO uX uP uY V.cells plain bm gu isInt isStr isBool bin cQ jJ cR jK fZ un asList L.view ap V.view viewL aV au cU bX bN comp aK bq dw co bz bw bx bI bi cq aW bD aR aX bG cr bF bC bH V.flat L.flat dG dk bt putAt thaw thawL thawT V.ow f5 dU dV cS f4 cT dS freezeVs freezeLs freezeL V.mut L.mut aJ eS iO aN bd aG dj bK bg bQ L.ren aT dH ca dL bO bB wp_seq wp_block bv dY cW bY cX wp_skip wp_exit wp_ret cG cE cP cH dd de db cj aU L.notArr aQ aO aP dX bn storeD a9 fR bo cD be nX L.mov L.closed V.closed PV.bare PV.flat
def Pe (ss:List XStore)(k:Nat):Bool:=match ss[k]?,ss[k-1]? with
 |some x,some y=> !(mi x)||(dK 0 k&& !(Op.bytesLess y.name x.name))
 |_,_=>false
def pn (a b:XIndexDef):Bool:=a.store==b.store&&a.field==b.field
theorem Ec (a b:XIndexDef):pn a b=pn b a:=by unfold pn;rw[Bool.beq_comm (a:=a.store),Bool.beq_comm (a:=a.field)]
def IY (us:List XIndexDef)(k:Nat):Bool:=match us[k]? with
 |some u=>fT k (iu (pn u) us)
 |none=>false
def EN (ss:List XStore)(us:List XIndexDef)(k:Nat):Bool:=match us[k]? with
 |some u=>match ss.find? (QW u.store)with
  |some s=> !(cC u.field)||(IY us k||(Qk u.field (na u.field s.items)).2.2)
  |none=>true
 |none=>false
def Li (d:XDatabase):Bool:=cC d.name&&(rg d.version 0 1000&&(!(dK 4 d.stores.length)&&(!(dK 4 d.unique.length)&&(!(fT d.stores.length (Pe d.stores))&& !(fT d.unique.length (EN d.stores d.unique))))))
theorem Gl {α:Type}(p:α→Bool)(xs:List α):(gv p xs= -1∧xs.find? p=none)∨∃j,∃hj:j<xs.length,gv p xs=(j:Int)∧xs.find? p=some xs[j]:=by
 unfold gv
 cases h:xs.findIdx? p with
 |none=>exact .inl ⟨rfl,by rw[List.findIdx?_eq_none_iff]at h;rw[List.find?_eq_none];exact fun x hx=>by simp[h x hx]⟩
 |some i=>
  rw[List.findIdx?_eq_some_iff_getElem]at h
  obtain⟨h1,h2,h3⟩:=h
  refine .inr ⟨i,h1,rfl,?_⟩
  rw[List.find?_eq_some_iff_getElem]
  exact⟨h2,i,h1,rfl,fun j hj=>by simpa using h3 j hj⟩
theorem NO {p:XIndexDef→Bool}{us:List XIndexDef}{k:Nat}(hk:k<us.length):(!(dK (gv p (us.take k)) 0))=fT k (iu p us):=by
 have at':∀j,j<k→iu p (us.take k) j=iu p us j:=fun j hj=>by simp[iu,List.getElem?_take,hj]
 rcases QN p (us.take k)with h|⟨j,hj,h1,h2⟩
 ·rw[h,mG (by omega)]
  refine(O4 fun j hj=> ?_).symm
  have hj2:j<(us.take k).length:=by simp;omega
  rw[←at' j hj]
  have:=QM h _ (List.getElem_mem hj2)
  simp only[iu,List.getElem?_eq_getElem hj2];exact this
 ·have hj2:j<k:=by simp at hj;omega
  rw[h1,xD (by omega)]
  refine(O6 hj2 ?_).symm
  rw[←at' j hj2];simp only[iu,List.getElem?_eq_getElem hj];exact h2
theorem DL {us:List XIndexDef}(hl:us.length≤maxLen)(x:XIndexDef):ag Ph aF 412 [bu (us.map XIndexDef.e),x.v]=some (aa .i64 (gv (pn x) us)):=by
 refine ae (fn:=cZ) rfl ?_
 simp +contextual (maxSteps:=9999999) [cZ]
 refine aA aM Cl.fin [.t,.f,.f,.t,.f,.f,.f,.t,.t,.f,.f,.f,.f,.f,.f,.f,.f,.f,.f] (fun k=>[(8,aa .i64 k)]) us.length (iu (pn x) us) rfl (by simp) (fun k hk hj=> ?_) (fun hj _=> ?_)
 ·have hf:=vE hk hj
  simp +contextual (maxSteps:=9999999) [bS,iu,pn,hk,hf,aD hl hk,aS hk,XIndexDef.e.eq_1 us[k],pF,OT]
 ·simp +contextual (maxSteps:=9999999) [bS,zp hj]
theorem xk {us:List XIndexDef}(hl:us.length≤maxLen)(x:XIndexDef):ag Ph aF 405 [bu (us.map XIndexDef.e),x.v]=some (ar (!(dK (gv (pn x) us) 0))):=by
 have e1:=DL hl x
 refine ae (fn:=cF) rfl ?_
 simp +contextual (maxSteps:=9999999) [cF,e1]
theorem vJ {B:Nat}(hB1:B≤1048576){d:XDatabase}(h:d.Ok B):ag Ph aF 397 [d.v]=some (ar (Li d)):=by
 have hB:B≤maxLen:=by unfold maxLen;omega
 obtain⟨hn,hv,⟨hsl,hs⟩,hul,hu⟩:=h
 have e1:=bj (Nat.le_trans hn hB)
 have e2:=a8 d.version 0 1000
 have hsL:d.stores.length≤maxLen:=Nat.le_trans hsl hB
 have huL:d.unique.length≤maxLen:=Nat.le_trans hul hB
 unfold Li
 refine ae (fn:=eC) rfl ?_
 cases c1:cC d.name<;>rw[c1]at e1
 ·simp(maxSteps:=9999999) [eC,e1]
 cases c2:rg d.version 0 1000<;>rw[c2]at e2
 ·simp(maxSteps:=9999999) [eC,e1,e2]
 cases c3:dK 4 d.stores.length
 rotate_left
 ·simp(maxSteps:=9999999) [eC,e1,e2,c3]
 cases c4:dK 4 d.unique.length
 rotate_left
 ·simp(maxSteps:=9999999) [eC,e1,e2,c3,c4]
 simp(maxSteps:=9999999) [eC,e1,e2,c3,c4]
 refine aA aM Cl.fin [.f,.t,.f,.f,.f,.f,.f,.f,.f,.f,.f,.f,.f,.f,.f,.f,.f,.f,.f,.f,.f,.f,.f,.f,.f,.f,.f,.f,.f,.f,.f,.f,.f,.f,.t,.t,.t,.f,.f,.f,.f,.f,.f,.f,.f,.f,.f,.f,.f,.f,.f,.f,.f,.f,.f,.f,.f,.f,.f,.f,.f,.f,.f,.f,.f,.f,.f,.f,.f,.f,.f,.f,.f,.f,.f,.f,.f,.f,.f,.f,.f,.f,.f,.f,.f,.f,.f,.f,.f,.f,.f,.f,.f,.f,.f,.f,.f,.f,.f,.f,.f,.f,.f] (fun k=>[(36,aa .i64 k)]) d.stores.length (Pe d.stores) rfl (by simp) (fun k hk _=> ?_) (fun _ hp=> ?_)
 ·obtain⟨q1,q2⟩:=ua hsL hk
  have e3:=nQ (XStore.Ok.mono hB (hs _ (List.getElem_mem hk)))
  simp +contextual (maxSteps:=9999999) [fL,Pe,hk,q1,q2,aD hsL hk,aS hk,XStore.e.eq_1 d.stores[k],XStore.e.eq_1 d.stores[k-1],e3]
 ·simp(maxSteps:=9999999) [fL,hp]
  refine aA aM Cl.fin [.f,.t,.f,.f,.f,.f,.f,.f,.f,.f,.f,.f,.f,.f,.f,.f,.f,.f,.f,.f,.f,.f,.f,.f,.f,.f,.f,.f,.f,.f,.f,.f,.f,.f,.f,.f,.f,.f,.f,.f,.f,.f,.f,.f,.f,.f,.f,.f,.f,.f,.f,.f,.f,.f,.f,.f,.f,.f,.f,.f,.f,.f,.t,.t,.t,.f,.f,.f,.f,.f,.f,.f,.f,.f,.f,.f,.f,.f,.f,.f,.f,.f,.f,.f,.f,.f,.f,.f,.f,.f,.f,.f,.f,.f,.f,.f,.f,.f,.f,.f,.f,.f,.f] (fun k=>[(64,aa .i64 k)]) d.unique.length (EN d.stores d.unique) rfl (by simp) (fun k hk _=> ?_) (fun _ hp=> ?_)
  ·have e3:=xm (d:=d) hsL d.unique[k].store
   have e4:=bj (Nat.le_trans (hu _ (List.getElem_mem hk)).2 hB)
   have e5:=xk (us:=d.unique.take k) (by rw[List.length_take];omega) d.unique[k]
   rw[NO hk]at e5
   have hdup:IY d.unique k=fT k (iu (pn d.unique[k]) d.unique):=by simp[IY,hk]
   rw[←hdup]at e5
   rw[List.map_take]at e5
   have hx:=XIndexDef.e.eq_1 d.unique[k]
   have w:=dz (e:=XIndexDef.e) (z:=2) (fun _=>rfl) d.unique
   rcases Gl (QW d.unique[k].store) d.stores with⟨h1,h2⟩|⟨j,hj,h1,h2⟩<;>rw[h1]at e3
   ·rw[show EN d.stores d.unique k=true by simp[EN,hk,h2]]
    simp +contextual (maxSteps:=9999999) [fM,hk,e3,hx,aD huL hk,aS hk,show dK (-1) 0=true from rfl]
   ·have e6:=tY hB1 (hs _ (List.getElem_mem hj)) d.unique[k].field
    have hy:=XStore.e.eq_1 d.stores[j]
    rw[show EN d.stores d.unique k=(!(cC d.unique[k].field)||(IY d.unique k||(Qk d.unique[k].field (na d.unique[k].field d.stores[j].items)).2.2)) by simp[EN,hk,h2]]
    generalize Qk d.unique[k].field (na d.unique[k].field d.stores[j].items)=T at e6⊢
    unfold Sg at e6
    generalize cC d.unique[k].field=N at e4⊢
    generalize IY d.unique k=D at e5⊢
    simp +contextual (maxSteps:=9999999) [fM,hk,hj,e3,e4,e5,e6,hx,hy,w,Nat.le_of_lt hk,aD huL hk,aS hk,vT]
  ·simp(maxSteps:=9999999) [fM,hp]
theorem Cl.imp {call:Nat→List V→Option V}(hc:lq call){Q:Ex→St→Prop}(hQ:Cl Q){ks:List Fr}(hz:kz ks=true){A:Prop}:Cl (fun e τ=>A→wp call Q ks (some (e,τ))):=fun e σ τ k h a=>KC hc hQ hz k (h a)
theorem wa {B:Nat}(hB1:B≤1048576){d:XDatabase}(h:d.Ok B):ag Ph aF 393 [d.v]=some (ar (Li d)):=by
 have hB:B≤maxLen:=by unfold maxLen;omega
 obtain⟨hn,hv,⟨hsl,hs⟩,hul,hu⟩:=h
 have e1:=cf (Nat.le_trans hn hB)
 have e2:=br d.version 0 1000
 have hsL:d.stores.length≤maxLen:=Nat.le_trans hsl hB
 have huL:d.unique.length≤maxLen:=Nat.le_trans hul hB
 unfold Li
 refine ae (fn:=lS) rfl ?_
 simp(maxSteps:=9999999) [lS]
 refine aA aM Cl.fin [.f,.t,.f,.t,.f,.f,.f,.f,.f,.f,.f,.f,.f,.f,.f,.f,.f,.f,.f,.f,.f,.f,.f,.f,.f,.f,.f,.f,.f,.f,.f,.f,.f,.f,.f,.f,.f,.f,.f,.f,.f,.f,.f,.f,.f,.f,.f,.f,.f,.f,.f,.f,.f,.f,.f,.f,.f,.f,.f,.f,.f,.f,.f,.f,.f,.f,.f,.f,.f,.f,.f,.f,.f,.f,.f,.f,.f,.f,.f,.f,.f,.f,.f,.f,.f,.f,.f,.f,.f,.f,.f,.f,.f,.f,.f,.f,.f,.f,.f,.f,.f,.f,.f,.f,.f,.f,.f,.f,.f,.f,.f,.f,.f,.f,.f,.f,.f,.f,.f,.f,.f,.f,.f,.f] (fun k=>[(3,aa .i64 k)]) d.stores.length (Pe d.stores) rfl (by simp) (fun k hk _=> ?_) (fun _ hp=> ?_)
 ·obtain⟨q1,q2⟩:=ua hsL hk
  have e3:=nS (XStore.Ok.mono hB (hs _ (List.getElem_mem hk)))
  simp +contextual (maxSteps:=9999999) [eM,Pe,hk,q1,q2,aD hsL hk,aS hk,XStore.e.eq_1 d.stores[k],XStore.e.eq_1 d.stores[k-1],e3]
 ·simp(maxSteps:=9999999) [eM,hp]
  refine aA aM Cl.fin [.f,.t,.f,.f,.t,.f,.f,.f,.f,.f,.f,.f,.f,.f,.f,.f,.f,.f,.f,.f,.f,.f,.f,.f,.f,.f,.f,.f,.f,.f,.f,.f,.f,.f,.f,.f,.f,.f,.f,.f,.f,.f,.f,.f,.f,.f,.f,.f,.f,.f,.f,.f,.f,.f,.f,.f,.f,.f,.f,.f,.f,.f,.f,.f,.f,.f,.f,.f,.f,.f,.f,.f,.f,.f,.f,.f,.f,.f,.f,.f,.f,.f,.f,.f,.f,.f,.f,.f,.f,.f,.f,.f,.f,.f,.f,.f,.f,.f,.f,.f,.f,.f,.f,.f,.f,.f,.f,.f,.f,.f,.f,.f,.f,.f,.f,.f,.f,.f,.f,.f,.f,.f,.f,.f] (fun k=>[(4,aa .i64 k)]) d.unique.length (EN d.stores d.unique) rfl (by simp) (fun k hk _=> ?_) (fun _ hp=> ?_)
  ·have e3:=xQ (d:=d) hsL d.unique[k].store
   have e4:=cf (Nat.le_trans (hu _ (List.getElem_mem hk)).2 hB)
   have hdup:IY d.unique k=fT k (iu (pn d.unique[k]) d.unique):=by simp[IY,hk]
   have hx:=XIndexDef.e.eq_1 d.unique[k]
   rcases Gl (QW d.unique[k].store) d.stores with⟨h1,h2⟩|⟨j,hj,h1,h2⟩<;>rw[h1]at e3
   ·rw[show EN d.stores d.unique k=true by simp[EN,hk,h2]]
    simp +contextual (maxSteps:=9999999) [dq,hk,e3,hx,aD huL hk,aS hk,show dK (-1) 0=true from rfl]
   ·have e6:=ue hB1 (hs _ (List.getElem_mem hj)) d.unique[k].field
    have hy:=XStore.e.eq_1 d.stores[j]
    rw[show EN d.stores d.unique k=(!(cC d.unique[k].field)||(IY d.unique k||(Qk d.unique[k].field (na d.unique[k].field d.stores[j].items)).2.2)) by simp[EN,hk,h2],hdup]
    generalize Qk d.unique[k].field (na d.unique[k].field d.stores[j].items)=T at e6⊢
    unfold Sg at e6
    generalize cC d.unique[k].field=N at e4⊢
    cases N
    ·simp +contextual (maxSteps:=9999999) [dq,hk,hj,e3,e4,e6,hx,hy,aD huL hk,aS hk,vT]
    cases hT:T.2.2<;>rw[hT]at e6
    rotate_left
    ·simp +contextual (maxSteps:=9999999) [dq,hk,hj,e3,e4,e6,hx,hy,aD huL hk,aS hk,vT]
    cases hD:fT k (iu (pn d.unique[k]) d.unique)
    ·simp(maxSteps:=9999999) [dq,hk,hj,e3,e4,e6,hx,hy,aD huL hk,aS hk,vT]
     refine aA aM (Cl.kn) [.f,.t,.f,.f,.t,.f,.f,.f,.f,.t,.f,.f,.f,.f,.f,.f,.f,.f,.f,.f,.f,.f,.f,.f,.f,.f,.f,.f,.f,.f,.f,.f,.f,.f,.f,.f,.f,.f,.f,.f,.f,.f,.f,.f,.f,.f,.f,.f,.f,.f,.f,.f,.f,.f,.f,.f,.f,.f,.f,.f,.f,.f,.f,.f,.f,.f,.f,.f,.f,.f,.f,.f,.f,.f,.f,.f,.f,.f,.f,.f,.f,.f,.f,.f,.f,.f,.f,.f,.f,.f,.f,.f,.f,.f,.f,.f,.f,.f,.f,.f,.f,.f,.f,.f,.f,.f,.f,.f,.f,.f,.f,.f,.f,.f,.f,.f,.f,.f,.f,.f,.f,.f,.f,.f] (fun j=>[(9,aa .i64 j)]) k (iu (pn d.unique[k]) d.unique) rfl (by simp) (fun i hi _=> ?_) (fun _ hq=> ?_)
     ·have hi2:i<d.unique.length:=by omega
      have hcm:pn d.unique[k] d.unique[i]=(d.unique[i].store==d.unique[k].store&&d.unique[i].field==d.unique[k].field):=Ec _ _
      simp +contextual (maxSteps:=9999999) [eN,iu,hcm,hi2,hk,hx,XIndexDef.e.eq_1 d.unique[i],pF,OT,aD huL hi2,aS hi,hD]
     ·simp(maxSteps:=9999999) [eN,aD huL hk]
    ·simp(maxSteps:=9999999) [dq,hk,hj,e3,e4,e6,hx,hy,aD huL hk,aS hk,vT]
     refine aA aM (Cl.imp aM Cl.fin rfl) [.f,.t,.f,.f,.t,.f,.f,.f,.f,.t,.f,.f,.f,.f,.f,.f,.f,.f,.f,.f,.f,.f,.f,.f,.f,.f,.f,.f,.f,.f,.f,.f,.f,.f,.f,.f,.f,.f,.f,.f,.f,.f,.f,.f,.f,.f,.f,.f,.f,.f,.f,.f,.f,.f,.f,.f,.f,.f,.f,.f,.f,.f,.f,.f,.f,.f,.f,.f,.f,.f,.f,.f,.f,.f,.f,.f,.f,.f,.f,.f,.f,.f,.f,.f,.f,.f,.f,.f,.f,.f,.f,.f,.f,.f,.f,.f,.f,.f,.f,.f,.f,.f,.f,.f,.f,.f,.f,.f,.f,.f,.f,.f,.f,.f,.f,.f,.f,.f,.f,.f,.f,.f,.f,.f] (fun j=>[(9,aa .i64 j)]) k (iu (pn d.unique[k]) d.unique) rfl (by simp) (fun i hi _=> ?_) (fun _ hq=> ?_)
     ·have hi2:i<d.unique.length:=by omega
      have hcm:pn d.unique[k] d.unique[i]=(d.unique[i].store==d.unique[k].store&&d.unique[i].field==d.unique[k].field):=Ec _ _
      simp +contextual (maxSteps:=9999999) [eN,iu,hcm,hi2,hk,hx,XIndexDef.e.eq_1 d.unique[i],pF,OT,aD huL hi2,aS hi,hD]
     ·rw[hD]at hq;cases hq
  ·simp +contextual (maxSteps:=9999999) [dq,hp,e1,e2]
def Az (s t:List UInt8)(x:XCached):Bool:=x.site==s&&x.path==t
theorem kF {c:XCache}(h:c.entries.length≤maxLen)(s t:List UInt8):ag Ph aF 333 [c.v,fJ s,fJ t]=some (aa .i64 (gv (Az s t) c.entries)):=by
 have e1:=DT (e:=XCached.e) (p:=Az s t) (xs:=c.entries) (k:=346) (z:=7) (kc:=347) (caps:=[[.str s],[.str t]]) rfl h (fun _=>rfl) (fun x _=>by
  refine ae (fn:=mW) rfl ?_
  simp +contextual (maxSteps:=9999999) [mW,XCached.e.eq_1,r9,Az])
 refine ae (fn:=oJ) rfl ?_
 simp +contextual (maxSteps:=9999999) [oJ,kK,pO,e1]
def r8 (es:List XCached)(k:Nat):Bool:=match es[k]? with
 |some e=> !(cC e.site)||(!(cC e.path)||(!(ph e.resp)||fT k (iu (Az e.site e.path) es)))
 |none=>false
def Mr (es:List XCached):Bool:= !(fT es.length (r8 es))&& !(dK 12 es.length)
theorem tD {α:Type}{p:α→Bool}{xs:List α}{k:Nat}(hk:k<xs.length)(hs:p xs[k]=true):(!(gv p xs==(k:Int)))=fT k (iu p xs):=by
 cases q:fT k (iu p xs)with
 |false=>rw[vE hk (fun j hj=>O5 q hj) hs];simp
 |true=>
  rw[Bool.not_eq_true',beq_eq_false_iff_ne]
  intro e
  unfold fT at q
  rw[List.any_eq_true]at q
  obtain⟨j,hj,h⟩:=q
  have hj:=List.mem_range.1 hj
  unfold gv at e
  cases h1:xs.findIdx? p with
  |none=>rw[h1]at e;simp only at e;omega
  |some i=>
   rw[h1]at e
   simp only at e
   obtain rfl:i=k:=by omega
   rw[List.findIdx?_eq_some_iff_getElem]at h1
   have h2:j<xs.length:=by omega
   have:=h1.2.2 j hj
   simp only[iu,h2,List.getElem?_eq_getElem]at h
   exact this h
def Nb (cs:List XCache)(k:Nat):Bool:=match cs[k]?,cs[k-1]? with
 |some x,some y=> !(rg x.version 1 1000000000000)||((dK 0 k&& !(dK y.version x.version))|| !(Mr x.entries))
 |_,_=>false
def Lh (cs:List XCache):Bool:= !(fT cs.length (Nb cs))&& !(dK 4 cs.length)
theorem wg {es:List XCached}(hl:es.length≤maxLen)(h:∀e∈es,e.Ok maxLen):ag Ph aF 399 [bu (es.map XCached.e)]=some (ar (Mr es)):=by
 unfold Mr
 refine ae (fn:=lY) rfl ?_
 simp +contextual (maxSteps:=9999999) [lY]
 refine aA aM Cl.fin [.t,.f,.f,.t,.f,.f,.f,.f,.f,.f,.f,.f,.f,.f,.f,.f,.f,.f,.f,.f,.f,.f,.f,.f,.f,.f,.f,.f,.f,.f,.f,.f,.f,.f,.f,.f,.f,.f,.f,.f,.f,.f,.f,.f,.f,.f,.f,.f,.f,.f,.f,.f,.f,.f,.f,.f,.f,.f,.f,.f,.f,.f,.f,.f,.f,.f,.f,.f] (fun k=>[(3,aa .i64 k)]) es.length (r8 es) rfl (by simp) (fun k hk _=> ?_) (fun _ hp=> ?_)
 ·have e1:=cf (h _ (List.getElem_mem hk)).1
  have e2:=cf (h _ (List.getElem_mem hk)).2.1
  have e3:=wc es[k].resp
  have hx:=XCached.e.eq_1 es[k]
  have hb:r8 es k=(!(cC es[k].site)||(!(cC es[k].path)||(!(ph es[k].resp)||fT k (iu (Az es[k].site es[k].path) es)))):=by simp[r8,hk]
  rw[hb]
  generalize cC es[k].site=b1 at e1⊢
  generalize cC es[k].path=b2 at e2⊢
  generalize ph es[k].resp=b3 at e3⊢
  cases b1
  ·simp +contextual (maxSteps:=9999999) [du,hk,hx,e1,aS hk]
  cases b2
  ·simp +contextual (maxSteps:=9999999) [du,hk,hx,e1,e2,aS hk]
  cases b3
  ·simp +contextual (maxSteps:=9999999) [du,hk,hx,e1,e2,e3,aS hk]
  cases hD:fT k (iu (Az es[k].site es[k].path) es)
  ·simp(maxSteps:=9999999) [du,hk,hx,e1,e2,e3,aS hk]
   refine aA aM Cl.kn [.t,.f,.f,.t,.t,.f,.f,.f,.f,.f,.f,.f,.f,.f,.f,.f,.f,.f,.f,.f,.f,.f,.f,.f,.f,.f,.f,.f,.f,.f,.f,.f,.f,.f,.f,.f,.f,.f,.f,.f,.f,.f,.f,.f,.f,.f,.f,.f,.f,.f,.f,.f,.f,.f,.f,.f,.f,.f,.f,.f,.f,.f,.f,.f,.f,.f,.f,.f] (fun j=>[(4,aa .i64 j)]) k (iu (Az es[k].site es[k].path) es) rfl (by simp) (fun i hi _=> ?_) (fun _ hq=> ?_)
   ·have hi2:i<es.length:=by omega
    simp +contextual (maxSteps:=9999999) [eO,iu,Az,hi,hi2,hk,hx,XCached.e.eq_1 es[i],aD hl hi2,aS hi,hD]
   ·simp(maxSteps:=9999999) [eO,aD hl hk]
  ·simp(maxSteps:=9999999) [du,hk,hx,e1,e2,e3,aS hk]
   refine aA aM (Cl.imp aM Cl.fin rfl) [.t,.f,.f,.t,.t,.f,.f,.f,.f,.f,.f,.f,.f,.f,.f,.f,.f,.f,.f,.f,.f,.f,.f,.f,.f,.f,.f,.f,.f,.f,.f,.f,.f,.f,.f,.f,.f,.f,.f,.f,.f,.f,.f,.f,.f,.f,.f,.f,.f,.f,.f,.f,.f,.f,.f,.f,.f,.f,.f,.f,.f,.f,.f,.f,.f,.f,.f,.f] (fun j=>[(4,aa .i64 j)]) k (iu (Az es[k].site es[k].path) es) rfl (by simp) (fun i hi _=> ?_) (fun _ hq=> ?_)
   ·have hi2:i<es.length:=by omega
    simp +contextual (maxSteps:=9999999) [eO,iu,Az,hi,hi2,hk,hx,XCached.e.eq_1 es[i],aD hl hi2,aS hi,hD]
   ·rw[hD]at hq;cases hq
 ·simp(maxSteps:=9999999) [du,hp]
theorem v7 {s:XCacheSet}(h:s.Ok maxLen):ag Ph aF 392 [s.v]=some (ar (Lh s.caches)):=by
 obtain⟨h1,h2⟩:=h
 have e2:=fun v=>br v 1 1000000000000
 unfold Lh
 refine ae (fn:=lR) rfl ?_
 simp +contextual (maxSteps:=9999999) [lR]
 refine aA aM Cl.fin [.f,.t,.f,.t,.f,.f,.f,.f,.f,.f,.f,.f,.f,.f,.f,.f,.f,.f,.f,.f,.f,.f,.f,.f,.f,.f,.f,.f,.f,.f,.f,.f,.f,.f,.f,.f,.f,.f,.f,.f,.f,.f,.f,.f,.f,.f,.f,.f,.f,.f,.f,.f,.f] (fun k=>[(3,aa .i64 k)]) s.caches.length (Nb s.caches) rfl (by simp) (fun k hk _=> ?_) (fun _ hp=> ?_)
 ·obtain⟨q1,q2⟩:=ua h1 hk
  have hc:=h2 _ (List.getElem_mem hk)
  have e3:=wg hc.2.1 hc.2.2
  simp +contextual (maxSteps:=9999999) [gT,Nb,hk,q1,q2,e2,e3,aD h1 hk,aS hk,XCache.e.eq_1 s.caches[k],XCache.e.eq_1 s.caches[k-1]]
 ·simp(maxSteps:=9999999) [gT,hp]
theorem vI {s:XCacheSet}(h:s.Ok maxLen):ag Ph aF 396 [s.v]=some (ar (Lh s.caches)):=by
 obtain⟨h1,h2⟩:=h
 unfold Lh
 refine ae (fn:=lF) rfl ?_
 simp +contextual (maxSteps:=9999999) [lF]
 refine aA aM Cl.fin [.f,.t,.f,.f,.f,.f,.f,.f,.t,.t,.t,.f,.f,.f,.f,.f,.f,.f,.f,.f,.f,.f,.f,.f,.f,.f,.f,.f,.f,.f,.f,.f,.f,.f,.f,.f,.f,.f,.f,.f,.f,.f,.f,.f,.f,.f,.f,.f,.f,.f,.f,.f,.f,.f,.f,.f,.f,.f,.f,.f,.f,.f,.f,.f,.f,.f,.f,.f,.f,.f,.f,.f,.f,.f,.f,.f,.f,.f,.f,.f,.f] (fun k=>[(10,aa .i64 k)]) s.caches.length (Nb s.caches) rfl (by simp) (fun k hk _=> ?_) (fun _ hp=> ?_)
 ·obtain⟨q1,q2⟩:=ua h1 hk
  have hc:=h2 _ (List.getElem_mem hk)
  have e2:=a8 s.caches[k].version 1 1000000000000
  have hx:=XCache.e.eq_1 s.caches[k]
  have hy:=XCache.e.eq_1 s.caches[k-1]
  have hb:Nb s.caches k=(!(rg s.caches[k].version 1 1000000000000)||((dK 0 k&& !(dK s.caches[k-1].version s.caches[k].version))||(dK 12 s.caches[k].entries.length||fT s.caches[k].entries.length (r8 s.caches[k].entries)))):=by
   simp only[Nb,hk,q2,List.getElem?_eq_getElem,Mr,Bool.not_and,Bool.not_not]
   rw[Bool.or_comm (dK 12 _)]
  rw[hb]
  generalize rg s.caches[k].version 1 1000000000000=b1 at e2⊢
  cases b1
  ·simp +contextual (maxSteps:=9999999) [cu,hk,hx,e2,aS hk]
  cases c2:dK 0 k&& !(dK s.caches[k-1].version s.caches[k].version)
  rotate_left
  ·rw[Bool.and_eq_true]at c2
   have c3:=q1 c2.1
   have c4:dK s.caches[k-1].version s.caches[k].version=false:=by simpa using c2.2
   simp +contextual (maxSteps:=9999999) [cu,hk,q2,hx,hy,e2,c2.1,c3,c4,aS hk]
  have c3:dK 0 k=true→dK s.caches[k-1].version s.caches[k].version=true:=fun q=>by simpa[q]using c2
  cases c4:dK 12 s.caches[k].entries.length
  rotate_left
  ·simp +contextual (maxSteps:=9999999) [cu,hk,q1,q2,hx,hy,e2,c3,c4,aS hk]
  cases hD:fT s.caches[k].entries.length (r8 s.caches[k].entries)
  ·cases c5:dK 0 k
   ·simp(maxSteps:=9999999) [cu,hk,hx,e2,c5,c4,aS hk]
    refine aA aM Cl.kn [.f,.t,.f,.f,.t,.f,.f,.f,.t,.t,.t,.f,.f,.f,.f,.f,.f,.f,.f,.f,.f,.f,.f,.f,.f,.f,.f,.f,.f,.f,.f,.f,.f,.f,.f,.f,.f,.f,.f,.f,.f,.f,.t,.t,.t,.f,.f,.f,.f,.f,.f,.f,.f,.f,.f,.f,.f,.f,.f,.f,.f,.f,.f,.f,.f,.f,.f,.f,.f,.f,.f,.f,.f,.f,.f,.f,.f,.f,.f,.f,.f] (fun j=>[(44,aa .i64 j)]) s.caches[k].entries.length (r8 s.caches[k].entries) rfl (by simp) (fun j hj _=> ?_) (fun _ hq=> ?_)
    ·have he:=hc.2.2 _ (List.getElem_mem hj)
     have e4:=bj he.1
     have e5:=bj he.2.1
     have e6:=iJ s.caches[k].entries[j].resp
     have e7:=kF (c:=s.caches[k]) hc.2.1 s.caches[k].entries[j].site s.caches[k].entries[j].path
     have hs:=tD (p:=Az s.caches[k].entries[j].site s.caches[k].entries[j].path) hj (by simp[Az])
     have hz:=XCached.e.eq_1 s.caches[k].entries[j]
     have hbE:r8 s.caches[k].entries j=(!(cC s.caches[k].entries[j].site)||(!(cC s.caches[k].entries[j].path)||(!(ph s.caches[k].entries[j].resp)||fT j (iu (Az s.caches[k].entries[j].site s.caches[k].entries[j].path) s.caches[k].entries)))):=by simp[r8,hj]
     rw[hbE,←hs]
     generalize gv (Az s.caches[k].entries[j].site s.caches[k].entries[j].path) s.caches[k].entries=F at e7⊢
     obtain⟨g,hg⟩:∃g,(F==(j:Int))=g:=⟨_,rfl⟩
     rw[hg]
     simp +contextual (maxSteps:=9999999) [cJ,hj,hz,e4,e5,e6,e7,hg,aD hc.2.1 hj,aS hj,hD]
    ·simp(maxSteps:=9999999) [cJ,aD h1 hk]
   ·have c6:=q1 c5
    have c7:=c3 c5
    simp(maxSteps:=9999999) [cu,hk,q2,hx,hy,e2,c5,c6,c7,c4,aS hk]
    refine aA aM Cl.kn [.f,.t,.f,.f,.t,.f,.f,.f,.t,.t,.t,.f,.f,.f,.f,.f,.f,.f,.f,.f,.f,.f,.f,.f,.f,.f,.f,.f,.f,.f,.f,.f,.f,.f,.f,.f,.f,.f,.f,.f,.f,.f,.t,.t,.t,.f,.f,.f,.f,.f,.f,.f,.f,.f,.f,.f,.f,.f,.f,.f,.f,.f,.f,.f,.f,.f,.f,.f,.f,.f,.f,.f,.f,.f,.f,.f,.f,.f,.f,.f,.f] (fun j=>[(44,aa .i64 j)]) s.caches[k].entries.length (r8 s.caches[k].entries) rfl (by simp) (fun j hj _=> ?_) (fun _ hq=> ?_)
    ·have he:=hc.2.2 _ (List.getElem_mem hj)
     have e4:=bj he.1
     have e5:=bj he.2.1
     have e6:=iJ s.caches[k].entries[j].resp
     have e7:=kF (c:=s.caches[k]) hc.2.1 s.caches[k].entries[j].site s.caches[k].entries[j].path
     have hs:=tD (p:=Az s.caches[k].entries[j].site s.caches[k].entries[j].path) hj (by simp[Az])
     have hz:=XCached.e.eq_1 s.caches[k].entries[j]
     have hbE:r8 s.caches[k].entries j=(!(cC s.caches[k].entries[j].site)||(!(cC s.caches[k].entries[j].path)||(!(ph s.caches[k].entries[j].resp)||fT j (iu (Az s.caches[k].entries[j].site s.caches[k].entries[j].path) s.caches[k].entries)))):=by simp[r8,hj]
     rw[hbE,←hs]
     generalize gv (Az s.caches[k].entries[j].site s.caches[k].entries[j].path) s.caches[k].entries=F at e7⊢
     obtain⟨g,hg⟩:∃g,(F==(j:Int))=g:=⟨_,rfl⟩
     rw[hg]
     simp +contextual (maxSteps:=9999999) [cJ,hj,hz,e4,e5,e6,e7,hg,aD hc.2.1 hj,aS hj,hD]
    ·simp(maxSteps:=9999999) [cJ,aD h1 hk]
  ·cases c5:dK 0 k
   ·simp(maxSteps:=9999999) [cu,hk,hx,e2,c5,c4,aS hk]
    refine aA aM (Cl.imp aM Cl.fin rfl) [.f,.t,.f,.f,.t,.f,.f,.f,.t,.t,.t,.f,.f,.f,.f,.f,.f,.f,.f,.f,.f,.f,.f,.f,.f,.f,.f,.f,.f,.f,.f,.f,.f,.f,.f,.f,.f,.f,.f,.f,.f,.f,.t,.t,.t,.f,.f,.f,.f,.f,.f,.f,.f,.f,.f,.f,.f,.f,.f,.f,.f,.f,.f,.f,.f,.f,.f,.f,.f,.f,.f,.f,.f,.f,.f,.f,.f,.f,.f,.f,.f] (fun j=>[(44,aa .i64 j)]) s.caches[k].entries.length (r8 s.caches[k].entries) rfl (by simp) (fun j hj _=> ?_) (fun _ hq=> ?_)
    ·have he:=hc.2.2 _ (List.getElem_mem hj)
     have e4:=bj he.1
     have e5:=bj he.2.1
     have e6:=iJ s.caches[k].entries[j].resp
     have e7:=kF (c:=s.caches[k]) hc.2.1 s.caches[k].entries[j].site s.caches[k].entries[j].path
     have hs:=tD (p:=Az s.caches[k].entries[j].site s.caches[k].entries[j].path) hj (by simp[Az])
     have hz:=XCached.e.eq_1 s.caches[k].entries[j]
     have hbE:r8 s.caches[k].entries j=(!(cC s.caches[k].entries[j].site)||(!(cC s.caches[k].entries[j].path)||(!(ph s.caches[k].entries[j].resp)||fT j (iu (Az s.caches[k].entries[j].site s.caches[k].entries[j].path) s.caches[k].entries)))):=by simp[r8,hj]
     rw[hbE,←hs]
     generalize gv (Az s.caches[k].entries[j].site s.caches[k].entries[j].path) s.caches[k].entries=F at e7⊢
     obtain⟨g,hg⟩:∃g,(F==(j:Int))=g:=⟨_,rfl⟩
     rw[hg]
     simp +contextual (maxSteps:=9999999) [cJ,hj,hz,e4,e5,e6,e7,hg,aD hc.2.1 hj,aS hj,hD]
    ·rw[hD]at hq;cases hq
   ·have c6:=q1 c5
    have c7:=c3 c5
    simp(maxSteps:=9999999) [cu,hk,q2,hx,hy,e2,c5,c6,c7,c4,aS hk]
    refine aA aM (Cl.imp aM Cl.fin rfl) [.f,.t,.f,.f,.t,.f,.f,.f,.t,.t,.t,.f,.f,.f,.f,.f,.f,.f,.f,.f,.f,.f,.f,.f,.f,.f,.f,.f,.f,.f,.f,.f,.f,.f,.f,.f,.f,.f,.f,.f,.f,.f,.t,.t,.t,.f,.f,.f,.f,.f,.f,.f,.f,.f,.f,.f,.f,.f,.f,.f,.f,.f,.f,.f,.f,.f,.f,.f,.f,.f,.f,.f,.f,.f,.f,.f,.f,.f,.f,.f,.f] (fun j=>[(44,aa .i64 j)]) s.caches[k].entries.length (r8 s.caches[k].entries) rfl (by simp) (fun j hj _=> ?_) (fun _ hq=> ?_)
    ·have he:=hc.2.2 _ (List.getElem_mem hj)
     have e4:=bj he.1
     have e5:=bj he.2.1
     have e6:=iJ s.caches[k].entries[j].resp
     have e7:=kF (c:=s.caches[k]) hc.2.1 s.caches[k].entries[j].site s.caches[k].entries[j].path
     have hs:=tD (p:=Az s.caches[k].entries[j].site s.caches[k].entries[j].path) hj (by simp[Az])
     have hz:=XCached.e.eq_1 s.caches[k].entries[j]
     have hbE:r8 s.caches[k].entries j=(!(cC s.caches[k].entries[j].site)||(!(cC s.caches[k].entries[j].path)||(!(ph s.caches[k].entries[j].resp)||fT j (iu (Az s.caches[k].entries[j].site s.caches[k].entries[j].path) s.caches[k].entries)))):=by simp[r8,hj]
     rw[hbE,←hs]
     generalize gv (Az s.caches[k].entries[j].site s.caches[k].entries[j].path) s.caches[k].entries=F at e7⊢
     obtain⟨g,hg⟩:∃g,(F==(j:Int))=g:=⟨_,rfl⟩
     rw[hg]
     simp +contextual (maxSteps:=9999999) [cJ,hj,hz,e4,e5,e6,e7,hg,aD hc.2.1 hj,aS hj,hD]
    ·rw[hD]at hq;cases hq
 ·simp(maxSteps:=9999999) [cu,hp]
def Pd (o:XOutbox)(k:Nat):Bool:=match o.writes[k]? with
 |some w=> !(Ju w)||(!(w.dev==o.dev)|| !(w.seq==IntKind.i64.wrap (IntKind.i64.wrap (o.next-(o.writes.length:Int))+(k:Int))))
 |none=>false
def AA (o:XOutbox):Bool:=rg o.dev 1 1000000&&(rg o.next 1 1000000&&(!(dK 20 o.writes.length)&& !(fT o.writes.length (Pd o))))
theorem zz {o:XOutbox}(h:o.Ok maxLen):ag Ph aF 407 [o.v]=some (ar (AA o)):=by
 have hl:=h.2.2.1
 refine ae (fn:=nA) rfl ?_
 simp +contextual (maxSteps:=9999999) [nA]
 refine aA aM Cl.fin [.f,.t,.f,.t,.f,.f,.f,.f,.f,.f,.t,.t,.t,.f,.f,.f,.f,.f,.f,.f,.f,.f,.f,.f,.f,.f,.f,.f,.f,.f,.f,.f,.f,.f,.f,.f,.f,.f,.f,.f,.f,.f,.f,.f,.f,.f,.f,.f,.f,.f,.f] (fun k=>[(12,aa .i64 k)]) o.writes.length (Pd o) rfl (by simp) (fun k hk _=> ?_) (fun _ hp=> ?_)
 ·have e1:=mE (h.2.2.2 _ (List.getElem_mem hk))
  simp +contextual (maxSteps:=9999999) [je,Pd,AA,hk,e1,aD hl hk,aS hk,XWrite.e.eq_1 o.writes[k]]
 ·simp +contextual (maxSteps:=9999999) [je,hp,AA,a8]
theorem Aa {o:XOutbox}(h:o.Ok maxLen):ag Ph aF 402 [o.v]=some (ar (AA o)):=by
 have hl:=h.2.2.1
 have e2:=br o.dev 1 1000000
 have e3:=br o.next 1 1000000
 unfold AA
 refine ae (fn:=gA) rfl ?_
 cases c1:rg o.dev 1 1000000<;>rw[c1]at e2
 ·simp(maxSteps:=9999999) [gA,e2]
 cases c2:rg o.next 1 1000000<;>rw[c2]at e3
 ·simp(maxSteps:=9999999) [gA,e2,e3]
 cases c3:dK 20 o.writes.length
 rotate_left
 ·simp(maxSteps:=9999999) [gA,e2,e3,c3]
 simp(maxSteps:=9999999) [gA,e2,e3,c3]
 refine aA aM Cl.fin [.f,.t,.f,.t,.t,.f,.f,.f,.f,.f,.f,.f,.f,.f,.f,.f,.f,.f,.f,.f,.f,.f,.f,.f,.f,.f,.f,.f,.f,.f,.f,.f,.f,.f,.f,.f,.f,.f,.f,.f,.f,.f,.f,.f,.f,.f,.f,.f,.f,.f,.f,.f,.f,.f,.f,.f,.f,.f,.f,.f] (fun k=>[(4,aa .i64 k)]) o.writes.length (Pd o) rfl (by simp) (fun k hk _=> ?_) (fun _ hp=> ?_)
 ·have e1:=mH (h.2.2.2 _ (List.getElem_mem hk))
  simp +contextual (maxSteps:=9999999) [ji,Pd,hk,e1,aD hl hk,aS hk,XWrite.e.eq_1 o.writes[k]]
 ·simp +contextual (maxSteps:=9999999) [ji,hp]
def sQ :List UInt8:=[110,111,116,101,115]
def DR (r:XReplica):Bool:=mi r.base&&(r.base.name==sQ&&(rg r.seen 0 1000000000000&&AA r.sync.outbox))
theorem xn {r:XReplica}(h:r.Ok maxLen):ag Ph aF 398 [r.v]=some (ar (DR r)):=by
 have e1:=nQ h.1
 have e2:=a8 r.seen 0 1000000000000
 have e3:=zz h.2.2.1
 unfold DR
 generalize mi r.base=b1 at e1⊢
 generalize rg r.seen 0 1000000000000=b2 at e2⊢
 generalize AA r.sync.outbox=b3 at e3⊢
 obtain⟨b4,h4⟩:∃g,(r.base.name==sQ)=g:=⟨_,rfl⟩
 rw[h4]
 unfold sQ at h4
 refine ae (fn:=mN) rfl ?_
 cases b1<;>cases b2<;>cases b3<;>cases b4<;>simp(maxSteps:=9999999) [mN,e1,e2,e3,h4]
theorem xR {r:XReplica}(h:r.Ok maxLen):ag Ph aF 394 [r.v]=some (ar (DR r)):=by
 have e1:=nS h.1
 have e2:=br r.seen 0 1000000000000
 have e3:=Aa h.2.2.1
 unfold DR
 generalize mi r.base=b1 at e1⊢
 generalize rg r.seen 0 1000000000000=b2 at e2⊢
 generalize AA r.sync.outbox=b3 at e3⊢
 obtain⟨b4,h4⟩:∃g,(r.base.name==sQ)=g:=⟨_,rfl⟩
 rw[h4]
 unfold sQ at h4
 refine ae (fn:=m5) rfl ?_
 cases b1<;>cases b2<;>cases b3<;>cases b4<;>simp(maxSteps:=9999999) [m5,e1,e2,e3,h4]
def qt (x y:XLock):Bool:=y.name==x.name&&(x.held&&(!y.held||(!x.shared|| !y.shared)))
def KO (ls:List XLock)(k:Nat):Bool:=match ls[k]? with
 |some x=> !(rq x.name)||(!(rg x.page 1 1000000000000)||fT k (iu (qt x) ls))
 |none=>false
def rt (ls:List XLock):Bool:= !(fT ls.length (KO ls))&& !(dK 12 ls.length)
theorem tX {ls:List XLock}(hl:ls.length≤maxLen)(h:∀x∈ls,x.Ok maxLen):ag Ph aF 380 [.agg [.pv (.lst (ls.map XLock.e))]]=some (ar (rt ls)):=by
 unfold rt
 refine ae (fn:=kO) rfl ?_
 simp +contextual (maxSteps:=9999999) [kO]
 refine aA aM Cl.fin [.f,.t,.f,.f,.f,.f,.f,.f,.t,.t,.t,.f,.f,.f,.f,.f,.f,.f,.f,.f,.f,.f,.f,.f,.f,.f,.f,.f,.f,.f,.f,.f,.f,.f,.f,.f,.f,.f,.f,.f,.f,.f,.f,.f,.f,.f,.f,.f,.f,.f,.f,.f,.f,.f,.f,.f,.f,.f,.f,.f,.f,.f,.f,.f] (fun k=>[(10,aa .i64 k)]) ls.length (KO ls) rfl (by simp) (fun k hk _=> ?_) (fun _ hp=> ?_)
 ·have e1:=vK (h _ (List.getElem_mem hk)).1
  have e2:=a8 ls[k].page 1 1000000000000
  have hx:=XLock.e.eq_1 ls[k]
  have w:=dz (e:=XLock.e) (z:=4) (fun _=>rfl) ls
  have hb:KO ls k=(!(rq ls[k].name)||(!(rg ls[k].page 1 1000000000000)||fT k (iu (qt ls[k]) ls))):=by simp[KO,hk]
  rw[hb]
  generalize rq ls[k].name=b1 at e1⊢
  generalize rg ls[k].page 1 1000000000000=b2 at e2⊢
  cases b1
  ·simp +contextual (maxSteps:=9999999) [dB,hk,hx,e1,aS hk]
  cases b2
  ·simp +contextual (maxSteps:=9999999) [dB,hk,hx,e1,e2,aS hk]
  cases hD:fT k (iu (qt ls[k]) ls)
  ·simp(maxSteps:=9999999) [dB,hk,hx,e1,e2,w,Nat.le_of_lt hk,aS hk]
   refine aA aM Cl.kn [.f,.t,.f,.f,.t,.f,.f,.f,.t,.t,.t,.f,.f,.f,.f,.f,.f,.f,.f,.f,.f,.f,.f,.f,.f,.f,.f,.f,.t,.t,.t,.f,.f,.f,.f,.f,.f,.f,.f,.f,.f,.f,.f,.f,.f,.f,.f,.f,.f,.f,.f,.f,.f,.f,.f,.f,.f,.f,.f,.f,.f,.f,.f,.f] (fun j=>[(30,aa .i64 j)]) k (iu (qt ls[k]) ls) rfl (by simp) (fun i hi _=> ?_) (fun _ hq=> ?_)
   ·have hi2:i<ls.length:=by omega
    simp +contextual (maxSteps:=9999999) [ed,iu,qt,hi,hi2,hk,hx,XLock.e.eq_1 ls[i],aD hl hi2,aS hi,hD]
   ·simp(maxSteps:=9999999) [ed,aD hl hk]
  ·simp(maxSteps:=9999999) [dB,hk,hx,e1,e2,w,Nat.le_of_lt hk,aS hk]
   refine aA aM (Cl.imp aM Cl.fin rfl) [.f,.t,.f,.f,.t,.f,.f,.f,.t,.t,.t,.f,.f,.f,.f,.f,.f,.f,.f,.f,.f,.f,.f,.f,.f,.f,.f,.f,.t,.t,.t,.f,.f,.f,.f,.f,.f,.f,.f,.f,.f,.f,.f,.f,.f,.f,.f,.f,.f,.f,.f,.f,.f,.f,.f,.f,.f,.f,.f,.f,.f,.f,.f,.f] (fun j=>[(30,aa .i64 j)]) k (iu (qt ls[k]) ls) rfl (by simp) (fun i hi _=> ?_) (fun _ hq=> ?_)
   ·have hi2:i<ls.length:=by omega
    simp +contextual (maxSteps:=9999999) [ed,iu,qt,hi,hi2,hk,hx,XLock.e.eq_1 ls[i],aD hl hi2,aS hi,hD]
   ·rw[hD]at hq;cases hq
 ·simp(maxSteps:=9999999) [dB,hp]
theorem ud {ls:List XLock}(hl:ls.length≤maxLen)(h:∀x∈ls,x.Ok maxLen):ag Ph aF 378 [.agg [.pv (.lst (ls.map XLock.e))]]=some (ar (rt ls)):=by
 unfold rt
 refine ae (fn:=k6) rfl ?_
 simp +contextual (maxSteps:=9999999) [k6]
 refine aA aM Cl.fin [.f,.t,.f,.t,.f,.f,.f,.f,.f,.f,.f,.f,.f,.f,.f,.f,.f,.f,.f,.f,.f,.f,.f,.f,.f,.f,.f,.f,.f,.f,.f,.f,.f,.f,.f,.f,.f,.f,.f,.f,.f,.f,.f,.f,.f,.f,.f,.f,.f,.f,.f,.f,.f,.f,.f,.f,.f,.f,.f,.f,.f,.f,.f,.f,.f,.f,.f] (fun k=>[(3,aa .i64 k)]) ls.length (KO ls) rfl (by simp) (fun k hk _=> ?_) (fun _ hp=> ?_)
 ·have e1:=wb (h _ (List.getElem_mem hk)).1
  have e2:=br ls[k].page 1 1000000000000
  have hx:=XLock.e.eq_1 ls[k]
  have hb:KO ls k=(!(rq ls[k].name)||(!(rg ls[k].page 1 1000000000000)||fT k (iu (qt ls[k]) ls))):=by simp[KO,hk]
  rw[hb]
  generalize rq ls[k].name=b1 at e1⊢
  generalize rg ls[k].page 1 1000000000000=b2 at e2⊢
  cases b1
  ·simp +contextual (maxSteps:=9999999) [dD,hk,hx,e1,aS hk]
  cases b2
  ·simp +contextual (maxSteps:=9999999) [dD,hk,hx,e1,e2,aS hk]
  cases hD:fT k (iu (qt ls[k]) ls)
  ·simp(maxSteps:=9999999) [dD,hk,hx,e1,e2,aS hk]
   refine aA aM Cl.kn [.f,.t,.f,.t,.t,.t,.f,.f,.f,.f,.f,.f,.f,.f,.f,.f,.f,.f,.f,.f,.f,.f,.f,.f,.f,.f,.f,.f,.f,.f,.f,.f,.f,.f,.f,.f,.f,.f,.f,.f,.f,.f,.f,.f,.f,.f,.f,.f,.f,.f,.f,.f,.f,.f,.f,.f,.f,.f,.f,.f,.f,.f,.f,.f,.f,.f,.f] (fun j=>[(5,aa .i64 j)]) k (iu (qt ls[k]) ls) rfl (by simp) (fun i hi _=> ?_) (fun _ hq=> ?_)
   ·have hi2:i<ls.length:=by omega
    simp +contextual (maxSteps:=9999999) [ep,iu,qt,hi,hi2,hk,hx,XLock.e.eq_1 ls[i],aD hl hi2,aS hi,hD]
   ·simp(maxSteps:=9999999) [ep,aD hl hk]
  ·simp(maxSteps:=9999999) [dD,hk,hx,e1,e2,aS hk]
   refine aA aM (Cl.imp aM Cl.fin rfl) [.f,.t,.f,.t,.t,.t,.f,.f,.f,.f,.f,.f,.f,.f,.f,.f,.f,.f,.f,.f,.f,.f,.f,.f,.f,.f,.f,.f,.f,.f,.f,.f,.f,.f,.f,.f,.f,.f,.f,.f,.f,.f,.f,.f,.f,.f,.f,.f,.f,.f,.f,.f,.f,.f,.f,.f,.f,.f,.f,.f,.f,.f,.f,.f,.f,.f,.f] (fun j=>[(5,aa .i64 j)]) k (iu (qt ls[k]) ls) rfl (by simp) (fun i hi _=> ?_) (fun _ hq=> ?_)
   ·have hi2:i<ls.length:=by omega
    simp +contextual (maxSteps:=9999999) [ep,iu,qt,hi,hi2,hk,hx,XLock.e.eq_1 ls[i],aD hl hi2,aS hi,hD]
   ·rw[hD]at hq;cases hq
 ·simp(maxSteps:=9999999) [dD,hp]
end Gi
