/- Of this proof. -/
import Derived.Test.YtbeaonmepfkmmaaGreatGknd
import Derived.Test.YtbeaonmepfkmmaaGreatGlCd
set_option linter.unusedSimpArgs false
set_option linter.unusedVariables false
namespace Gi
open Go Go.RowKit
set_option maxHeartbeats 8000000
set_option maxRecDepth 4000
attribute [local simp] start pa a9 b6 cP dS cO dR d5 dZ pR p5 pS p6 pT p7 pU p8 pV p9 pW qa pX qb pY qc pZ qd V.cells plain bf fO isInt isStr isBool bin bN gA bO gB dV un asList L.view av V.view viewL aR aw bS bq bE comp aK bv cL bK bj bh bi aB aq aH am az aW ap aY bH aI bm bo V.flat L.flat cX cN br putAt thaw thawL thawT V.ow dY cR cS bQ dX bR cQ freezeVs freezeLs freezeL V.mut L.mut aJ cy fQ aX bu aP dN co bG cJ L.ren aM dd bP dq bF bB wp_seq wp_block aV cV bT bt bU wp_skip wp_exit wp_ret ce b9 ct cf cF cG cE bJ aL L.notArr bA bw bz cT b8 storeD aT eS bc bZ aU mf L.mov L.closed V.closed PV.bare PV.flat
def Nl (ss:List XStore)(k:Nat):Bool:=match ss[k]?,ss[k-1]? with
 |some x,some y=> !(d7 x)||(bX 0 k&& !(Op.bytesLess y.name x.name))
 |_,_=>false
def oS (a b:XIndexDef):Bool:=a.store==b.store&&a.field==b.field
theorem C4 (a b:XIndexDef):oS a b=oS b a:=by unfold oS;rw[Bool.beq_comm (a:=a.store),Bool.beq_comm (a:=a.field)]
def Ib (us:List XIndexDef)(k:Nat):Bool:=match us[k]? with
 |some u=>mj k (nR (oS u) us)
 |none=>false
def Dw (ss:List XStore)(us:List XIndexDef)(k:Nat):Bool:=match us[k]? with
 |some u=>match ss.find? (Gr u.store)with
  |some s=> !(gY u.field)||(Ib us k||(QW u.field (mJ u.field s.items)).2.2)
  |none=>true
 |none=>false
def nH (d:XDatabase):Bool:=gY d.name&&(rg d.version 0 1000&&(!(bX 4 d.stores.length)&&(!(bX 4 d.unique.length)&&(!(mj d.stores.length (Nl d.stores))&& !(mj d.unique.length (Dw d.stores d.unique))))))
theorem qu {α:Type}(p:α→Bool)(xs:List α):(dE p xs= -1∧xs.find? p=none)∨∃j,∃hj:j<xs.length,dE p xs=(j:Int)∧xs.find? p=some xs[j]:=by
 unfold dE
 cases h:xs.findIdx? p with
 |none=>exact .inl ⟨rfl,by rw[List.findIdx?_eq_none_iff]at h;rw[List.find?_eq_none];exact fun x hx=>by simp[h x hx]⟩
 |some i=>
  rw[List.findIdx?_eq_some_iff_getElem]at h
  obtain⟨h1,h2,h3⟩:=h
  refine .inr ⟨i,h1,rfl,?_⟩
  rw[List.find?_eq_some_iff_getElem]
  exact⟨h2,i,h1,rfl,fun j hj=>by simpa using h3 j hj⟩
theorem NZ {p:XIndexDef→Bool}{us:List XIndexDef}{k:Nat}(hk:k<us.length):(!(bX (dE p (us.take k)) 0))=mj k (nR p us):=by
 have at':∀j,j<k→nR p (us.take k) j=nR p us j:=fun j hj=>by simp[nR,List.getElem?_take,hj]
 rcases wa p (us.take k)with h|⟨j,hj,h1,h2⟩
 ·rw[h,dW (by omega)]
  refine(A8 fun j hj=> ?_).symm
  have hj2:j<(us.take k).length:=by simp;omega
  rw[←at' j hj]
  have:=Mb h _ (List.getElem_mem hj2)
  simp only[nR,List.getElem?_eq_getElem hj2];exact this
 ·have hj2:j<k:=by simp at hj;omega
  rw[h1,fK (by omega)]
  refine(Pq hj2 ?_).symm
  rw[←at' j hj2];simp only[nR,List.getElem?_eq_getElem hj];exact h2
theorem Cq {us:List XIndexDef}(hl:us.length≤maxLen)(x:XIndexDef):ah Ph aN 412 [aQ (us.map XIndexDef.e),x.v]=some (aa .i64 (dE (oS x) us)):=by
 refine ae (fn:=di) rfl ?_
 simp +contextual (maxSteps:=9999999) [di]
 refine bD cC Cl.fin [.t,.f,.f,.t,.f,.f,.f,.t,.t,.f,.f,.f,.f,.f,.f,.f,.f,.f,.f] (fun k=>[(8,aa .i64 k)]) us.length (nR (oS x) us) rfl (by simp) (fun k hk hj=> ?_) (fun hj _=> ?_)
 ·have hf:=yr hk hj
  simp +contextual (maxSteps:=9999999) [bY,nR,oS,hk,hf,bW hl hk,cB hk,XIndexDef.e.eq_1 us[k],nV,L6]
 ·simp +contextual (maxSteps:=9999999) [bY,uR hj]
theorem wn {us:List XIndexDef}(hl:us.length≤maxLen)(x:XIndexDef):ah Ph aN 405 [aQ (us.map XIndexDef.e),x.v]=some (aD (!(bX (dE (oS x) us) 0))):=by
 have e1:=Cq hl x
 refine ae (fn:=cW) rfl ?_
 simp +contextual (maxSteps:=9999999) [cW,e1]
theorem kV {B:Nat}(hB1:B≤1048576){d:XDatabase}(h:d.Ok B):ah Ph aN 397 [d.v]=some (aD (nH d)):=by
 have hB:B≤maxLen:=by unfold maxLen;omega
 obtain⟨hn,hv,⟨hsl,hs⟩,hul,hu⟩:=h
 have e1:=iq (Nat.le_trans hn hB)
 have e2:=eR d.version 0 1000
 have hsL:d.stores.length≤maxLen:=Nat.le_trans hsl hB
 have huL:d.unique.length≤maxLen:=Nat.le_trans hul hB
 unfold nH
 refine ae (fn:=eC) rfl ?_
 cases c1:gY d.name<;>rw[c1]at e1
 ·simp(maxSteps:=9999999) [eC,e1]
 cases c2:rg d.version 0 1000<;>rw[c2]at e2
 ·simp(maxSteps:=9999999) [eC,e1,e2]
 cases c3:bX 4 d.stores.length
 rotate_left
 ·simp(maxSteps:=9999999) [eC,e1,e2,c3]
 cases c4:bX 4 d.unique.length
 rotate_left
 ·simp(maxSteps:=9999999) [eC,e1,e2,c3,c4]
 simp(maxSteps:=9999999) [eC,e1,e2,c3,c4]
 refine bD cC Cl.fin [.f,.t,.f,.f,.f,.f,.f,.f,.f,.f,.f,.f,.f,.f,.f,.f,.f,.f,.f,.f,.f,.f,.f,.f,.f,.f,.f,.f,.f,.f,.f,.f,.f,.f,.t,.t,.t,.f,.f,.f,.f,.f,.f,.f,.f,.f,.f,.f,.f,.f,.f,.f,.f,.f,.f,.f,.f,.f,.f,.f,.f,.f,.f,.f,.f,.f,.f,.f,.f,.f,.f,.f,.f,.f,.f,.f,.f,.f,.f,.f,.f,.f,.f,.f,.f,.f,.f,.f,.f,.f,.f,.f,.f,.f,.f,.f,.f,.f,.f,.f,.f,.f,.f] (fun k=>[(36,aa .i64 k)]) d.stores.length (Nl d.stores) rfl (by simp) (fun k hk _=> ?_) (fun _ hp=> ?_)
 ·obtain⟨q1,q2⟩:=OC hsL hk
  have e3:=iS (XStore.Ok.mono hB (hs _ (List.getElem_mem hk)))
  simp +contextual (maxSteps:=9999999) [fI,Nl,hk,q1,q2,bW hsL hk,cB hk,XStore.e.eq_1 d.stores[k],XStore.e.eq_1 d.stores[k-1],e3]
 ·simp(maxSteps:=9999999) [fI,hp]
  refine bD cC Cl.fin [.f,.t,.f,.f,.f,.f,.f,.f,.f,.f,.f,.f,.f,.f,.f,.f,.f,.f,.f,.f,.f,.f,.f,.f,.f,.f,.f,.f,.f,.f,.f,.f,.f,.f,.f,.f,.f,.f,.f,.f,.f,.f,.f,.f,.f,.f,.f,.f,.f,.f,.f,.f,.f,.f,.f,.f,.f,.f,.f,.f,.f,.f,.t,.t,.t,.f,.f,.f,.f,.f,.f,.f,.f,.f,.f,.f,.f,.f,.f,.f,.f,.f,.f,.f,.f,.f,.f,.f,.f,.f,.f,.f,.f,.f,.f,.f,.f,.f,.f,.f,.f,.f,.f] (fun k=>[(64,aa .i64 k)]) d.unique.length (Dw d.stores d.unique) rfl (by simp) (fun k hk _=> ?_) (fun _ hp=> ?_)
  ·have e3:=lK (d:=d) hsL d.unique[k].store
   have e4:=iq (Nat.le_trans (hu _ (List.getElem_mem hk)).2 hB)
   have e5:=wn (us:=d.unique.take k) (by rw[List.length_take];omega) d.unique[k]
   rw[NZ hk]at e5
   have hdup:Ib d.unique k=mj k (nR (oS d.unique[k]) d.unique):=by simp[Ib,hk]
   rw[←hdup]at e5
   rw[List.map_take]at e5
   have hx:=XIndexDef.e.eq_1 d.unique[k]
   have w:=gS (e:=XIndexDef.e) (z:=2) (fun _=>rfl) d.unique
   rcases qu (Gr d.unique[k].store) d.stores with⟨h1,h2⟩|⟨j,hj,h1,h2⟩<;>rw[h1]at e3
   ·rw[show Dw d.stores d.unique k=true by simp[Dw,hk,h2]]
    simp +contextual (maxSteps:=9999999) [fJ,hk,e3,hx,bW huL hk,cB hk,show bX (-1) 0=true from rfl]
   ·have e6:=tT hB1 (hs _ (List.getElem_mem hj)) d.unique[k].field
    have hy:=XStore.e.eq_1 d.stores[j]
    rw[show Dw d.stores d.unique k=(!(gY d.unique[k].field)||(Ib d.unique k||(QW d.unique[k].field (mJ d.unique[k].field d.stores[j].items)).2.2)) by simp[Dw,hk,h2]]
    generalize QW d.unique[k].field (mJ d.unique[k].field d.stores[j].items)=T at e6⊢
    unfold TD at e6
    generalize gY d.unique[k].field=N at e4⊢
    generalize Ib d.unique k=D at e5⊢
    simp +contextual (maxSteps:=9999999) [fJ,hk,hj,e3,e4,e5,e6,hx,hy,w,Nat.le_of_lt hk,bW huL hk,cB hk,mL]
  ·simp(maxSteps:=9999999) [fJ,hp]
theorem Cl.imp {call:Nat→List V→Option V}(hc:pf call){Q:Ex→St→Prop}(hQ:Cl Q){ks:List Fr}(hz:kz ks=true){A:Prop}:Cl (fun e τ=>A→wp call Q ks (some (e,τ))):=fun e σ τ k h a=>Q0 hc hQ hz k (h a)
theorem kZ {B:Nat}(hB1:B≤1048576){d:XDatabase}(h:d.Ok B):ah Ph aN 393 [d.v]=some (aD (nH d)):=by
 have hB:B≤maxLen:=by unfold maxLen;omega
 obtain⟨hn,hv,⟨hsl,hs⟩,hul,hu⟩:=h
 have e1:=iu (Nat.le_trans hn hB)
 have e2:=fP d.version 0 1000
 have hsL:d.stores.length≤maxLen:=Nat.le_trans hsl hB
 have huL:d.unique.length≤maxLen:=Nat.le_trans hul hB
 unfold nH
 refine ae (fn:=lE) rfl ?_
 simp(maxSteps:=9999999) [lE]
 refine bD cC Cl.fin [.f,.t,.f,.t,.f,.f,.f,.f,.f,.f,.f,.f,.f,.f,.f,.f,.f,.f,.f,.f,.f,.f,.f,.f,.f,.f,.f,.f,.f,.f,.f,.f,.f,.f,.f,.f,.f,.f,.f,.f,.f,.f,.f,.f,.f,.f,.f,.f,.f,.f,.f,.f,.f,.f,.f,.f,.f,.f,.f,.f,.f,.f,.f,.f,.f,.f,.f,.f,.f,.f,.f,.f,.f,.f,.f,.f,.f,.f,.f,.f,.f,.f,.f,.f,.f,.f,.f,.f,.f,.f,.f,.f,.f,.f,.f,.f,.f,.f,.f,.f,.f,.f,.f,.f,.f,.f,.f,.f,.f,.f,.f,.f,.f,.f,.f,.f,.f,.f,.f,.f,.f,.f,.f,.f] (fun k=>[(3,aa .i64 k)]) d.stores.length (Nl d.stores) rfl (by simp) (fun k hk _=> ?_) (fun _ hp=> ?_)
 ·obtain⟨q1,q2⟩:=OC hsL hk
  have e3:=nI (XStore.Ok.mono hB (hs _ (List.getElem_mem hk)))
  simp +contextual (maxSteps:=9999999) [eJ,Nl,hk,q1,q2,bW hsL hk,cB hk,XStore.e.eq_1 d.stores[k],XStore.e.eq_1 d.stores[k-1],e3]
 ·simp(maxSteps:=9999999) [eJ,hp]
  refine bD cC Cl.fin [.f,.t,.f,.f,.t,.f,.f,.f,.f,.f,.f,.f,.f,.f,.f,.f,.f,.f,.f,.f,.f,.f,.f,.f,.f,.f,.f,.f,.f,.f,.f,.f,.f,.f,.f,.f,.f,.f,.f,.f,.f,.f,.f,.f,.f,.f,.f,.f,.f,.f,.f,.f,.f,.f,.f,.f,.f,.f,.f,.f,.f,.f,.f,.f,.f,.f,.f,.f,.f,.f,.f,.f,.f,.f,.f,.f,.f,.f,.f,.f,.f,.f,.f,.f,.f,.f,.f,.f,.f,.f,.f,.f,.f,.f,.f,.f,.f,.f,.f,.f,.f,.f,.f,.f,.f,.f,.f,.f,.f,.f,.f,.f,.f,.f,.f,.f,.f,.f,.f,.f,.f,.f,.f,.f] (fun k=>[(4,aa .i64 k)]) d.unique.length (Dw d.stores d.unique) rfl (by simp) (fun k hk _=> ?_) (fun _ hp=> ?_)
  ·have e3:=lS (d:=d) hsL d.unique[k].store
   have e4:=iu (Nat.le_trans (hu _ (List.getElem_mem hk)).2 hB)
   have hdup:Ib d.unique k=mj k (nR (oS d.unique[k]) d.unique):=by simp[Ib,hk]
   have hx:=XIndexDef.e.eq_1 d.unique[k]
   rcases qu (Gr d.unique[k].store) d.stores with⟨h1,h2⟩|⟨j,hj,h1,h2⟩<;>rw[h1]at e3
   ·rw[show Dw d.stores d.unique k=true by simp[Dw,hk,h2]]
    simp +contextual (maxSteps:=9999999) [dw,hk,e3,hx,bW huL hk,cB hk,show bX (-1) 0=true from rfl]
   ·have e6:=tY hB1 (hs _ (List.getElem_mem hj)) d.unique[k].field
    have hy:=XStore.e.eq_1 d.stores[j]
    rw[show Dw d.stores d.unique k=(!(gY d.unique[k].field)||(Ib d.unique k||(QW d.unique[k].field (mJ d.unique[k].field d.stores[j].items)).2.2)) by simp[Dw,hk,h2],hdup]
    generalize QW d.unique[k].field (mJ d.unique[k].field d.stores[j].items)=T at e6⊢
    unfold TD at e6
    generalize gY d.unique[k].field=N at e4⊢
    cases N
    ·simp +contextual (maxSteps:=9999999) [dw,hk,hj,e3,e4,e6,hx,hy,bW huL hk,cB hk,mL]
    cases hT:T.2.2<;>rw[hT]at e6
    rotate_left
    ·simp +contextual (maxSteps:=9999999) [dw,hk,hj,e3,e4,e6,hx,hy,bW huL hk,cB hk,mL]
    cases hD:mj k (nR (oS d.unique[k]) d.unique)
    ·simp(maxSteps:=9999999) [dw,hk,hj,e3,e4,e6,hx,hy,bW huL hk,cB hk,mL]
     refine bD cC (Cl.kn) [.f,.t,.f,.f,.t,.f,.f,.f,.f,.t,.f,.f,.f,.f,.f,.f,.f,.f,.f,.f,.f,.f,.f,.f,.f,.f,.f,.f,.f,.f,.f,.f,.f,.f,.f,.f,.f,.f,.f,.f,.f,.f,.f,.f,.f,.f,.f,.f,.f,.f,.f,.f,.f,.f,.f,.f,.f,.f,.f,.f,.f,.f,.f,.f,.f,.f,.f,.f,.f,.f,.f,.f,.f,.f,.f,.f,.f,.f,.f,.f,.f,.f,.f,.f,.f,.f,.f,.f,.f,.f,.f,.f,.f,.f,.f,.f,.f,.f,.f,.f,.f,.f,.f,.f,.f,.f,.f,.f,.f,.f,.f,.f,.f,.f,.f,.f,.f,.f,.f,.f,.f,.f,.f,.f] (fun j=>[(9,aa .i64 j)]) k (nR (oS d.unique[k]) d.unique) rfl (by simp) (fun i hi _=> ?_) (fun _ hq=> ?_)
     ·have hi2:i<d.unique.length:=by omega
      have hcm:oS d.unique[k] d.unique[i]=(d.unique[i].store==d.unique[k].store&&d.unique[i].field==d.unique[k].field):=C4 _ _
      simp +contextual (maxSteps:=9999999) [eK,nR,hcm,hi2,hk,hx,XIndexDef.e.eq_1 d.unique[i],nV,L6,bW huL hi2,cB hi,hD]
     ·simp(maxSteps:=9999999) [eK,bW huL hk]
    ·simp(maxSteps:=9999999) [dw,hk,hj,e3,e4,e6,hx,hy,bW huL hk,cB hk,mL]
     refine bD cC (Cl.imp cC Cl.fin rfl) [.f,.t,.f,.f,.t,.f,.f,.f,.f,.t,.f,.f,.f,.f,.f,.f,.f,.f,.f,.f,.f,.f,.f,.f,.f,.f,.f,.f,.f,.f,.f,.f,.f,.f,.f,.f,.f,.f,.f,.f,.f,.f,.f,.f,.f,.f,.f,.f,.f,.f,.f,.f,.f,.f,.f,.f,.f,.f,.f,.f,.f,.f,.f,.f,.f,.f,.f,.f,.f,.f,.f,.f,.f,.f,.f,.f,.f,.f,.f,.f,.f,.f,.f,.f,.f,.f,.f,.f,.f,.f,.f,.f,.f,.f,.f,.f,.f,.f,.f,.f,.f,.f,.f,.f,.f,.f,.f,.f,.f,.f,.f,.f,.f,.f,.f,.f,.f,.f,.f,.f,.f,.f,.f,.f] (fun j=>[(9,aa .i64 j)]) k (nR (oS d.unique[k]) d.unique) rfl (by simp) (fun i hi _=> ?_) (fun _ hq=> ?_)
     ·have hi2:i<d.unique.length:=by omega
      have hcm:oS d.unique[k] d.unique[i]=(d.unique[i].store==d.unique[k].store&&d.unique[i].field==d.unique[k].field):=C4 _ _
      simp +contextual (maxSteps:=9999999) [eK,nR,hcm,hi2,hk,hx,XIndexDef.e.eq_1 d.unique[i],nV,L6,bW huL hi2,cB hi,hD]
     ·rw[hD]at hq;cases hq
  ·simp +contextual (maxSteps:=9999999) [dw,hp,e1,e2]
theorem ww {o:XOp}(h:o.Ok maxLen):ah Ph aN 596 [o.v]=some (aD (ji o)):=by
 obtain⟨_,h1,h2,h3,h4⟩:=h
 have e1:=eR o.kind 1 6
 have e2:=iq h1
 have e3:=fT h2
 have e4:=ir h3
 have e5:=iq h4
 unfold ji
 obtain⟨g5,q5⟩:∃g,(o.kind==5)=g:=⟨_,rfl⟩
 obtain⟨g6,q6⟩:∃g,(o.kind==6)=g:=⟨_,rfl⟩
 obtain⟨gf,qf⟩:∃g,(o.field==[])=g:=⟨_,rfl⟩
 rw[q5,q6,qf]
 generalize rg o.kind 1 6=b1 at e1⊢
 generalize gY o.store=b2 at e2⊢
 generalize eZ o.key=b3 at e3⊢
 generalize cI o.rcd.fs=b4 at e4⊢
 generalize gY o.field=b5 at e5⊢
 refine ae (fn:=m6) rfl ?_
 cases b1
 ·simp(maxSteps:=9999999) [m6,e1]
 cases b2
 ·simp(maxSteps:=9999999) [m6,e1,e2]
 cases g5<;>cases b3<;>cases b4<;>cases g6<;>simp +contextual (maxSteps:=9999999) [m6,e1,e2,e3,e4,e5,q5,q6,qf]
theorem wX {o:XOp}(h:o.Ok maxLen):ah Ph aN 593 [o.v]=some (aD (ji o)):=by
 obtain⟨_,h1,h2,h3,h4⟩:=h
 have e1:=fP o.kind 1 6
 have e2:=iu h1
 have e3:=eu h2
 have e4:=fj h3
 have e5:=iu h4
 unfold ji
 obtain⟨g5,q5⟩:∃g,(o.kind==5)=g:=⟨_,rfl⟩
 obtain⟨g6,q6⟩:∃g,(o.kind==6)=g:=⟨_,rfl⟩
 obtain⟨gf,qf⟩:∃g,(o.field==[])=g:=⟨_,rfl⟩
 rw[q5,q6,qf]
 generalize rg o.kind 1 6=b1 at e1⊢
 generalize gY o.store=b2 at e2⊢
 generalize eZ o.key=b3 at e3⊢
 generalize cI o.rcd.fs=b4 at e4⊢
 generalize gY o.field=b5 at e5⊢
 refine ae (fn:=m7) rfl ?_
 cases b1
 ·simp(maxSteps:=9999999) [m7,e1]
 cases b2
 ·simp(maxSteps:=9999999) [m7,e1,e2]
 cases g5<;>cases b3<;>cases b4<;>cases g6<;>simp +contextual (maxSteps:=9999999) [m7,e1,e2,e3,e4,e5,q5,q6,qf]
theorem HG {A B:Nat}(hAB:A≤B){o:XOp}(h:o.Ok A):o.Ok B:=⟨h.1,Nat.le_trans h.2.1 hAB,XKey.Ok.mono hAB h.2.2.1,XRecord.Ok.mono hAB h.2.2.2.1,Nat.le_trans h.2.2.2.2 hAB⟩
theorem L0 {B:Nat}{s:XStore}(h:s.Ok B)(r:XRange):(qr s r).1.Ok B:=by
 unfold qr
 cases d7 s<;>simp only[cond_true,cond_false]
 ·exact h
 ·exact⟨h.1,⟨Nat.le_trans (F6 r s.items) h.2.1.1,fun x m=>h.2.1.2 x (List.mem_filter.1 m).1⟩,h.2.2⟩
theorem Re {B:Nat}(hB:17≤B){s:XStore}(h:s.Ok B){k:XKey}(hk:k.Ok B){r:XRecord}(hr:r.Ok B):(zQ s k r).1.Ok B:=by
 unfold zQ;split
 ·exact h
 ·exact GL hB h hk hr
theorem K5 {B:Nat}(hB:17≤B){s:XStore}(h:s.Ok B){o:XOp}(ho:o.Ok B):(ru s o).1.Ok B:=by
 obtain⟨_,_,hk,hr,_⟩:=ho
 unfold ru
 cases o.kind==1<;>simp only[cond_true,cond_false]
 case true=>exact GL hB h hk hr
 cases o.kind==2<;>simp only[cond_true,cond_false]
 case true=>exact Re hB h hk hr
 cases o.kind==3<;>simp only[cond_true,cond_false]
 case true=>exact L0 h _
 cases o.kind==5<;>simp only[cond_true,cond_false]
 case true=>exact L0 h _
 cases o.kind==4<;>simp only[cond_true,cond_false]
 case true=>exact h
 exact GL hB h hk (GR (by omega) (CW h o.key) _ _)
def qG (d:XDatabase)(j:Nat)(s:XStore):XDatabase:=⟨d.name,d.version,d.stores.set j s,d.unique⟩
def hC (d:XDatabase)(o:XOp):XDatabase×Int×Bool:=match nH d&&ji o,d.stores.findIdx? (Gr o.store)with
 |true,some j=>(match d.stores[j]? with
  |some st=>bif (ru st o).2.2&&nH (qG d j (ru st o).1)then(qG d j (ru st o).1,(ru st o).2.1,true)else(d,0,false)
  |none=>(d,0,false))
 |_,_=>(d,0,false)
theorem GT {B:Nat}{d:XDatabase}(h:d.Ok B)(j:Nat){s:XStore}(hs:s.Ok B):(qG d j s).Ok B:=by
 obtain⟨h1,h2,⟨h3,h4⟩,h5⟩:=h
 refine⟨h1,h2,⟨by simpa[qG]using h3,fun x m=> ?_⟩,h5⟩
 rcases List.mem_or_eq_of_mem_set m with m|rfl
 ·exact h4 x m
 ·exact hs
theorem GQ {B:Nat}(hB:17≤B){d:XDatabase}(h:d.Ok B){o:XOp}(ho:o.Ok B):(hC d o).1.Ok B:=by
 unfold hC
 split
 ·split
  ·rename_i st hst
   cases(ru st o).2.2&&nH (qG d _ (ru st o).1)<;>simp only[cond_true,cond_false]
   ·exact h
   ·exact GT h _ (K5 hB (h.2.2.1.2 _ (List.mem_of_getElem? hst)) ho)
  ·exact h
 ·exact h
theorem QJ (d:XDatabase)(j:Nat)(s:XStore):(qG d j s).stores.map XStore.e=(d.stores.map XStore.e).set j [.str s.name, .lst (s.items.map XItem.e), .int .i64 s.auto]:=by
 simp only[qG,List.map_set,XStore.e.eq_1]
abbrev TN (d:XDatabase):List L:=[.pv (.str d.name), .pv (.int .i64 d.version),m9 3 (d.stores.map XStore.e), .own 2 (d.unique.map XIndexDef.e)]
abbrev Py (x:XDatabase×Int×Bool):V:= .tup [(true,TN x.1),(false,[.pv (.int .i64 x.2.1)]),(false,[.pv (.bool x.2.2)])]
theorem uh {B:Nat}(hB0:17≤B)(hB:B≤1048576){d:XDatabase}(h:d.Ok B){o:XOp}(ho:o.Ok B):ah Ph aN 584 [d.v,o.v]=some (Py (hC d o)):=by
 have e1:=jy hB h
 have hsl:d.stores.length≤maxLen:=Nat.le_trans h.2.2.1.1 (by unfold maxLen;omega)
 have e2:=lK hsl o.store
 have e3:=kV hB h
 have e4:=ww (HG (show B≤maxLen by unfold maxLen;omega) ho)
 unfold dE at e2
 unfold hC
 have hnd:nd 3 (d.stores.map XStore.e)= .nil∧m9 3 (d.stores.map XStore.e)= .nil∨nd 3 (d.stores.map XStore.e)= .down 3 (d.stores.map XStore.e)∧m9 3 (d.stores.map XStore.e)= .own 3 (d.stores.map XStore.e):=by
  cases d.stores.map XStore.e with
  |nil=>exact .inl ⟨rfl,rfl⟩
  |cons r rs=>exact .inr ⟨rfl,rfl⟩
 cases b1:nH d<;>rw[b1]at e3
 ·simp only[Bool.false_and]
  generalize (match d.stores.findIdx? (Gr o.store)with|some i=>(i:Int)|none=> -1)=F at e2
  rcases hnd with⟨u1,u2⟩|⟨u1,u2⟩<;>rw[u1]at e1<;>(refine ae (fn:=dH) rfl ?_;simp(maxSteps:=600000) [dH,e1,e2,e3,u2])
 cases b2:ji o<;>rw[b2]at e4
 ·simp only[Bool.and_false]
  generalize (match d.stores.findIdx? (Gr o.store)with|some i=>(i:Int)|none=> -1)=F at e2
  rcases hnd with⟨u1,u2⟩|⟨u1,u2⟩<;>rw[u1]at e1<;>(refine ae (fn:=dH) rfl ?_;simp(maxSteps:=600000) [dH,e1,e2,e3,e4,u2])
 simp only[Bool.and_self]
 cases b3:d.stores.findIdx? (Gr o.store)with
 |none=>
  rw[b3]at e2
  simp only at e2⊢
  have l0:bX (-1) 0=true:=rfl
  rcases hnd with⟨u1,u2⟩|⟨u1,u2⟩<;>rw[u1]at e1<;>(refine ae (fn:=dH) rfl ?_;simp(maxSteps:=600000) [dH,e1,e2,e3,e4,l0,u2])
 |some j=>
  rw[b3]at e2
  obtain⟨hj,_⟩:=List.findIdx?_eq_some_iff_getElem.1 b3
  simp only[hj,List.getElem?_eq_getElem]at e2⊢
  have hne:d.stores.map XStore.e≠[]:=fun e=>by have:=congrArg List.length e;simp at this;simp[this]at hj
  have u1:=((zx 3 (d.stores.map XStore.e)).resolve_left (fun q=>hne q.1)).2
  have u2:m9 3 (d.stores.map XStore.e)= .own 3 (d.stores.map XStore.e):=by
   cases q:d.stores.map XStore.e with
   |nil=>exact absurd q hne
   |cons r rs=>rfl
  clear hnd
  rw[u1]at e1
  have hst:=h.2.2.1.2 _ (List.getElem_mem hj)
  have hx:=XStore.e.eq_1 d.stores[j]
  have hok:=GT h j (K5 hB0 hst ho)
  have e6:=kV hB hok
  have hse:=QJ d j (ru d.stores[j] o).1
  have u3:m9 3 ((qG d j (ru d.stores[j] o).1).stores.map XStore.e)= .own 3 ((qG d j (ru d.stores[j] o).1).stores.map XStore.e):=by
   rw[hse]
   cases q:d.stores.map XStore.e with
   |nil=>exact absurd q hne
   |cons r rs=>cases j<;>rfl
  rw[hse]at u3
  simp only[XDatabase.v]at e6
  rw[hse]at e6
  replace e6:ah Ph aN 397 [.agg [.pv (.str d.name), .pv (.int .i64 d.version), .pv (.lst ((d.stores.map XStore.e).set j [.str (ru d.stores[j] o).1.name, .lst ((ru d.stores[j] o).1.items.map XItem.e), .int .i64 (ru d.stores[j] o).1.auto])), .pv (.lst (d.unique.map XIndexDef.e))]]=some (aD (nH (qG d j (ru d.stores[j] o).1))):=e6
  obtain⟨p1,p2⟩:=R1 d.stores[j] o
  obtain⟨l,hlv,e5⟩:=Gn hB0 hB hst ho
  simp only[Uh]at e5
  cases b4:(ru d.stores[j] o).2.2
  ·simp only[Bool.false_and,cond_false,Py,TN]
   rw[u2]
   rw[p1,b4]at e5
   rcases hlv with rfl|⟨rfl,hlv⟩<;>(refine ae (fn:=dH) rfl ?_;simp(maxSteps:=600000) [dH,e1,e2,e3,e4,e5,hj,hx,mL])
  ·simp only[Bool.true_and,Py]
   rw[p2 b4]at e5 hlv
   rw[b4]at e5
   generalize hq:(ru d.stores[j] o).2.1=qn at*
   generalize (ru d.stores[j] o).1.items.map XItem.e=R at*
   cases b5:nH (qG d j (ru d.stores[j] o).1)<;>rw[b5]at e6<;>simp only[cond_true,cond_false,TN]
   ·rw[u2]
    rcases hlv with rfl|⟨rfl,rfl⟩<;>(refine ae (fn:=dH) rfl ?_;simp(maxSteps:=600000) [dH,e1,e2,e3,e4,e5,e6,hj,hx,mL,qG])
   ·rw[hse,u3]
    rcases hlv with rfl|⟨rfl,rfl⟩<;>(refine ae (fn:=dH) rfl ?_;simp(maxSteps:=600000) [dH,e1,e2,e3,e4,e5,e6,hj,hx,mL,qG])
theorem uu {B:Nat}(hB0:17≤B)(hB:B≤1048576){d:XDatabase}(h:d.Ok B){o:XOp}(ho:o.Ok B):ah Ph aN 577 [d.v,o.v]=some (Py (hC d o)):=by
 have e1:=oW hB h
 have hsl:d.stores.length≤maxLen:=Nat.le_trans h.2.2.1.1 (by unfold maxLen;omega)
 have e2:=lS hsl o.store
 have e3:=kZ hB h
 have e4:=wX (HG (show B≤maxLen by unfold maxLen;omega) ho)
 unfold dE at e2
 unfold hC
 have hnd:nd 3 (d.stores.map XStore.e)= .nil∧m9 3 (d.stores.map XStore.e)= .nil∨nd 3 (d.stores.map XStore.e)= .down 3 (d.stores.map XStore.e)∧m9 3 (d.stores.map XStore.e)= .own 3 (d.stores.map XStore.e):=by
  cases d.stores.map XStore.e with
  |nil=>exact .inl ⟨rfl,rfl⟩
  |cons r rs=>exact .inr ⟨rfl,rfl⟩
 cases b1:nH d<;>rw[b1]at e3
 ·simp only[Bool.false_and]
  generalize (match d.stores.findIdx? (Gr o.store)with|some i=>(i:Int)|none=> -1)=F at e2
  rcases hnd with⟨u1,u2⟩|⟨u1,u2⟩<;>rw[u1]at e1<;>(refine ae (fn:=dK) rfl ?_;simp(maxSteps:=600000) [dK,e1,e2,e3,u2])
 cases b2:ji o<;>rw[b2]at e4
 ·simp only[Bool.and_false]
  generalize (match d.stores.findIdx? (Gr o.store)with|some i=>(i:Int)|none=> -1)=F at e2
  rcases hnd with⟨u1,u2⟩|⟨u1,u2⟩<;>rw[u1]at e1<;>(refine ae (fn:=dK) rfl ?_;simp(maxSteps:=600000) [dK,e1,e2,e3,e4,u2])
 simp only[Bool.and_self]
 cases b3:d.stores.findIdx? (Gr o.store)with
 |none=>
  rw[b3]at e2
  simp only at e2⊢
  have l0:bX (-1) 0=true:=rfl
  rcases hnd with⟨u1,u2⟩|⟨u1,u2⟩<;>rw[u1]at e1<;>(refine ae (fn:=dK) rfl ?_;simp(maxSteps:=600000) [dK,e1,e2,e3,e4,l0,u2])
 |some j=>
  rw[b3]at e2
  obtain⟨hj,_⟩:=List.findIdx?_eq_some_iff_getElem.1 b3
  simp only[hj,List.getElem?_eq_getElem]at e2⊢
  have hne:d.stores.map XStore.e≠[]:=fun e=>by have:=congrArg List.length e;simp at this;simp[this]at hj
  have u1:=((zx 3 (d.stores.map XStore.e)).resolve_left (fun q=>hne q.1)).2
  have u2:m9 3 (d.stores.map XStore.e)= .own 3 (d.stores.map XStore.e):=by
   cases q:d.stores.map XStore.e with
   |nil=>exact absurd q hne
   |cons r rs=>rfl
  clear hnd
  rw[u1]at e1
  have hst:=h.2.2.1.2 _ (List.getElem_mem hj)
  have hx:=XStore.e.eq_1 d.stores[j]
  have hok:=GT h j (K5 hB0 hst ho)
  have e6:=kZ hB hok
  have hse:=QJ d j (ru d.stores[j] o).1
  have u3:m9 3 ((qG d j (ru d.stores[j] o).1).stores.map XStore.e)= .own 3 ((qG d j (ru d.stores[j] o).1).stores.map XStore.e):=by
   rw[hse]
   cases q:d.stores.map XStore.e with
   |nil=>exact absurd q hne
   |cons r rs=>cases j<;>rfl
  rw[hse]at u3
  simp only[XDatabase.v]at e6
  rw[hse]at e6
  replace e6:ah Ph aN 393 [.agg [.pv (.str d.name), .pv (.int .i64 d.version), .pv (.lst ((d.stores.map XStore.e).set j [.str (ru d.stores[j] o).1.name, .lst ((ru d.stores[j] o).1.items.map XItem.e), .int .i64 (ru d.stores[j] o).1.auto])), .pv (.lst (d.unique.map XIndexDef.e))]]=some (aD (nH (qG d j (ru d.stores[j] o).1))):=e6
  obtain⟨l,hlv,e5⟩:=AO hB0 hB hst ho
  simp only[Uh]at e5
  cases b4:(ru d.stores[j] o).2.2
  ·simp only[Bool.false_and,cond_false,Py,TN]
   rw[u2]
   rw[b4]at e5
   rcases hlv with rfl|⟨rfl,hlv⟩<;>(refine ae (fn:=dK) rfl ?_;simp(maxSteps:=600000) [dK,e1,e2,e3,e4,e5,hj,hx,mL])
  ·simp only[Bool.true_and,Py]
   rw[b4]at e5
   generalize hq:(ru d.stores[j] o).2.1=qn at*
   generalize (ru d.stores[j] o).1.items.map XItem.e=R at*
   cases b5:nH (qG d j (ru d.stores[j] o).1)<;>rw[b5]at e6<;>simp only[cond_true,cond_false,TN]
   ·rw[u2]
    rcases hlv with rfl|⟨rfl,rfl⟩<;>(refine ae (fn:=dK) rfl ?_;simp(maxSteps:=600000) [dK,e1,e2,e3,e4,e5,e6,hj,hx,mL,qG])
   ·rw[hse,u3]
    rcases hlv with rfl|⟨rfl,rfl⟩<;>(refine ae (fn:=dK) rfl ?_;simp(maxSteps:=600000) [dK,e1,e2,e3,e4,e5,e6,hj,hx,mL,qG])
end Gi
