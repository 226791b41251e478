/- Of this proof. -/
import Derived.Test.YtbeaonmepfkmmaaGreatGkov
import Derived.Test.YtbeaonmepfkmmaaGreatGlCv
import Derived.Test.YtbeaonmepfkmmaaGreatGnAv
set_option linter.unusedSimpArgs false
set_option linter.unusedVariables false
namespace Gi
open Go Go.RowKit
set_option maxHeartbeats 8000000
set_option maxRecDepth 4000
attribute [local simp] start nY bo cj cE dE cD dD dJ dI pa pp pd pq pe pt pf pw pg px ph py pj pz pk pA pm pB V.cells plain bi fT isInt isStr isBool bin bK fR bL fS dF un asList L.view az V.view viewL aS aA bO bg bJ comp aM bA cz bI bc a9 ba av aj aE ai au aQ aq aY bC aD bd bf V.flat L.flat cT cS bq putAt thaw thawL thawT V.ow dH cG cH bM dG bN cF freezeVs freezeLs freezeL V.mut L.mut aI bY fu aZ bB aP dL cf bE cy L.ren aO cX bR cZ bG bD wp_seq wp_block aT cJ bP bh bQ wp_skip wp_exit wp_ret ca b7 ce cd cr ct cq bH aL L.notArr bu br bt cI b6 storeD aV ep a8 bW aU lV L.mov L.closed V.closed PV.bare PV.flat
theorem Cl.imp {call:Nat→List V→Option V}(hc:qu call){Q:Ex→St→Prop}(hQ:Cl Q){ks:List Fr}(hz:kz ks=true){A:Prop}:Cl (fun e τ=>A→wp call Q ks (some (e,τ))):=fun e σ τ k h a=>Sm hc hQ hz k (h a)
theorem lM {B:Nat}(hB1:B≤1048576){d:XDatabase}(h:d.Ok B):ah Ph aH 393 [d.v]=some (aF (tU d)):=by
 have hB:B≤maxLen:=by unfold maxLen;omega
 obtain⟨hn,hv,⟨hsl,hs⟩,hul,hu⟩:=h
 have e1:=iI (Zc hn hB)
 have e2:=fY d.version 0 1000
 have hsL:d.stores.length≤maxLen:=Zc hsl hB
 have huL:d.unique.length≤maxLen:=Zc hul hB
 unfold tU
 refine aa (fn:=ml) rfl ?_
 simp(maxSteps:=9999999) [ml]
 refine bm bX Cl.fin [.f,.t,.f,.t,.f,.f,.f,.f,.f,.f,.f,.f,.f,.f,.f,.f,.f,.f,.f,.f,.f,.f,.f,.f,.f,.f,.f,.f,.f,.f,.f,.f,.f,.f,.f,.f,.f,.f,.f,.f,.f,.f,.f,.f,.f,.f,.f,.f,.f,.f,.f,.f,.f,.f,.f,.f,.f,.f,.f,.f,.f,.f,.f,.f,.f,.f,.f,.f,.f,.f,.f,.f,.f,.f,.f,.f,.f,.f,.f,.f,.f,.f,.f,.f,.f,.f,.f,.f,.f,.f,.f,.f,.f,.f,.f,.f,.f,.f,.f,.f,.f,.f,.f,.f,.f,.f,.f,.f,.f,.f,.f,.f,.f,.f,.f,.f,.f,.f,.f,.f,.f,.f,.f,.f] (fun k=>[(3,ae .i64 k)]) d.stores.length (QL d.stores) rfl (by simp) (fun k hk _=> ?_) (fun _ hp=> ?_)
 ·obtain⟨q1,q2⟩:=PU hsL hk
  have e3:=oB (XStore.Ok.mono hB (hs _ (Zf hk)))
  simp +contextual (maxSteps:=9999999) [eN,QL,hk,q1,q2,bw hsL hk,bU hk,XStore.e.eq_1 d.stores[k],XStore.e.eq_1 d.stores[k-1],e3]
 ·simp(maxSteps:=9999999) [eN,hp]
  refine bm bX Cl.fin [.f,.t,.f,.f,.t,.f,.f,.f,.f,.f,.f,.f,.f,.f,.f,.f,.f,.f,.f,.f,.f,.f,.f,.f,.f,.f,.f,.f,.f,.f,.f,.f,.f,.f,.f,.f,.f,.f,.f,.f,.f,.f,.f,.f,.f,.f,.f,.f,.f,.f,.f,.f,.f,.f,.f,.f,.f,.f,.f,.f,.f,.f,.f,.f,.f,.f,.f,.f,.f,.f,.f,.f,.f,.f,.f,.f,.f,.f,.f,.f,.f,.f,.f,.f,.f,.f,.f,.f,.f,.f,.f,.f,.f,.f,.f,.f,.f,.f,.f,.f,.f,.f,.f,.f,.f,.f,.f,.f,.f,.f,.f,.f,.f,.f,.f,.f,.f,.f,.f,.f,.f,.f,.f,.f] (fun k=>[(4,ae .i64 k)]) d.unique.length (E7 d.stores d.unique) rfl (by simp) (fun k hk _=> ?_) (fun _ hp=> ?_)
  ·have e3:=mJ (d:=d) hsL d.unique[k].store
   have e4:=iI (Zc (hu _ (Zf hk)).2 hB)
   have hdup:JD d.unique k=mY k (oK (p9 d.unique[k]) d.unique):=by simp[JD,hk]
   have hx:=XIndexDef.e.eq_1 d.unique[k]
   rcases o6 (H6 d.unique[k].store) d.stores with⟨h1,h2⟩|⟨j,hj,h1,h2⟩<;>rw[h1]at e3
   ·rw[show E7 d.stores d.unique k=true by simp[E7,hk,h2]]
    simp +contextual (maxSteps:=9999999) [dx,hk,e3,hx,bw huL hk,bU hk,show b9 (-1) 0=true from rfl]
   ·have e6:=vl hB1 (hs _ (Zf hj)) d.unique[k].field
    have hy:=XStore.e.eq_1 d.stores[j]
    rw[show E7 d.stores d.unique k=(!(ie d.unique[k].field)||(JD d.unique k||(Si d.unique[k].field (nq d.unique[k].field d.stores[j].items)).2.2)) by simp[E7,hk,h2],hdup]
    generalize Si d.unique[k].field (nq d.unique[k].field d.stores[j].items)=T at e6⊢
    unfold UO at e6
    generalize ie d.unique[k].field=N at e4⊢
    cases N
    ·simp +contextual (maxSteps:=9999999) [dx,hk,hj,e3,e4,e6,hx,hy,bw huL hk,bU hk,nu]
    cases hT:T.2.2<;>rw[hT]at e6
    rotate_left
    ·simp +contextual (maxSteps:=9999999) [dx,hk,hj,e3,e4,e6,hx,hy,bw huL hk,bU hk,nu]
    cases hD:mY k (oK (p9 d.unique[k]) d.unique)
    ·simp(maxSteps:=9999999) [dx,hk,hj,e3,e4,e6,hx,hy,bw huL hk,bU hk,nu]
     refine bm bX (Cl.kn) [.f,.t,.f,.f,.t,.f,.f,.f,.f,.t,.f,.f,.f,.f,.f,.f,.f,.f,.f,.f,.f,.f,.f,.f,.f,.f,.f,.f,.f,.f,.f,.f,.f,.f,.f,.f,.f,.f,.f,.f,.f,.f,.f,.f,.f,.f,.f,.f,.f,.f,.f,.f,.f,.f,.f,.f,.f,.f,.f,.f,.f,.f,.f,.f,.f,.f,.f,.f,.f,.f,.f,.f,.f,.f,.f,.f,.f,.f,.f,.f,.f,.f,.f,.f,.f,.f,.f,.f,.f,.f,.f,.f,.f,.f,.f,.f,.f,.f,.f,.f,.f,.f,.f,.f,.f,.f,.f,.f,.f,.f,.f,.f,.f,.f,.f,.f,.f,.f,.f,.f,.f,.f,.f,.f] (fun j=>[(9,ae .i64 j)]) k (oK (p9 d.unique[k]) d.unique) rfl (by simp) (fun i hi _=> ?_) (fun _ hq=> ?_)
     ·have hi2:i<d.unique.length:=by omega
      have hcm:p9 d.unique[k] d.unique[i]=(d.unique[i].store==d.unique[k].store&&d.unique[i].field==d.unique[k].field):=Eu _ _
      simp +contextual (maxSteps:=9999999) [eO,oK,hcm,hi2,hk,hx,XIndexDef.e.eq_1 d.unique[i],oO,Nz,bw huL hi2,bU hi,hD]
     ·simp(maxSteps:=9999999) [eO,bw huL hk]
    ·simp(maxSteps:=9999999) [dx,hk,hj,e3,e4,e6,hx,hy,bw huL hk,bU hk,nu]
     refine bm bX (Cl.imp bX Cl.fin rfl) [.f,.t,.f,.f,.t,.f,.f,.f,.f,.t,.f,.f,.f,.f,.f,.f,.f,.f,.f,.f,.f,.f,.f,.f,.f,.f,.f,.f,.f,.f,.f,.f,.f,.f,.f,.f,.f,.f,.f,.f,.f,.f,.f,.f,.f,.f,.f,.f,.f,.f,.f,.f,.f,.f,.f,.f,.f,.f,.f,.f,.f,.f,.f,.f,.f,.f,.f,.f,.f,.f,.f,.f,.f,.f,.f,.f,.f,.f,.f,.f,.f,.f,.f,.f,.f,.f,.f,.f,.f,.f,.f,.f,.f,.f,.f,.f,.f,.f,.f,.f,.f,.f,.f,.f,.f,.f,.f,.f,.f,.f,.f,.f,.f,.f,.f,.f,.f,.f,.f,.f,.f,.f,.f,.f] (fun j=>[(9,ae .i64 j)]) k (oK (p9 d.unique[k]) d.unique) rfl (by simp) (fun i hi _=> ?_) (fun _ hq=> ?_)
     ·have hi2:i<d.unique.length:=by omega
      have hcm:p9 d.unique[k] d.unique[i]=(d.unique[i].store==d.unique[k].store&&d.unique[i].field==d.unique[k].field):=Eu _ _
      simp +contextual (maxSteps:=9999999) [eO,oK,hcm,hi2,hk,hx,XIndexDef.e.eq_1 d.unique[i],oO,Nz,bw huL hi2,bU hi,hD]
     ·rw[hD]at hq;cases hq
  ·simp +contextual (maxSteps:=9999999) [dx,hp,e1,e2]
theorem xP {o:XOp}(h:o.Ok maxLen):ah Ph aH 596 [o.v]=some (aF (jB o)):=by
 obtain⟨_,h1,h2,h3,h4⟩:=h
 have e1:=eV o.kind 1 6
 have e2:=iE h1
 have e3:=gi h2
 have e4:=iF h3
 have e5:=iE h4
 unfold jB
 obtain⟨g5,q5⟩:∃g,(o.kind==5)=g:=⟨_,rfl⟩
 obtain⟨g6,q6⟩:∃g,(o.kind==6)=g:=⟨_,rfl⟩
 obtain⟨gf,qf⟩:∃g,(o.field==[])=g:=⟨_,rfl⟩
 rw[q5,q6,qf]
 generalize rg o.kind 1 6=b1 at e1⊢
 generalize ie o.store=b2 at e2⊢
 generalize eW o.key=b3 at e3⊢
 generalize cP o.rcd.fs=b4 at e4⊢
 generalize ie o.field=b5 at e5⊢
 refine aa (fn:=nL) rfl ?_
 cases b1
 ·simp(maxSteps:=9999999) [nL,e1]
 cases b2
 ·simp(maxSteps:=9999999) [nL,e1,e2]
 cases g5<;>cases b3<;>cases b4<;>cases g6<;>simp +contextual (maxSteps:=9999999) [nL,e1,e2,e3,e4,e5,q5,q6,qf]
theorem yt {o:XOp}(h:o.Ok maxLen):ah Ph aH 593 [o.v]=some (aF (jB o)):=by
 obtain⟨_,h1,h2,h3,h4⟩:=h
 have e1:=fY o.kind 1 6
 have e2:=iI h1
 have e3:=ez h2
 have e4:=fj h3
 have e5:=iI h4
 unfold jB
 obtain⟨g5,q5⟩:∃g,(o.kind==5)=g:=⟨_,rfl⟩
 obtain⟨g6,q6⟩:∃g,(o.kind==6)=g:=⟨_,rfl⟩
 obtain⟨gf,qf⟩:∃g,(o.field==[])=g:=⟨_,rfl⟩
 rw[q5,q6,qf]
 generalize rg o.kind 1 6=b1 at e1⊢
 generalize ie o.store=b2 at e2⊢
 generalize eW o.key=b3 at e3⊢
 generalize cP o.rcd.fs=b4 at e4⊢
 generalize ie o.field=b5 at e5⊢
 refine aa (fn:=nM) rfl ?_
 cases b1
 ·simp(maxSteps:=9999999) [nM,e1]
 cases b2
 ·simp(maxSteps:=9999999) [nM,e1,e2]
 cases g5<;>cases b3<;>cases b4<;>cases g6<;>simp +contextual (maxSteps:=9999999) [nM,e1,e2,e3,e4,e5,q5,q6,qf]
theorem Jd {A B:Nat}(hAB:A≤B){o:XOp}(h:o.Ok A):o.Ok B:=⟨h.1,Zc h.2.1 hAB,XKey.Ok.mono hAB h.2.2.1,XRecord.Ok.mono hAB h.2.2.2.1,Zc h.2.2.2.2 hAB⟩
theorem Nt {B:Nat}{s:XStore}(h:s.Ok B)(r:XRange):(rH s r).1.Ok B:=by
 unfold rH
 cases eG s<;>simp only[cond_true,cond_false]
 ·exact h
 ·exact⟨h.1,⟨Zc (HL r s.items) h.2.1.1,fun x m=>h.2.1.2 x (List.mem_filter.1 m).1⟩,h.2.2⟩
theorem SA {B:Nat}(hB:17≤B){s:XStore}(h:s.Ok B){k:XKey}(hk:k.Ok B){r:XRecord}(hr:r.Ok B):(Bc s k r).1.Ok B:=by
 unfold Bc;split
 ·exact h
 ·exact Ck hB h hk hr
theorem Mw {B:Nat}(hB:17≤B){s:XStore}(h:s.Ok B){o:XOp}(ho:o.Ok B):(tw s o).1.Ok B:=by
 obtain⟨_,_,hk,hr,_⟩:=ho
 unfold tw
 cases o.kind==1<;>simp only[cond_true,cond_false]
 case true=>exact Ck hB h hk hr
 cases o.kind==2<;>simp only[cond_true,cond_false]
 case true=>exact SA hB h hk hr
 cases o.kind==3<;>simp only[cond_true,cond_false]
 case true=>exact Nt h _
 cases o.kind==5<;>simp only[cond_true,cond_false]
 case true=>exact Nt h _
 cases o.kind==4<;>simp only[cond_true,cond_false]
 case true=>exact h
 exact Ck hB h hk (uV (by omega) (sa h o.key) _ _)
def s9 (d:XDatabase)(j:Nat)(s:XStore):XDatabase:=⟨d.name,d.version,d.stores.set j s,d.unique⟩
def jc (d:XDatabase)(o:XOp):XDatabase×Int×Bool:=match tU d&&jB o,d.stores.findIdx? (H6 o.store)with
 |true,some j=>(match d.stores[j]? with
  |some st=>bif (tw st o).2.2&&tU (s9 d j (tw st o).1)then(s9 d j (tw st o).1,(tw st o).2.1,true)else(d,0,false)
  |none=>(d,0,false))
 |_,_=>(d,0,false)
theorem It {B:Nat}{d:XDatabase}(h:d.Ok B)(j:Nat){s:XStore}(hs:s.Ok B):(s9 d j s).Ok B:=by
 obtain⟨h1,h2,⟨h3,h4⟩,h5⟩:=h
 refine⟨h1,h2,⟨by simpa[s9]using h3,fun x m=> ?_⟩,h5⟩
 rcases List.mem_or_eq_of_mem_set m with m|rfl
 ·exact h4 x m
 ·exact hs
theorem Is {B:Nat}(hB:17≤B){d:XDatabase}(h:d.Ok B){o:XOp}(ho:o.Ok B):(jc d o).1.Ok B:=by
 unfold jc
 split
 ·split
  ·rename_i st hst
   cases(tw st o).2.2&&tU (s9 d _ (tw st o).1)<;>simp only[cond_true,cond_false]
   ·exact h
   ·exact It h _ (Mw hB (h.2.2.1.2 _ (Zi hst)) ho)
  ·exact h
 ·exact h
theorem R2 (d:XDatabase)(j:Nat)(s:XStore):(s9 d j s).stores.map XStore.e=(d.stores.map XStore.e).set j [.str s.name, .lst (s.items.map XItem.e), .int .i64 s.auto]:=by
 simp only[s9,List.map_set,XStore.e.eq_1]
abbrev UY (d:XDatabase):List L:=[.pv (.str d.name), .pv (.int .i64 d.version),oR 3 (d.stores.map XStore.e), .own 2 (d.unique.map XIndexDef.e)]
abbrev QR (x:XDatabase×Int×Bool):V:= .tup [(true,UY x.1),(false,[.pv (.int .i64 x.2.1)]),(false,[.pv (.bool x.2.2)])]
theorem vA {B:Nat}(hB0:17≤B)(hB:B≤1048576){d:XDatabase}(h:d.Ok B){o:XOp}(ho:o.Ok B):ah Ph aH 584 [d.v,o.v]=some (QR (jc d o)):=by
 have e1:=jQ hB h
 have hsl:d.stores.length≤maxLen:=Zc h.2.2.1.1 (by unfold maxLen;omega)
 have e2:=mC hsl o.store
 have e3:=lH hB h
 have e4:=xP (Jd (show B≤maxLen by unfold maxLen;omega) ho)
 unfold dv at e2
 unfold jc
 have hnd:nd 3 (d.stores.map XStore.e)= .nil∧oR 3 (d.stores.map XStore.e)= .nil∨nd 3 (d.stores.map XStore.e)= .down 3 (d.stores.map XStore.e)∧oR 3 (d.stores.map XStore.e)= .own 3 (d.stores.map XStore.e):=by
  cases d.stores.map XStore.e with
  |nil=>exact .inl ⟨rfl,rfl⟩
  |cons r rs=>exact .inr ⟨rfl,rfl⟩
 cases b1:tU d<;>rw[b1]at e3
 ·simp only[Bool.false_and]
  generalize (match d.stores.findIdx? (H6 o.store)with|some i=>(i:Int)|none=> -1)=F at e2
  rcases hnd with⟨u1,u2⟩|⟨u1,u2⟩<;>rw[u1]at e1<;>(refine aa (fn:=dR) rfl ?_;simp(maxSteps:=600000) [dR,e1,e2,e3,u2])
 cases b2:jB o<;>rw[b2]at e4
 ·simp only[Bool.and_false]
  generalize (match d.stores.findIdx? (H6 o.store)with|some i=>(i:Int)|none=> -1)=F at e2
  rcases hnd with⟨u1,u2⟩|⟨u1,u2⟩<;>rw[u1]at e1<;>(refine aa (fn:=dR) rfl ?_;simp(maxSteps:=600000) [dR,e1,e2,e3,e4,u2])
 simp only[Bool.and_self]
 cases b3:d.stores.findIdx? (H6 o.store)with
 |none=>
  rw[b3]at e2
  simp only at e2⊢
  have l0:b9 (-1) 0=true:=rfl
  rcases hnd with⟨u1,u2⟩|⟨u1,u2⟩<;>rw[u1]at e1<;>(refine aa (fn:=dR) rfl ?_;simp(maxSteps:=600000) [dR,e1,e2,e3,e4,l0,u2])
 |some j=>
  rw[b3]at e2
  obtain⟨hj,_⟩:=List.findIdx?_eq_some_iff_getElem.1 b3
  simp only[hj,Zl]at e2⊢
  have hne:d.stores.map XStore.e≠[]:=fun e=>by have:=congrArg List.length e;simp at this;simp[this]at hj
  have u1:=((AS 3 (d.stores.map XStore.e)).resolve_left (fun q=>hne q.1)).2
  have u2:oR 3 (d.stores.map XStore.e)= .own 3 (d.stores.map XStore.e):=by
   cases q:d.stores.map XStore.e with
   |nil=>exact absurd q hne
   |cons r rs=>rfl
  clear hnd
  rw[u1]at e1
  have hst:=h.2.2.1.2 _ (Zf hj)
  have hx:=XStore.e.eq_1 d.stores[j]
  have hok:=It h j (Mw hB0 hst ho)
  have e6:=lH hB hok
  have hse:=R2 d j (tw d.stores[j] o).1
  have u3:oR 3 ((s9 d j (tw d.stores[j] o).1).stores.map XStore.e)= .own 3 ((s9 d j (tw d.stores[j] o).1).stores.map XStore.e):=by
   rw[hse]
   cases q:d.stores.map XStore.e with
   |nil=>exact absurd q hne
   |cons r rs=>cases j<;>rfl
  rw[hse]at u3
  simp only[XDatabase.v]at e6
  rw[hse]at e6
  replace e6:ah Ph aH 397 [.agg [.pv (.str d.name), .pv (.int .i64 d.version), .pv (.lst ((d.stores.map XStore.e).set j [.str (tw d.stores[j] o).1.name, .lst ((tw d.stores[j] o).1.items.map XItem.e), .int .i64 (tw d.stores[j] o).1.auto])), .pv (.lst (d.unique.map XIndexDef.e))]]=some (aF (tU (s9 d j (tw d.stores[j] o).1))):=e6
  obtain⟨p1,p2⟩:=Tl d.stores[j] o
  obtain⟨l,hlv,e5⟩:=H3 hB0 hB hst ho
  simp only[Vq]at e5
  cases b4:(tw d.stores[j] o).2.2
  ·simp only[Bool.false_and,cond_false,QR,UY]
   rw[u2]
   rw[p1,b4]at e5
   rcases hlv with rfl|⟨rfl,hlv⟩<;>(refine aa (fn:=dR) rfl ?_;simp(maxSteps:=600000) [dR,e1,e2,e3,e4,e5,hj,hx,nu])
  ·simp only[Bool.true_and,QR]
   rw[p2 b4]at e5 hlv
   rw[b4]at e5
   generalize hq:(tw d.stores[j] o).2.1=qn at*
   generalize (tw d.stores[j] o).1.items.map XItem.e=R at*
   cases b5:tU (s9 d j (tw d.stores[j] o).1)<;>rw[b5]at e6<;>simp only[cond_true,cond_false,UY]
   ·rw[u2]
    rcases hlv with rfl|⟨rfl,rfl⟩<;>(refine aa (fn:=dR) rfl ?_;simp(maxSteps:=600000) [dR,e1,e2,e3,e4,e5,e6,hj,hx,nu,s9])
   ·rw[hse,u3]
    rcases hlv with rfl|⟨rfl,rfl⟩<;>(refine aa (fn:=dR) rfl ?_;simp(maxSteps:=600000) [dR,e1,e2,e3,e4,e5,e6,hj,hx,nu,s9])
theorem vK {B:Nat}(hB0:17≤B)(hB:B≤1048576){d:XDatabase}(h:d.Ok B){o:XOp}(ho:o.Ok B):ah Ph aH 577 [d.v,o.v]=some (QR (jc d o)):=by
 have e1:=qg hB h
 have hsl:d.stores.length≤maxLen:=Zc h.2.2.1.1 (by unfold maxLen;omega)
 have e2:=mJ hsl o.store
 have e3:=lM hB h
 have e4:=yt (Jd (show B≤maxLen by unfold maxLen;omega) ho)
 unfold dv at e2
 unfold jc
 have hnd:nd 3 (d.stores.map XStore.e)= .nil∧oR 3 (d.stores.map XStore.e)= .nil∨nd 3 (d.stores.map XStore.e)= .down 3 (d.stores.map XStore.e)∧oR 3 (d.stores.map XStore.e)= .own 3 (d.stores.map XStore.e):=by
  cases d.stores.map XStore.e with
  |nil=>exact .inl ⟨rfl,rfl⟩
  |cons r rs=>exact .inr ⟨rfl,rfl⟩
 cases b1:tU d<;>rw[b1]at e3
 ·simp only[Bool.false_and]
  generalize (match d.stores.findIdx? (H6 o.store)with|some i=>(i:Int)|none=> -1)=F at e2
  rcases hnd with⟨u1,u2⟩|⟨u1,u2⟩<;>rw[u1]at e1<;>(refine aa (fn:=dV) rfl ?_;simp(maxSteps:=600000) [dV,e1,e2,e3,u2])
 cases b2:jB o<;>rw[b2]at e4
 ·simp only[Bool.and_false]
  generalize (match d.stores.findIdx? (H6 o.store)with|some i=>(i:Int)|none=> -1)=F at e2
  rcases hnd with⟨u1,u2⟩|⟨u1,u2⟩<;>rw[u1]at e1<;>(refine aa (fn:=dV) rfl ?_;simp(maxSteps:=600000) [dV,e1,e2,e3,e4,u2])
 simp only[Bool.and_self]
 cases b3:d.stores.findIdx? (H6 o.store)with
 |none=>
  rw[b3]at e2
  simp only at e2⊢
  have l0:b9 (-1) 0=true:=rfl
  rcases hnd with⟨u1,u2⟩|⟨u1,u2⟩<;>rw[u1]at e1<;>(refine aa (fn:=dV) rfl ?_;simp(maxSteps:=600000) [dV,e1,e2,e3,e4,l0,u2])
 |some j=>
  rw[b3]at e2
  obtain⟨hj,_⟩:=List.findIdx?_eq_some_iff_getElem.1 b3
  simp only[hj,Zl]at e2⊢
  have hne:d.stores.map XStore.e≠[]:=fun e=>by have:=congrArg List.length e;simp at this;simp[this]at hj
  have u1:=((AS 3 (d.stores.map XStore.e)).resolve_left (fun q=>hne q.1)).2
  have u2:oR 3 (d.stores.map XStore.e)= .own 3 (d.stores.map XStore.e):=by
   cases q:d.stores.map XStore.e with
   |nil=>exact absurd q hne
   |cons r rs=>rfl
  clear hnd
  rw[u1]at e1
  have hst:=h.2.2.1.2 _ (Zf hj)
  have hx:=XStore.e.eq_1 d.stores[j]
  have hok:=It h j (Mw hB0 hst ho)
  have e6:=lM hB hok
  have hse:=R2 d j (tw d.stores[j] o).1
  have u3:oR 3 ((s9 d j (tw d.stores[j] o).1).stores.map XStore.e)= .own 3 ((s9 d j (tw d.stores[j] o).1).stores.map XStore.e):=by
   rw[hse]
   cases q:d.stores.map XStore.e with
   |nil=>exact absurd q hne
   |cons r rs=>cases j<;>rfl
  rw[hse]at u3
  simp only[XDatabase.v]at e6
  rw[hse]at e6
  replace e6:ah Ph aH 393 [.agg [.pv (.str d.name), .pv (.int .i64 d.version), .pv (.lst ((d.stores.map XStore.e).set j [.str (tw d.stores[j] o).1.name, .lst ((tw d.stores[j] o).1.items.map XItem.e), .int .i64 (tw d.stores[j] o).1.auto])), .pv (.lst (d.unique.map XIndexDef.e))]]=some (aF (tU (s9 d j (tw d.stores[j] o).1))):=e6
  obtain⟨l,hlv,e5⟩:=B9 hB0 hB hst ho
  simp only[Vq]at e5
  cases b4:(tw d.stores[j] o).2.2
  ·simp only[Bool.false_and,cond_false,QR,UY]
   rw[u2]
   rw[b4]at e5
   rcases hlv with rfl|⟨rfl,hlv⟩<;>(refine aa (fn:=dV) rfl ?_;simp(maxSteps:=600000) [dV,e1,e2,e3,e4,e5,hj,hx,nu])
  ·simp only[Bool.true_and,QR]
   rw[b4]at e5
   generalize hq:(tw d.stores[j] o).2.1=qn at*
   generalize (tw d.stores[j] o).1.items.map XItem.e=R at*
   cases b5:tU (s9 d j (tw d.stores[j] o).1)<;>rw[b5]at e6<;>simp only[cond_true,cond_false,UY]
   ·rw[u2]
    rcases hlv with rfl|⟨rfl,rfl⟩<;>(refine aa (fn:=dV) rfl ?_;simp(maxSteps:=600000) [dV,e1,e2,e3,e4,e5,e6,hj,hx,nu,s9])
   ·rw[hse,u3]
    rcases hlv with rfl|⟨rfl,rfl⟩<;>(refine aa (fn:=dV) rfl ?_;simp(maxSteps:=600000) [dV,e1,e2,e3,e4,e5,e6,hj,hx,nu,s9])
def EG (a:Option (XDatabase×List Int))(o:XOp):Option (XDatabase×List Int):=match a with
 |none=>none
 |some (d,ns)=>bif (jc d o).2.2 then some ((jc d o).1,ns++[(jc d o).2.1])else none
def BZ (d:XDatabase)(l:List XOp):Option (XDatabase×List Int):=l.foldl EG (some (d,[]))
def MG (d:XDatabase)(l:List XOp):XDatabase×List Int×Bool:=bif tU d&& !(b9 6 l.length)then(match BZ d l with
 |some (d',ns)=>(d',ns,true)
 |none=>(d,[],false))else(d,[],false)
theorem DM :∀l:List XOp,l.foldl EG none=none
 |[]=>rfl
 |o::l=>DM l
theorem GP {d:XDatabase}{l:List XOp}{k:Nat}(hk:k<l.length):BZ d (l.take (k+1))=EG (BZ d (l.take k)) l[k]:=by
 unfold BZ;rw[Zx hk,List.foldl_append];rfl
theorem P1 {d:XDatabase}{l:List XOp}{k:Nat}(h:BZ d (l.take k)=none):BZ d l=none:=by
 have:l=l.take k++l.drop k:=(List.take_append_drop k l).symm
 unfold BZ at h⊢
 rw[this,List.foldl_append,h,DM]
def wG (l:List XOp)(a:Nat×XDatabase×List Int):Option (Nat×XDatabase×List Int):=match l[a.1]? with
 |some o=>bif (jc a.2.1 o).2.2 then some (a.1+1,(jc a.2.1 o).1,a.2.2++[(jc a.2.1 o).2.1])else none
 |none=>none
def UK (d:XDatabase)(l:List XOp)(a:Nat×XDatabase×List Int):Prop:=a.1≤l.length∧a.2.2.length=a.1∧BZ d (l.take a.1)=some a.2
theorem TX (d:XDatabase)(l:List XOp):UK d l (0,d,[]):=⟨Nat.zero_le _,rfl,rfl⟩
theorem KR {d:XDatabase}{l:List XOp}{k:Nat}{dk:XDatabase}{ns:List Int}{b:Nat×XDatabase×List Int}(ia:UK d l (k,dk,ns))(h:wG l (k,dk,ns)=some b):
 ∃hk:k<l.length,(jc dk l[k]).2.2=true∧b=(k+1,(jc dk l[k]).1,ns++[(jc dk l[k]).2.1])∧l.length-b.1<l.length-k∧UK d l b:=by
 obtain⟨h1,h2,h3⟩:=ia
 simp only at h1 h2 h3
 by_cases hk:k<l.length
 ·unfold wG at h
  simp only[Zl hk]at h
  cases q:(jc dk l[k]).2.2<;>rw[q]at h<;>simp only[cond_true,cond_false]at h
  ·cases h
  ·cases h
   refine⟨hk,q,rfl,by simp only;omega,by simp only;omega,by simp[h2],?_⟩
   simp only
   rw[GP hk,h3]
   simp only[EG,q,cond_true]
 ·unfold wG at h
  simp only[List.getElem?_eq_none (Nat.not_lt.1 hk)]at h
  cases h
theorem Od {d:XDatabase}{l:List XOp}{k:Nat}{dk:XDatabase}{ns:List Int}(ia:UK d l (k,dk,ns))(h:wG l (k,dk,ns)=none):
 (k=l.length∧BZ d l=some (dk,ns))∨∃hk:k<l.length,BZ d l=none∧(jc dk l[k]).2.2=false:=by
 obtain⟨h1,h2,h3⟩:=ia
 simp only at h1 h2 h3
 by_cases hk:k<l.length
 ·unfold wG at h
  simp only[Zl hk]at h
  cases q:(jc dk l[k]).2.2<;>rw[q]at h<;>simp only[cond_true,cond_false]at h
  ·refine .inr ⟨hk,P1 (k:=k+1) ?_,q⟩
   rw[GP hk,h3]
   simp only[EG,q,cond_false]
  ·cases h
 ·obtain rfl:k=l.length:=by omega
  rw[List.take_length]at h3
  exact .inl ⟨rfl,h3⟩
abbrev Be (d:XDatabase):List L:=[.pv (.str d.name), .pv (.int .i64 d.version),lf (d.stores.map XStore.e), .pv (.lst (d.unique.map XIndexDef.e))]
abbrev Qw (x:XDatabase×List Int×Bool):V:= .tup [(true,Be x.1),(false,[.own 1 (x.2.1.map kM)]),(false,[.pv (.bool x.2.2)])]
theorem yl (d:XDatabase):cT (.agg [.pv (.str d.name), .pv (.int .i64 d.version),nd 3 (d.stores.map XStore.e), .down 2 (d.unique.map XIndexDef.e)])= .agg (Be d):=by simp[cT, ↓bC,cS]
theorem yk (x:XDatabase×Int×Bool):cT (QR x)= .tup [(true,Be x.1),(false,[.pv (.int .i64 x.2.1)]),(false,[.pv (.bool x.2.2)])]:=by simp[cT, ↓aY,cS]
theorem Tt {B:Nat}(hB:17≤B){d:XDatabase}(h:d.Ok B){l:List XOp}(hl:∀o∈l,o.Ok B){x:XDatabase×List Int}(hx:BZ d l=some x):x.1.Ok B:=by
 have key:∀(l:List XOp),(∀o∈l,o.Ok B)→∀(a:Option (XDatabase×List Int)),(∀y,a=some y→y.1.Ok B)→∀y,l.foldl EG a=some y→y.1.Ok B:=by
  intro l
  induction l with
  |nil=>intro _ a ha y hy;exact ha y hy
  |cons o l ih=>
   intro ho a ha
   refine ih (fun x m=>ho x (List.mem_cons_of_mem _ m)) _ (fun y hy=> ?_)
   cases a with
   |none=>cases hy
   |some p=>
    obtain⟨dp,np⟩:=p
    simp only[EG]at hy
    cases q:(jc dp o).2.2<;>rw[q]at hy<;>simp only[cond_true,cond_false]at hy
    ·cases hy
    ·cases hy
     exact Is hB (ha _ rfl) (ho o List.mem_cons_self)
 exact key l hl _ (fun y hy=>by cases hy;exact h) x hx
theorem MH {B:Nat}(hB:17≤B){d:XDatabase}(h:d.Ok B){l:List XOp}(hl:∀o∈l,o.Ok B):(MG d l).1.Ok B:=by
 unfold MG
 cases tU d&& !(b9 6 l.length)<;>simp only[cond_true,cond_false]
 ·exact h
 ·cases q:BZ d l with
  |none=>exact h
  |some x=>exact Tt hB h hl q
theorem DW {B:Nat}(hB0:17≤B)(hB:B≤1048576){d:XDatabase}(h:d.Ok B){l:List XOp}(hl:∀o∈l,o.Ok B)(hlm:l.length≤maxLen):ah Ph aH 564 [d.v,aR (l.map XOp.e)]=some (Qw (MG d l)):=by
 have e1:=jQ hB h
 have e2:=yl d
 have e3:=lH hB h
 unfold MG
 simp only[Be]at e2
 generalize V.agg [.pv (.str d.name), .pv (.int .i64 d.version),nd 3 (d.stores.map XStore.e), .down 2 (d.unique.map XIndexDef.e)]=nv at*
 cases b1:tU d<;>rw[b1]at e3
 ·simp only[Bool.false_and,cond_false,Qw,Be]
  refine aa (fn:=hY) rfl ?_
  simp(maxSteps:=600000) [hY,e1, ↓e2,e3, ↓au, ↓aj, ↓av, ↓ai, ↓aE, ↓aq]
 cases b2:b9 6 (l.length:Int)
 rotate_left
 ·simp only[Bool.true_and,Bool.not_true,cond_false,Qw,Be]
  refine aa (fn:=hY) rfl ?_
  simp(maxSteps:=600000) [hY,e1, ↓e2,e3,b2, ↓au, ↓aj, ↓av, ↓ai, ↓aE, ↓aq]
 have l6:l.length≤6:=by have:=of_decide_eq_false b2;omega
 simp only[Bool.true_and,Bool.not_false,cond_true]
 refine aa (fn:=hY) rfl ?_
 simp(maxSteps:=600000) [hY,e1, ↓e2,e3,b2, ↓au, ↓aj, ↓av, ↓ai, ↓aE, ↓aq]
 refine oC bX Cl.fin [.f,.f,.t,.f,.t,.f,.f,.t,.t,.f,.f,.f,.f,.f,.f,.f,.f,.f,.f,.f,.f,.f,.f,.f,.f,.f,.f,.t,.t,.t,.f,.f,.f,.f,.f,.f,.f,.f,.f,.f,.f,.f,.f,.f,.f,.f,.f,.f,.f,.f,.f,.f,.f] (fun a=>[(29,ae .i64 (a.1:Nat)),(8, .one (.arr 3))]) (fun a=>[.box [.pv (.str d.name), .pv (.int .i64 d.version), .pv (.lst (d.stores.map XStore.e)), .pv (.lst (d.unique.map XIndexDef.e))], .box [.pv (.str []), .pv (.int .i64 0), .nil, .nil], .box [.pv (.str a.2.1.name), .pv (.int .i64 a.2.1.version),lf (a.2.1.stores.map XStore.e), .pv (.lst (a.2.1.unique.map XIndexDef.e))], .arr 1 (a.2.2.map kM)]) (wG l) (fun a=>l.length-a.1) (fun a=>UK d l a∧a.2.1.Ok B) (0,d,[]) ⟨TX d l,h⟩ rfl ?_ (fun a a' ia ha=> ?_) (fun a ia ha=> ?_)
 ·exact Kn.of [0,1,2,3] (by decide) (by simp[↓aQ]) (by simp)
 ·obtain⟨k,dk,ns⟩:=a
  obtain⟨ia,iok⟩:=ia
  obtain⟨hk,q1,rfl,q2,q3⟩:=KR ia ha
  simp only at iok q1 hk⊢
  refine⟨q2,⟨q3,Is hB0 iok (hl _ (Zf hk))⟩,?_⟩
  have hx:=wU l[k]
  have e5:=vA hB0 hB iok (hl _ (Zf hk))
  have e6:=yk (jc dk l[k])
  have hn:ns.length=k:=ia.2.1
  have m1:=gx (m:=(ns.map kM).length+1) (z:=8) (by rw[Zv];omega) (by omega)
  rw[q1]at e6
  simp only[Be]at e6
  generalize QR (jc dk l[k])=rv at*
  have hm:(ns++[(jc dk l[k]).2.1]).map kM=ns.map kM++[[.int .i64 (jc dk l[k]).2.1]]:=by simp[kM]
  rw[hm]
  generalize (jc dk l[k]).2.1=n1 at*
  generalize (jc dk l[k]).1=d1 at*
  generalize ns.map kM=W at*
  have wk:=bw hlm hk
  have lk:=bU hk
  clear ia ha q1 q2 q3 hm
  simp(maxSteps:=600000) [je,hk,hx,e5, ↓e6,m1,wk,lk, ↓aD, ↓au, ↓aj, ↓av, ↓ai, ↓aE, ↓aq,-bY]
  exact Kn.of [0,1,2,7] (by decide) (by simp[↓aQ]) (by simp)
 ·obtain⟨k,dk,ns⟩:=a
  obtain⟨ia,iok⟩:=ia
  simp only at iok⊢
  rcases Od ia ha with⟨hk,q1⟩|⟨hk,q1,q2⟩
  ·rw[q1]
   subst hk
   have lk:b9 (l.length:Int) (l.length:Int)=false:=fG (by omega)
   simp only[Qw,Be]
   simp(maxSteps:=600000) [je,lk, ↓aD, ↓au, ↓aj, ↓av, ↓ai, ↓aE, ↓aq]
  ·rw[q1]
   have hx:=wU l[k]
   have e5:=vA hB0 hB iok (hl _ (Zf hk))
   have e6:=yk (jc dk l[k])
   rw[q2]at e6
   simp only[Be]at e6
   generalize QR (jc dk l[k])=rv at*
   generalize (jc dk l[k]).2.1=n1 at*
   generalize (jc dk l[k]).1=d1 at*
   have lk:=bU hk
   simp only[Qw,Be]
   clear ia ha q1 q2
   simp(maxSteps:=600000) [je,hk,hx,e1, ↓e2,e5, ↓e6,lk, ↓aD, ↓au, ↓aj, ↓av, ↓ai, ↓aE, ↓aq]
theorem EA {B:Nat}(hB0:17≤B)(hB:B≤1048576){d:XDatabase}(h:d.Ok B){l:List XOp}(hl:∀o∈l,o.Ok B)(hlm:l.length≤maxLen):ah Ph aH 561 [d.v,aR (l.map XOp.e)]=some (Qw (MG d l)):=by
 have e1:=qg hB h
 have e2:=yl d
 have e3:=lM hB h
 unfold MG
 simp only[Be]at e2
 generalize V.agg [.pv (.str d.name), .pv (.int .i64 d.version),nd 3 (d.stores.map XStore.e), .down 2 (d.unique.map XIndexDef.e)]=nv at*
 cases b1:tU d<;>rw[b1]at e3
 ·simp only[Bool.false_and,cond_false,Qw,Be]
  refine aa (fn:=hZ) rfl ?_
  simp(maxSteps:=600000) [hZ,e1, ↓e2,e3, ↓au, ↓aj, ↓av, ↓ai, ↓aE, ↓aq]
 cases b2:b9 6 (l.length:Int)
 rotate_left
 ·simp only[Bool.true_and,Bool.not_true,cond_false,Qw,Be]
  refine aa (fn:=hZ) rfl ?_
  simp(maxSteps:=600000) [hZ,e1, ↓e2,e3,b2, ↓au, ↓aj, ↓av, ↓ai, ↓aE, ↓aq]
 have l6:l.length≤6:=by have:=of_decide_eq_false b2;omega
 simp only[Bool.true_and,Bool.not_false,cond_true]
 refine aa (fn:=hZ) rfl ?_
 simp(maxSteps:=600000) [hZ,e1, ↓e2,e3,b2, ↓au, ↓aj, ↓av, ↓ai, ↓aE, ↓aq]
 refine oC bX Cl.fin [.f,.t,.t,.f,.t,.f,.f,.t,.t,.t,.f,.f,.f,.f,.f,.f,.f,.f,.f,.f,.f,.f,.f,.f,.f,.f,.f,.f,.f,.f,.f,.f,.f,.f,.f,.f,.f,.f,.f,.f,.f,.f,.f,.f,.f,.f,.f,.f,.f,.f,.f,.f,.f,.f] (fun a=>[(9,ae .i64 (a.1:Nat)),(8, .one (.arr 3))]) (fun a=>[.box [.pv (.str d.name), .pv (.int .i64 d.version), .pv (.lst (d.stores.map XStore.e)), .pv (.lst (d.unique.map XIndexDef.e))], .box [.pv (.str []), .pv (.int .i64 0), .nil, .nil], .box [.pv (.str a.2.1.name), .pv (.int .i64 a.2.1.version),lf (a.2.1.stores.map XStore.e), .pv (.lst (a.2.1.unique.map XIndexDef.e))], .arr 1 (a.2.2.map kM)]) (wG l) (fun a=>l.length-a.1) (fun a=>UK d l a∧a.2.1.Ok B) (0,d,[]) ⟨TX d l,h⟩ rfl ?_ (fun a a' ia ha=> ?_) (fun a ia ha=> ?_)
 ·exact Kn.of [0,1,2,3] (by decide) (by simp[↓aQ]) (by simp)
 ·obtain⟨k,dk,ns⟩:=a
  obtain⟨ia,iok⟩:=ia
  obtain⟨hk,q1,rfl,q2,q3⟩:=KR ia ha
  simp only at iok q1 hk⊢
  refine⟨q2,⟨q3,Is hB0 iok (hl _ (Zf hk))⟩,?_⟩
  have hx:=wU l[k]
  have e5:=vK hB0 hB iok (hl _ (Zf hk))
  have e6:=yk (jc dk l[k])
  have hn:ns.length=k:=ia.2.1
  have m1:=gx (m:=(ns.map kM).length+1) (z:=8) (by rw[Zv];omega) (by omega)
  rw[q1]at e6
  simp only[Be]at e6
  generalize QR (jc dk l[k])=rv at*
  have hm:(ns++[(jc dk l[k]).2.1]).map kM=ns.map kM++[[.int .i64 (jc dk l[k]).2.1]]:=by simp[kM]
  rw[hm]
  generalize (jc dk l[k]).2.1=n1 at*
  generalize (jc dk l[k]).1=d1 at*
  generalize ns.map kM=W at*
  have wk:=bw hlm hk
  have lk:=bU hk
  clear ia ha q1 q2 q3 hm
  simp(maxSteps:=600000) [jf,hk,hx,e5, ↓e6,m1,wk,lk, ↓aD, ↓au, ↓aj, ↓av, ↓ai, ↓aE, ↓aq,-bY]
  exact Kn.of [0,1,2,6] (by decide) (by simp[↓aQ]) (by simp)
 ·obtain⟨k,dk,ns⟩:=a
  obtain⟨ia,iok⟩:=ia
  simp only at iok⊢
  rcases Od ia ha with⟨hk,q1⟩|⟨hk,q1,q2⟩
  ·rw[q1]
   subst hk
   have lk:b9 (l.length:Int) (l.length:Int)=false:=fG (by omega)
   simp only[Qw,Be]
   simp(maxSteps:=600000) [jf,lk, ↓aD, ↓au, ↓aj, ↓av, ↓ai, ↓aE, ↓aq]
  ·rw[q1]
   have hx:=wU l[k]
   have e5:=vK hB0 hB iok (hl _ (Zf hk))
   have e6:=yk (jc dk l[k])
   rw[q2]at e6
   simp only[Be]at e6
   generalize QR (jc dk l[k])=rv at*
   generalize (jc dk l[k]).2.1=n1 at*
   generalize (jc dk l[k]).1=d1 at*
   have lk:=bU hk
   simp only[Qw,Be]
   clear ia ha q1 q2
   simp(maxSteps:=600000) [jf,hk,hx,e1, ↓e2,e5, ↓e6,lk, ↓aD, ↓au, ↓aj, ↓av, ↓ai, ↓aE, ↓aq]
theorem Jf {α:Type}(p:α→Bool)(xs:List α):xs.all p= !(mY xs.length (oK (fun x=> !(p x)) xs)):=by
 cases q:mY xs.length (oK (fun x=> !(p x)) xs)with
 |false=>
  simp only[Bool.not_false,Zs]
  intro x hx
  obtain⟨j,hj,rfl⟩:=List.mem_iff_getElem.1 hx
  have:=yH q hj
  simpa only[oK,hj,Zl,Bool.not_eq_false']using this
 |true=>
  simp only[Bool.not_true]
  rw[Bool.eq_false_iff]
  intro e
  rw[Zs]at e
  rw[Cw fun k hk=>by simp only[oK,hk,Zl,e _ (Zf hk)];rfl]at q
  cases q
theorem DY {l:List XOp}(hl:l.length≤maxLen)(h:∀o∈l,o.Ok maxLen):ah Ph aH 595 [aR (l.map XOp.e)]=some (aF (wY l)):=by
 rw[show wY l=(!(mY l.length (oK (fun o=> !(jB o)) l))&& !(b9 6 l.length)) by unfold wY;rw[Jf,VY]]
 refine aa (fn:=qQ) rfl ?_
 simp +contextual (maxSteps:=9999999) [qQ]
 refine bm bX Cl.fin [.t,.f,.f,.f,.f,.t,.t,.t,.f,.f,.f,.f,.f,.f,.f,.f,.f,.f] (fun k=>[(7,ae .i64 k)]) l.length (oK (fun o=> !(jB o)) l) rfl (by simp) (fun k hk _=> ?_) (fun _ hp=> ?_)
 ·have e1:=xP (h _ (Zf hk))
  simp +contextual (maxSteps:=9999999) [kQ,oK,hk,wU l[k],e1,bw hl hk,bU hk]
 ·simp(maxSteps:=9999999) [kQ,hp]
end Gi
