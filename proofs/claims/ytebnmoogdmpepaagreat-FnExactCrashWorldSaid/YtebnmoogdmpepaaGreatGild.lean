/- Of this proof. -/
import Derived.Test.YtebnmoogdmpepaaGreatGin
import Derived.Test.YtebnmoogdmpepaaGreatGilc
set_option linter.unusedSimpArgs false
set_option linter.unusedVariables false
namespace Gi
open Go Go.RowKit
variable {KI:KF}
section
variable {Γ:Ctx}{P:Program}{M0:Nat→Prop}{base:Nat}{σ:St}{a:Act}{w:World}{ρ:List (Option Nat)}
def fP (h:List AObj)(o:Nat):AObj:=(h[o]?).getD .dead
def jy (ρ:List (Option Nat))(o:Nat):Option Nat:=(ρ[o]?).getD none
theorem AObj.isArr_cases {ob:AObj}(h:ob.isArr):(∃z es,ob= .arr z es)∨∃z es,ob= .darr z es:=by cases ob<;>first|exact h.elim|exact .inl ⟨_,_,rfl⟩|exact .inr ⟨_,_,rfl⟩
theorem HR.sub {h:List AObj}(k:HR M0 base w ρ h){os:List Nat}(ho:∀o∈os,∃ob,h[o]? =some ob∧ob.isArr)(hn:os.Nodup):
 HR M0 base w (os.map (jy ρ)) (os.map (fP h))∧(∀b,Mu M0 (os.map (jy ρ)) (os.map (fP h)) b→Mu M0 ρ h b):=by
 have get:∀{i:Nat}{x:AObj}{r:Option Nat},(os.map (fP h))[i]? =some x→(os.map (jy ρ))[i]? =some r→∃o,os[i]? =some o∧h[o]? =some x∧x.isArr∧ρ[o]? =some r:=by
  intro i x r hx hr
  simp only[Zp,Zj]at hx hr
  obtain⟨o,h1,rfl⟩:=hx
  obtain⟨o',h2,rfl⟩:=hr
  rw[h1]at h2;cases h2
  obtain⟨ob,hz,ha⟩:=ho o (Zk h1)
  obtain⟨r,hr⟩:=k.mem hz
  have e:fP h o=ob:=by simp[fP,hz]
  exact⟨o,h1,by rw[e];exact hz,by rw[e];exact ha,by simp[jy,hr]⟩
 have mu:∀b,Mu M0 (os.map (jy ρ)) (os.map (fP h)) b→Mu M0 ρ h b:=by
  intro b hm
  rcases hm with hm|⟨i,x,hi,hx,hri⟩
  ·exact .inl hm
  ·obtain⟨o,_,h1,_,h2⟩:=get hi hri
   exact .inr ⟨o,x,h1,hx,h2⟩
 have idx:∀{i o:Nat},os[i]? =some o→os.findIdx? (· ==o)=some i:=by
  intro i o hi
  obtain⟨hlt,e⟩:=Zb.1 hi
  rw[Yg]
  refine⟨hlt,by simp[e],fun j hj=> ?_⟩
  simp only[beq_iff_eq,ne_eq,Bool.not_eq_true,beq_eq_false_iff_ne]
  intro e2
  have h1:os[j]? =some o:=Zb.2 ⟨by omega,e2⟩
  have:=(List.getElem?_inj (by omega) hn).1 (h1.trans hi.symm)
  omega
 obtain⟨κ,d,n⟩:=k.deep
 refine⟨⟨⟨by simp,fun b hm=>⟨(k.old b hm).1,fun i x hi hx hri=> ?_⟩,k.le,fun i x r hi hr=> ?_,fun i i' x x' b h1 h2 m1 m2 r1 r2=> ?_⟩,fun b=>match κ b with
  |o::τ=>(match os.findIdx? (· ==o)with
   |some q=>q::τ
   |none=>[])
  |[]=>[],⟨fun i x b hi hx hri=> ?_,fun i x z es b hi hd hri=> ?_⟩,fun b hb=>by simp only[n.new b hb],fun b o c τ z es e hi=> ?_⟩,mu⟩
 ·obtain⟨o,_,h1,_,h2⟩:=get hi hri
  exact(k.old b hm).2 o x h1 hx h2
 ·obtain⟨o,_,h1,ha,h2⟩:=get hi hr
  have k0:=k.objs o x r h1 h2
  have main:∀{z:Nat}{es:List (List PV)},wu (Mu M0 ρ h) base w ρ h r (.arr z es)→wu (Mu M0 (os.map (jy ρ)) (os.map (fP h))) base w (os.map (jy ρ)) (os.map (fP h)) r (.arr z es):=by
   intro z es k0
   obtain⟨hz,hes,kx⟩:=k0
   refine⟨hz,hes,?_⟩
   cases r with
   |none=>exact kx
   |some b=>
    obtain⟨g0,cur,cap,g1,g2,g3,g4,g5⟩:=kx
    exact⟨g0,cur,cap,g1,g2,g3,g4,fun i1 e1 j1 p1 he1 hp1=>by
     obtain⟨v,hv,hrd⟩:=g5 i1 e1 j1 p1 he1 hp1
     exact⟨v,hv,hrd.weak mu⟩⟩
  cases x<;>first|exact main k0|exact ha.elim
 ·obtain⟨o,p1,q1,_,s1⟩:=get h1 r1
  obtain⟨o',p2,q2,_,s2⟩:=get h2 r2
  have e:=k.apart o o' x x' b q1 q2 m1 m2 s1 s2
  subst e
  exact(List.getElem?_inj (Zb.1 p1).1 hn).1 (p1.trans p2.symm)
 ·obtain⟨o,h0,h1,_,h2⟩:=get hi hri
  simp only[d.root o x b h1 hx h2,idx h0]
 ·obtain⟨o,h0,h1,_,h2⟩:=get hi hri
  exact(d.tree o x z es b h1 hd h2).go (Zl _) (fun _ _=>rfl) ((k.objs o x _ h1 h2).rows hd).2 (fun c b' τ _ e=>⟨by simp only[e,Zf,Zi,idx h0],rfl⟩)
 ·obtain⟨o',ho',hg⟩:∃o',os[o]? =some o'∧fP h o'= .zarr z es:=by simpa using hi
  obtain⟨ob,h1,ha⟩:=ho o' (Zk ho')
  simp only[fP,h1,Y2]at hg
  subst hg
  exact ha.elim
def f8 (h:List AObj)(ls:List L):List Nat:=ls.filterMap fun
 | .arr o=>match h[o]? with
  |some (.arr _ _)=>some o
  |some (.darr _ _)=>some o
  |_=>none
 |_=>none
def Sr (h:List AObj)(OS:List Nat)(l l':L):Prop:=
 match l with
 | .pv p=>l'= .pv p
 | .nil=>l'= .nil
 | .arr o=>(∃ob q,h[o]? =some ob∧ob.isArr∧l'= .arr q∧OS[q]? =some o)∨(∃z es,h[o]? =some (.froz z es)∧l'= .pv (.lst es))
 |_=>False
theorem Sr.mono {h:List AObj}{OS t:List Nat}{l l':L}(r:Sr h OS l l'):Sr h (OS++t) l l':=by
 cases l with
 |arr o=>
  rcases r with⟨ob,q,h1,h0,h2,h3⟩|r
  ·exact .inl ⟨ob,q,h1,h0,h2,by rw[Ze (Zb.1 h3).1];exact h3⟩
  ·exact .inr r
 |_=>exact r
def Ux (h:List AObj)(OS:List Nat)(ls:List L)(q:List L×List AObj):Prop:=
 q.2=OS.map (fP h)∧q.1.length=ls.length∧∀(i:Nat)(l:L),ls[i]? =some l→∃l',q.1[i]? =some l'∧Sr h OS l l'
theorem vu {h:List AObj}:∀(ls xs:List L)(os:List Nat),aJ h ls=some xs→xs.all L.clean=true∧Ux h (os++f8 h ls) ls (thawL (os.map (fP h)) xs)
 |[],xs,os,e=>by
  simp[aJ]at e;subst e
  exact⟨rfl,by simp[f8,thawL],rfl,fun i l hl=>by simp at hl⟩
 |l::ls,xs,os,e=>by
  unfold aJ at e
  split at e
  ·rename_i x xs' h1 h2
   cases e
   have other:f8 h (l::ls)=f8 h ls→x.clean=true→(∀g,thawL g (x::xs')=(x::(thawL g xs').1,(thawL g xs').2))→(∀OS,Sr h OS l x)→(x::xs').all L.clean=true∧Ux h (os++f8 h (l::ls)) (l::ls) (thawL (os.map (fP h)) (x::xs')):=by
    intro em hc et hr
    obtain⟨i0,i1,i2,i3⟩:=vu ls xs' os h2
    rw[em,et]
    refine⟨by simp only[Zq,hc,i0,Yr],i1,by simp[i2],fun i l1 hl1=> ?_⟩
    cases i with
    |zero=>simp at hl1;subst hl1;exact⟨x,rfl,hr _⟩
    |succ i=>simpa using i3 i l1 (by simpa using hl1)
   cases l with
   |pv p=>simp only[bH]at h1;cases h1;exact other rfl rfl (fun _=>rfl) (fun _=>rfl)
   |nil=>simp only[bH]at h1;cases h1;exact other rfl rfl (fun _=>rfl) (fun _=>rfl)
   |arr o=>
    simp only[bH]at h1
    split at h1
    ·rename_i z es ho
     cases h1
     obtain⟨i0,i1,i2,i3⟩:=vu ls xs' (os++[o]) h2
     have em:f8 h (.arr o::ls)=o::f8 h ls:=by simp[f8,ho]
     have eg:os.map (fP h)++[AObj.arr z es]=(os++[o]).map (fP h):=by simp[fP,ho]
     rw[em]
     have eo:os++o::f8 h ls=os++[o]++f8 h ls:=by simp
     refine⟨by simp only[Zq,L.clean,i0,Yr],?_⟩
     simp only[thawL]
     rw[eg,eo]
     refine⟨i1,by rw[Zn,Zn,i2],fun i l1 hl1=> ?_⟩
     cases i with
     |zero=>
      simp at hl1;subst hl1
      refine⟨_,rfl, .inl ⟨_,(os.map (fP h)).length,ho,trivial,rfl,?_⟩⟩
      simp
     |succ i=>
      obtain⟨l',h3,h4⟩:=i3 i l1 (by simpa using hl1)
      exact⟨l',by rw[Xg];exact h3,h4⟩
    ·rename_i z es ho
     cases h1
     exact other (by simp[f8,ho]) rfl (fun _=>rfl) (fun _=> .inr ⟨z,es,ho,rfl⟩)
    ·rename_i z es ho
     cases h1
     obtain⟨i0,i1,i2,i3⟩:=vu ls xs' (os++[o]) h2
     have em:f8 h (.arr o::ls)=o::f8 h ls:=by simp[f8,ho]
     have eg:os.map (fP h)++[AObj.darr z es]=(os++[o]).map (fP h):=by simp[fP,ho]
     rw[em]
     have eo:os++o::f8 h ls=os++[o]++f8 h ls:=by simp
     refine⟨by simp only[Zq,L.clean,i0,Yr],?_⟩
     simp only[thawL]
     rw[eg,eo]
     refine⟨i1,by rw[Zn,Zn,i2],fun i l1 hl1=> ?_⟩
     cases i with
     |zero=>
      simp at hl1;subst hl1
      refine⟨_,rfl, .inl ⟨_,(os.map (fP h)).length,ho,trivial,rfl,?_⟩⟩
      simp
     |succ i=>
      obtain⟨l',h3,h4⟩:=i3 i l1 (by simpa using hl1)
      exact⟨l',by rw[Xg];exact h3,h4⟩
    ·cases h1
   |_=>cases h1
  ·cases e
theorem Sr.lr {h:List AObj}(k:HR M0 base w ρ h){OS:List Nat}(mu:∀b,Mu M0 (OS.map (jy ρ)) (OS.map (fP h)) b→Mu M0 ρ h b){l l':L}{u:Value}(r:Sr h OS l l')(hl:LR (Mu M0 ρ h) w ρ h l u):
 LR (Mu M0 (OS.map (jy ρ)) (OS.map (fP h))) w (OS.map (jy ρ)) (OS.map (fP h)) l' u:=by
 cases l with
 |pv p=>simp only[Sr]at r;subst r;exact ap.weak mu hl
 |nil=>simp only[Sr]at r;subst r;exact hl
 |arr o=>
  rcases r with⟨ob1,q,h1,_,rfl,h3⟩|⟨z,es,h1,rfl⟩
  ·obtain⟨r0,ob,hr0,hob,hs⟩:=hl
   rw[h1]at hob;cases hob
   exact⟨r0,ob1,by simp[h3,jy,hr0],by simp[h3,fP,h1],hs⟩
  ·exact ap.weak mu (mY k hl (by simp[L.view,h1]) (by simp[L.mut,h1]))
 |_=>exact r.elim
def V.isAgg :V→Bool
 | .agg _=>true
 |_=>false
theorem sH {h:List AObj}:∀(vs:List V)(xs:List (Bool×List L))(os:List Nat),bM h vs=some xs→(xs.all fun x=>x.2.all L.clean)=true∧
 (thawT (os.map (fP h)) xs).2=(os++f8 h (vs.flatMap V.cells)).map (fP h)∧(thawT (os.map (fP h)) xs).1.length=vs.length∧
 ∀(i:Nat)(v:V),vs[i]? =some v→∃ls',(thawT (os.map (fP h)) xs).1[i]? =some (v.isAgg,ls')∧(∀t,v≠ .tup t)∧ls'.length=v.cells.length∧∀(j:Nat)(l:L),v.cells[j]? =some l→∃l',ls'[j]? =some l'∧Sr h (os++f8 h (vs.flatMap V.cells)) l l'
 |[],xs,os,e=>by
  simp[bM]at e;subst e
  exact⟨rfl,by simp[thawT,f8],rfl,fun i v hv=>by simp at hv⟩
 |v::vs,xs,os,e=>by
  unfold bM at e
  split at e
  ·rename_i x xs' h1 h2
   cases e
   have key:∃ls',aJ h v.cells=some ls'∧x=(v.isAgg,ls')∧∀t,v≠ .tup t:=by
    cases v with
    |one l=>
     simp only[comp]at h1
     split at h1
     ·rename_i ys hys;cases h1;exact⟨ys,hys,rfl,by simp⟩
     ·cases h1
    |agg ls=>
     simp only[comp]at h1
     split at h1
     ·rename_i ys hys;cases h1;exact⟨ys,hys,rfl,by simp⟩
     ·cases h1
    |tup t=>cases h1
   obtain⟨ls',hg,rfl,hnt⟩:=key
   obtain⟨c0,g1,g2,g3⟩:=vu v.cells ls' os hg
   obtain⟨i0,i1,i2,i3⟩:=sH vs xs' (os++f8 h v.cells) h2
   have em:os++f8 h ((v::vs).flatMap V.cells)=os++f8 h v.cells++f8 h (vs.flatMap V.cells):=by simp[f8]
   rw[em]
   simp only[thawT]
   rw[g1]
   refine⟨by simp only[Zq,c0,i0,Yr],i1,by rw[Zn,Zn,i2],fun i v' hv'=> ?_⟩
   cases i with
   |zero=>
    simp at hv';subst hv'
    refine⟨_,rfl,hnt,g2,fun j l hl=> ?_⟩
    obtain⟨l',h3,h4⟩:=g3 j l hl
    exact⟨l',h3,h4.mono⟩
   |succ i=>
    obtain⟨ls2,q1,q2⟩:=i3 i v' (by simpa using hv')
    exact⟨ls2,by rw[Xg];exact q1,q2⟩
  ·cases e
theorem RL {h:List AObj}{ls:List L}:(f8 h ls).Sublist (al ls):=by
 induction ls with
 |nil=>exact List.Sublist.slnil
 |cons l ls ih=>
  cases l with
  |arr o=>
   simp only[al,List.filterMap_cons]
   by_cases hm:∃ob,h[o]? =some ob∧ob.isArr
   ·obtain⟨ob,hm,ha⟩:=hm
    have:f8 h (.arr o::ls)=o::f8 h ls:=by
     rcases AObj.isArr_cases ha with⟨z,es,rfl⟩|⟨z,es,rfl⟩<;>simp only[f8,List.filterMap_cons,hm]
    rw[this]
    exact List.Sublist.cons_cons o ih
   ·have:f8 h (.arr o::ls)=f8 h ls:=by
     simp only[f8,List.filterMap_cons]
     cases ho:h[o]? with
     |none=>rfl
     |some ob=>
      cases ob with
      |arr z es=>exact absurd ⟨_,ho,trivial⟩ hm
      |darr z es=>exact absurd ⟨_,ho,trivial⟩ hm
      |_=>rfl
    rw[this]
    exact List.Sublist.cons o ih
  |_=>exact ih
theorem RK {h:List AObj}{ls:List L}:∀o∈f8 h ls,∃ob,h[o]? =some ob∧ob.isArr:=by
 intro o ho
 simp only[f8,List.mem_filterMap]at ho
 obtain⟨l,_,hl⟩:=ho
 split at hl
 ·split at hl
  ·rename_i z es hz;cases hl;exact⟨_,hz,trivial⟩
  ·rename_i z es hz;cases hl;exact⟨_,hz,trivial⟩
  ·cases hl
 ·cases hl
def RY (a:Act):ResultVar→Sem Value
 | .tmp t=>pure (a.tmps.getD t undef)
 | .cell ad t=>do loadVar t (←asAddr (a.tmps.getD ad undef))
theorem Nc (fn:Func)(a:Act):results fn a.tmps=(do let vs←fn.results.mapM (RY a);pure (if h:vs.size=1 then vs[0]else .tuple vs)):=by
 unfold results
 congr 1
theorem FD (s:SR Γ M0 base σ a w ρ){rv:ResultVar}{r:ARes}{x:V}(hc:O6 P rv=some r)(hr:bQ σ r=some x):
 ∃u,(RY a rv).run P w= .ok u w∧VR (Mu M0 ρ σ.h) w ρ σ.h x u:=by
 cases rv with
 |tmp t=>
  cases hc
  simp only[bQ]at hr
  cases hr
  exact⟨a.eval (.tmp t),by simp[RY,Act.eval],s.fr.eval t⟩
 |cell ad ty=>
  simp only[O6]at hc
  split at hc
  ·rename_i n h1 h2
   cases hc
   simp only[bQ]at hr
   obtain⟨u',hu',⟨b,off,e⟩,hv⟩:=yZ s h1 h2 (s.fr.eval ad) hr
   refine⟨u',?_,hv⟩
   have e':a.tmps.getD ad undef= .pointer (some ⟨b,off,none⟩):=e
   rw[e]at hu'
   simp only[RY,e',asAddr,Sem.run_bind,Sem.run_pure,Result.andThen_ok]
   exact hu'
  ·cases hc
theorem zq (s:SR Γ M0 base σ a w ρ):∀{rvs:List ResultVar}{rs:List ARes}{xs:List V},fy (O6 P) rvs=some rs→ar σ rs=some xs→
 ∃us:List Value,(rvs.mapM (RY a)).run P w= .ok us w∧us.length=xs.length∧
  ∀(i:Nat)(x:V)(u:Value),xs[i]? =some x→us[i]? =some u→VR (Mu M0 ρ σ.h) w ρ σ.h x u
 |[],rs,xs,h1,h2=>by
  simp[fy]at h1;subst h1
  simp[ar]at h2;subst h2
  exact⟨[],by simp,rfl,fun i x u hx=>by simp at hx⟩
 |rv::rvs,rs,xs,h1,h2=>by
  unfold fy at h1
  split at h1
  ·rename_i r rs' e1 e2
   cases h1
   unfold ar at h2
   split at h2
   ·rename_i x xs' e3 e4
    cases h2
    obtain⟨u,hu,hv⟩:=FD s e1 e3
    obtain⟨us,i1,i2,i3⟩:=zq s e2 e4
    refine⟨u::us,?_,by simp[i2],fun i x' u' hx hu'=> ?_⟩
    ·rw[List.mapM_cons,Sem.run_bind,hu,Result.andThen_ok,Sem.run_bind,i1]
     simp
    ·cases i with
     |zero=>simp at hx hu';subst hx;subst hu';exact hv
     |succ i=>exact i3 i x' u' (by simpa using hx) (by simpa using hu')
   ·cases h2
  ·cases h1
theorem yz (s:SR Γ M0 base σ a w ρ){fn:Func}{rs:List ARes}{r:V}(hc:fy (O6 P) fn.results.toList=some rs)(hf:aY σ rs=some r):
 r.clean=true∧∃v,(results fn a.tmps).run P w= .ok v w∧vD M0 base w r v:=by
 unfold aY at hf
 split at hf
 ·cases hf
 ·rename_i xs hxs
  split at hf
  ·rename_i hnd
   obtain⟨us,hu1,hu2,hu3⟩:=zq s hc hxs
   have hres:(results fn a.tmps).run P w= .ok (if h:us.toArray.size=1 then us.toArray[0]else .tuple us.toArray) w:=by
    rw[Nc,Array.mapM_eq_mapM_toList]
    simp only[Sem.run_bind,Sem.run_map,hu1,Result.andThen_ok,Sem.run_pure]
   have hOS:∀{ys},bM σ.h xs=some ys→HR M0 base w ((f8 σ.h (xs.flatMap V.cells)).map (jy ρ)) ((f8 σ.h (xs.flatMap V.cells)).map (fP σ.h))∧
    (∀b,Mu M0 ((f8 σ.h (xs.flatMap V.cells)).map (jy ρ)) ((f8 σ.h (xs.flatMap V.cells)).map (fP σ.h)) b→Mu M0 ρ σ.h b):=fun _=>s.hr.sub RK (RL.nodup hnd)
   have main:∀{ys:List (Bool×List L)},bM σ.h xs=some ys→(ys.all fun x=>x.2.all L.clean)=true∧(thawT [] ys).2=(f8 σ.h (xs.flatMap V.cells)).map (fP σ.h)∧(thawT [] ys).1.length=xs.length∧
    ∀(i:Nat)(x:V)(u:Value),xs[i]? =some x→us[i]? =some u→∃ls',(thawT [] ys).1[i]? =some (x.isAgg,ls')∧
     (match(x.isAgg,ls')with
      |(true,ls)=>∃cs,u= .agg cs∧ru (Mu M0 ((f8 σ.h (xs.flatMap V.cells)).map (jy ρ)) ((f8 σ.h (xs.flatMap V.cells)).map (fP σ.h))) w ((f8 σ.h (xs.flatMap V.cells)).map (jy ρ)) ((f8 σ.h (xs.flatMap V.cells)).map (fP σ.h)) ls cs.toList
      |(false,[l])=>LR (Mu M0 ((f8 σ.h (xs.flatMap V.cells)).map (jy ρ)) ((f8 σ.h (xs.flatMap V.cells)).map (fP σ.h))) w ((f8 σ.h (xs.flatMap V.cells)).map (jy ρ)) ((f8 σ.h (xs.flatMap V.cells)).map (fP σ.h)) l u
      |_=>False):=by
    intro ys hys
    obtain⟨c1,c2,c3,c4⟩:=sH xs ys [] hys
    simp only[Yb,Zi]at c2 c3 c4
    obtain⟨_,mu⟩:=hOS hys
    refine⟨c1,c2,c3,fun i x u hx hu=> ?_⟩
    obtain⟨ls',d1,d2,d3,d4⟩:=c4 i x hx
    refine⟨ls',d1,?_⟩
    have r:=hu3 i x u hx hu
    cases x with
    |one l=>
     simp only[V.isAgg,V.cells]at d3 d4⊢
     match ls',d3,d4 with
     |[l'],_,d4=>
      obtain⟨l2,e1,e2⟩:=d4 0 l rfl
      simp at e1;subst e1
      exact e2.lr s.hr mu r
    |agg ls=>
     obtain⟨cs,rfl,hl⟩:=r
     simp only[V.isAgg,V.cells]at d3 d4⊢
     refine⟨cs,rfl,by rw[d3];exact hl.1,fun j l' c hl' hc'=> ?_⟩
     have hj:j<ls.length:=by rw[←d3];exact(Zb.1 hl').1
     obtain⟨l2,e1,e2⟩:=d4 j ls[j] (by simp[hj])
     rw[hl']at e1;cases e1
     exact e2.lr s.hr mu (hl.2 j _ c (by simp[hj]) hc')
    |tup t=>exact absurd rfl (d2 t)
   split at hf
   ·rename_i ls hys
    cases hf
    obtain⟨c1,c2,c3,c4⟩:=main hys
    obtain⟨hsub,_⟩:=hOS hys
    have hx1:xs.length=1:=by rw[←c3];simp[thawT]
    obtain⟨x,hx⟩:=Ye.1 hx1
    obtain⟨u,hu⟩:=Ye.1 (hu2.trans hx1)
    obtain⟨ls',d1,d2⟩:=c4 0 x u (by rw[hx];rfl) (by rw[hu];rfl)
    have d1':some (true,(thawL [] ls).1)=some (x.isAgg,ls'):=d1
    simp only[Option.some.injEq,Prod.mk.injEq]at d1'
    obtain⟨d0,rfl⟩:=d1'
    rw[←d0]at d2
    have e2:(thaw [] (V.agg ls)).2=(f8 σ.h (xs.flatMap V.cells)).map (fP σ.h):=c2
    refine⟨by simpa[V.clean]using c1,u,by rw[hres,hu];rfl,(f8 σ.h (xs.flatMap V.cells)).map (jy ρ),?_,?_⟩
    ·rw[e2];exact hsub
    ·rw[e2];exact d2
   ·rename_i l hys
    cases hf
    obtain⟨c1,c2,c3,c4⟩:=main hys
    obtain⟨hsub,_⟩:=hOS hys
    have hx1:xs.length=1:=by rw[←c3];simp[thawT]
    obtain⟨x,hx⟩:=Ye.1 hx1
    obtain⟨u,hu⟩:=Ye.1 (hu2.trans hx1)
    obtain⟨ls',d1,d2⟩:=c4 0 x u (by rw[hx];rfl) (by rw[hu];rfl)
    have d1':some (false,(thawL [] [l]).1)=some (x.isAgg,ls'):=d1
    simp only[Option.some.injEq,Prod.mk.injEq]at d1'
    obtain⟨d0,rfl⟩:=d1'
    rw[←d0]at d2
    obtain⟨l',h',e'⟩:=iS [] l
    have e2:(thaw [] (V.one l)).2=(f8 σ.h (xs.flatMap V.cells)).map (fP σ.h):=by
     rw[←c2]
     simp only[thaw,e',thawT]
    have e3:(thaw [] (V.one l)).1= .one l':=by simp only[thaw,e']
    refine⟨by simpa[V.clean]using c1,u,by rw[hres,hu];rfl,(f8 σ.h (xs.flatMap V.cells)).map (jy ρ),?_,?_⟩
    ·rw[e2];exact hsub
    ·rw[e2,e3]
     rw[e']at d2
     exact d2
   ·rename_i ys hne1 hne2 hys
    split at hf
    ·cases hf
    ·rename_i hlen
     cases hf
     obtain⟨c1,c2,c3,c4⟩:=main hys
     obtain⟨hsub,_⟩:=hOS hys
     have hyl:ys.length=xs.length:=by rw[←c3,(Gb ys [] c1).1]
     have hul:¬us.toArray.size=1:=by simp;omega
     refine⟨by simpa[V.clean]using c1, .tuple us.toArray,by rw[hres,dif_neg hul],(f8 σ.h (xs.flatMap V.cells)).map (jy ρ),?_,?_⟩
     ·show HR M0 base w _ (thawT [] ys).2
      rw[c2];exact hsub
     ·show VR (Mu M0 _ (thawT [] ys).2) w _ (thawT [] ys).2 (.tup (thawT [] ys).1) _
      rw[c2]
      refine⟨us.toArray,rfl,by rw[c3,←hu2];simp,fun i x' u' hx' hu'=> ?_⟩
      have hi:i<xs.length:=by rw[←c3];exact(Zb.1 hx').1
      obtain⟨ls',d1,d2⟩:=c4 i xs[i] u' (by simp[hi]) (by simpa using hu')
      rw[hx']at d1;cases d1
      exact d2
   ·cases hf
  ·cases hf
end
end Gi
namespace Gi
open Go Go.RowKit
variable {KI:KF}
def Ht (P:Program)(f z bytes:Nat):Prop:=
 ∀(w:World)(r:Option Nat)(bs:Option Addr)(n c i vb m vc:Nat)(cs vs:List Value)(cur vcur:Array Value),
  0<m→i≤n→n≤c→c≤maxLen→n+m≤maxLen→(n+m)*bytes≤140737488355328→cs.length=n*z→vs.length=m*z→(∀v∈cs,v.oneCell'=true)→(∀v∈vs,v.oneCell'=true)→
  (match r with
   |none=>n=0∧c=0
   |some b=>bs=some ⟨b,0,none⟩∧gg w b cur∧cur.size=c*z∧vb≠b∧∀(j:Nat)v,cs[j]? =some v→cur[j]? =some v)→
  gg w vb vcur→(∀(j:Nat)v,vs[j]? =some v→vcur[j]? =some v)→
  Calls P f #[.slice bs n c, .int .i64 i, .slice (some ⟨vb,0,none⟩) m vc] w fun e w'=>
   ∃b' c' cur',e= .returned (.slice (some ⟨b',0,none⟩) (n+m) c')∧gg w' b' cur'∧cur'.size=c'*z∧n+m≤c'∧c'≤maxLen∧
    (∀(j:Nat)v,(cs.take (i*z)++vs++cs.drop (i*z))[j]? =some v→cur'[j]? =some v)∧
    (r=some b'∧cur'.size=cur.size∧w'.heap.size=w.heap.size∨b'=w.heap.size∧w.heap.size<w'.heap.size)∧w'.os=w.os∧w'.tape=w.tape∧w'.output=w.output∧∀k,k<w.heap.size→k≠b'→w'.heap[k]? =w.heap[k]?
section
variable {Γ:Ctx}{P:Program}{M0:Nat→Prop}{base:Nat}{σ:St}{a:Act}{w:World}{ρ:List (Option Nat)}
theorem DN {z i n j:Nat}(h:i<n)(hj:j<z):i*z+j<n*z:=by
 calc i*z+j<i*z+z:=by omega
  _=(i+1)*z:=by rw[Z7,Yv]
  _≤n*z:=Zx _ h
theorem B7 {M:Nat→Prop}{z i:Nat}{es vs:List (List PV)}{cs vcs:List Value}(hes:∀e∈es,e.length=z)(hvs:∀e∈vs,e.length=z)(hcl:cs.length=es.length*z)(hvl:vcs.length=vs.length*z)(hi:i≤es.length)
 (h1:∀(a:Nat)(e:List PV)(j:Nat)(p:PV),es[a]? =some e→e[j]? =some p→∃v,cs[a*z+j]? =some v∧ap M w p v)
 (h2:∀(a:Nat)(e:List PV)(j:Nat)(p:PV),vs[a]? =some e→e[j]? =some p→∃v,vcs[a*z+j]? =some v∧ap M w p v):
 ∀(a:Nat)(e:List PV)(j:Nat)(p:PV),(es.take i++vs++es.drop i)[a]? =some e→e[j]? =some p→∃v,(cs.take (i*z)++vcs++cs.drop (i*z))[a*z+j]? =some v∧ap M w p v:=by
 have hiz:i*z≤cs.length:=by rw[hcl];exact Zx _ hi
 have htl:(cs.take (i*z)).length=i*z:=by rw[Zy];omega
 have hel:(es.take i).length=i:=by rw[Zy];omega
 intro a e j p he hp
 have hj:=(Zb.1 hp).1
 by_cases ha:a<i
 ·rw[Zo,Ze (by rw[hel];exact ha),Z4,if_pos ha]at he
  rw[hes e (Zk he)]at hj
  have hlt:=DN ha hj
  obtain⟨v,hv,hr⟩:=h1 a e j p he hp
  exact⟨v,by rw[Zo,Ze (by rw[htl];exact hlt),Z4,if_pos hlt];exact hv,hr⟩
 ·by_cases hb:a<i+vs.length
  ·rw[Zo,Zh (by rw[hel];omega),hel,Ze (by omega)]at he
   rw[hvs e (Zk he)]at hj
   have hlt:=DN (show a-i<vs.length by omega) hj
   have hsub:a*z+j-i*z=(a-i)*z+j:=by
    rw[Nat.sub_mul]
    have:i*z≤a*z:=Zx _ (by omega)
    omega
   have hge:i*z≤a*z+j:=Zc (Zx _ (by omega)) (Xq _ _)
   obtain⟨v,hv,hr⟩:=h2 (a-i) e j p he hp
   exact⟨v,by rw[Zo,Zh (by rw[htl];exact hge),htl,hsub,Ze (by rw[hvl];exact hlt)];exact hv,hr⟩
  ·rw[Zh (by rw[Zu,hel];omega),Zu,hel,Y0]at he
   rw[hes e (Zk he)]at hj
   have hge:(i+vs.length)*z≤a*z+j:=Zc (Zx _ (by omega)) (Xq _ _)
   rw[Z7]at hge
   have hsub:i*z+(a*z+j-(i*z+vs.length*z))=(i+(a-(i+vs.length)))*z+j:=by
    rw[Z7,Nat.sub_mul,Z7]
    have:(i+vs.length)*z≤a*z:=Zx _ (by omega)
    rw[Z7]at this
    omega
   obtain⟨v,hv,hr⟩:=h1 _ e j p he hp
   exact⟨v,by rw[Zh (by rw[Zu,htl,hvl];exact hge),Zu,htl,hvl,Y0,hsub];exact hv,hr⟩
theorem FF {M:Nat→Prop}{z:Nat}{es:List (List PV)}{cs:List Value}(hz:0<z)(hes:∀e∈es,e.length=z)(hcl:cs.length=es.length*z)
 (h1:∀(a:Nat)(e:List PV)(j:Nat)(p:PV),es[a]? =some e→e[j]? =some p→∃v,cs[a*z+j]? =some v∧ap M w p v):∀v∈cs,v.oneCell'=true:=by
 intro v hv
 obtain⟨k,hk,rfl⟩:=Xd.1 hv
 have ha:k/z<es.length:=by
  rw[Xm hz,←hcl];exact hk
 have hj:k%z<es[k/z].length:=by rw[hes _ (Zg ha)];exact Nat.mod_lt _ hz
 obtain⟨u,hu,hr⟩:=h1 (k/z) es[k/z] (k%z) es[k/z][k%z] (by simp[ha]) (by simp[hj])
 rw[show k/z*z+k%z=k by rw[Yy];exact Nat.div_add_mod k z,Zr hk]at hu
 cases hu
 exact hr.one
theorem xy {M:Nat→Prop}{z cap:Nat}{es:List (List PV)}{cur:Array Value}(hes:∀e∈es,e.length=z)(hsize:cur.size=cap*z)(hcap:es.length≤cap)
 (h1:∀(a:Nat)(e:List PV)(j:Nat)(p:PV),es[a]? =some e→e[j]? =some p→∃v,cur[a*z+j]? =some v∧ap M w p v):
 (cur.toList.take (es.length*z)).length=es.length*z∧(∀(j:Nat)v,(cur.toList.take (es.length*z))[j]? =some v→cur[j]? =some v)∧
 ∀(a:Nat)(e:List PV)(j:Nat)(p:PV),es[a]? =some e→e[j]? =some p→∃v,(cur.toList.take (es.length*z))[a*z+j]? =some v∧ap M w p v:=by
 have hle:es.length*z≤cur.size:=by rw[hsize];exact Zx _ hcap
 refine⟨by simp;omega,fun j v hv=> ?_,fun a e j p he hp=> ?_⟩
 ·rw[Z4]at hv
  split at hv
  ·simpa using hv
  ·cases hv
 ·obtain⟨v,hv,hr⟩:=h1 a e j p he hp
  have hj:=(Zb.1 hp).1
  rw[hes e (Zk he)]at hj
  refine⟨v,?_,hr⟩
  rw[Z4,if_pos (DN (Zb.1 he).1 hj)]
  simpa using hv
theorem Sb {i:Nat}{es vs:List (List PV)}(hi:i≤es.length):(es.take i++vs++es.drop i).length=es.length+vs.length:=by simp;omega
theorem Fg {f z bytes:Nat}(hz0:0<z){h:List AObj}(k:HR M0 base w ρ h){w':World}{es:List (List PV)}{cs:List Value}{c':Nat}{cur':Array Value}(hall:∀e∈es,e.length=z)
 (hrows:∀(a:Nat)(e:List PV)(j:Nat)(p:PV),es[a]? =some e→e[j]? =some p→∃v,cs[a*z+j]? =some v∧ap (Mu M0 ρ h) w p v)
 (hrow:gg w' w.heap.size cur') (hsize:cur'.size=c'*z) (hn:es.length≤c') (hc:c'≤maxLen) (hcells:∀(j:Nat)v,cs[j]? =some v→cur'[j]? =some v) (hlt:w.heap.size<w'.heap.size) (hfr:∀b,b<w.heap.size→w'.heap[b]? =w.heap[b]?):
 ∃ρ',HR M0 base w' ρ' (h++[.arr z es])∧Ch (Mu M0 ρ h) (Mu M0 ρ' (h++[.arr z es])) w w' ρ ρ' h (h++[.arr z es])∧
  VR (Mu M0 ρ' (h++[.arr z es])) w' ρ' (h++[.arr z es]) (.one (.arr h.length)) (.slice (some ⟨w.heap.size,0,none⟩) es.length c'):=
 M5 k hlt hfr hz0 hall hrow hsize hn hc fun a e j p he hp=>by
  obtain⟨v,hv,hr⟩:=hrows a e j p he hp
  exact⟨v,hcells _ v hv,hr⟩
theorem MM (s:SR Γ M0 base σ a w ρ){f z bytes:Nat}(ok:Ht P f z bytes){o o2:Nat}{es vs:List (List PV)}(ho:σ.h[o]? =some (.arr z es))(ho2:σ.h[o2]? =some (.arr z vs))(hne:o≠o2)(hm:0<vs.length){i:Nat}(hi:i≤es.length)
 (hlim:(es.length+vs.length)*bytes≤140737488355328) (h63:es.length+vs.length≤maxLen) {ux uv:Value} (rx:LR (Mu M0 ρ σ.h) w ρ σ.h (.arr o) ux) (rv:LR (Mu M0 ρ σ.h) w ρ σ.h (.arr o2) uv):
 Calls P f #[ux, .int .i64 i,uv] w fun e w'=>∃u ρ',e= .returned u∧Below base w w'∧HR M0 base w' ρ' (σ.h.set o .dead++[.arr z (es.take i++vs++es.drop i)])∧
  Ch (Mu M0 ρ σ.h) (Mu M0 ρ' (σ.h.set o .dead++[.arr z (es.take i++vs++es.drop i)])) w w' ρ ρ' σ.h (σ.h.set o .dead++[.arr z (es.take i++vs++es.drop i)])∧
  VR (Mu M0 ρ' (σ.h.set o .dead++[.arr z (es.take i++vs++es.drop i)])) w' ρ' (σ.h.set o .dead++[.arr z (es.take i++vs++es.drop i)]) (.one (.arr σ.h.length)) u:=by
 obtain⟨r0,ob0,hr0,hob0,hsl⟩:=rx
 rw[ho]at hob0;cases hob0
 obtain⟨r2,ob2,hr2,hob2,hsl2⟩:=rv
 rw[ho2]at hob2;cases hob2
 obtain⟨hz0,hes,kx⟩:=s.hr.objs o _ r0 ho hr0
 obtain⟨_,hvs,kv⟩:=s.hr.objs o2 _ r2 ho2 hr2
 cases r2 with
 |none=>obtain rfl:vs=[]:=kv;simp at hm
 |some vb=>
 obtain⟨_,vcur,vcap,hvrow,v1,v2,v3,v4⟩:=kv
 obtain⟨vcur',vcap',hvrow',v1',v2',v3',ev⟩:=hsl2
 obtain⟨q1,q2,q3⟩:=xy hvs v1 v2 v4
 have qo:=FF hz0 hvs q1 q3
 have hnl:=Sb (vs:=vs) hi
 have hall:∀e∈es.take i++vs++es.drop i,e.length=z:=fun e he=>by
  simp only[Yw]at he
  rcases he with(h|h)|h
  ·exact hes e (Z9 h)
  ·exact hvs e h
  ·exact hes e (List.mem_of_mem_drop h)
 have dead:=s.hr.upd (w':=w) (ob':= .dead) ho hr0 rfl trivial rfl (fun _ _=>rfl) (fun b cur _ hrw=>⟨cur,hrw,rfl⟩) (fun _=>trivial)
 have fresh:∀{cs:List Value}{w':World}{c':Nat}{cur':Array Value},(∀(a:Nat)(e:List PV)(j:Nat)(p:PV),(es.take i++vs++es.drop i)[a]? =some e→e[j]? =some p→∃v,cs[a*z+j]? =some v∧ap (Mu M0 ρ σ.h) w p v)→
  gg w' w.heap.size cur'→cur'.size=c'*z→es.length+vs.length≤c'→c'≤maxLen→(∀(j:Nat)v,cs[j]? =some v→cur'[j]? =some v)→w.heap.size<w'.heap.size→w'.os=w.os→w'.tape=w.tape→w'.output=w.output→(∀k,k<w.heap.size→k≠w.heap.size→w'.heap[k]? =w.heap[k]?)→
  ∃u ρ',(Ending.returned (.slice (some ⟨w.heap.size,0,none⟩) (es.length+vs.length) c')= .returned u)∧Below base w w'∧HR M0 base w' ρ' (σ.h.set o .dead++[.arr z (es.take i++vs++es.drop i)])∧
   Ch (Mu M0 ρ σ.h) (Mu M0 ρ' (σ.h.set o .dead++[.arr z (es.take i++vs++es.drop i)])) w w' ρ ρ' σ.h (σ.h.set o .dead++[.arr z (es.take i++vs++es.drop i)])∧
   VR (Mu M0 ρ' (σ.h.set o .dead++[.arr z (es.take i++vs++es.drop i)])) w' ρ' (σ.h.set o .dead++[.arr z (es.take i++vs++es.drop i)]) (.one (.arr σ.h.length)) u:=by
  intro cs w' c' cur' hrows hrow hsize hn hc hcells hlt e1 e2 e3 hfr
  obtain⟨k2,c2⟩:=dead
  obtain⟨ρ',g1,g2,g3⟩:=Fg (f:=f) (bytes:=bytes) hz0 k2 hall (fun a e j p he hp=>by
   obtain⟨v,hv,hr⟩:=hrows a e j p he hp
   exact⟨v,hv,ap.go c2.go p v hr⟩) hrow hsize (by rw[hnl];exact hn) hc hcells hlt (fun b hb=>hfr b hb (by omega))
  refine⟨_,ρ',rfl,⟨e1,e2,e3,Xc hlt,fun k hk=>hfr k (Z3 hk s.hr.le) (by have:=s.hr.le;omega)⟩,g1,c2.trans g2,?_⟩
  rw[hnl]at g3
  simpa using g3
 cases r0 with
 |none=>
  obtain rfl:es=[]:=kx
  obtain⟨ad,ex⟩:∃ad,ux= .slice ad 0 0:=hsl
  subst ex ev
  have hi0:i=0:=by simpa using hi
  subst hi0
  refine(ok w none ad 0 0 0 vb vs.length vcap' [] (vcur.toList.take (vs.length*z)) #[] vcur hm (Zl _) (Zl _) (Nat.zero_le _) (by simpa using h63) (by simpa using hlim) (by simp) q1 (by simp) qo ⟨rfl,rfl⟩ hvrow q2).mono fun e w'⟨b',c',cur',he,hrow,hsize,hn,hc,hcells,hwhere,e1,e2,e3,hfr⟩=> ?_
  rcases hwhere with⟨h,_⟩|⟨rfl,hlt⟩
  ·cases h
  ·subst he
   exact fresh (cs:=[].take (0*z)++vcur.toList.take (vs.length*z)++[].drop (0*z)) (B7 (i:=0) (es:=[]) (cs:=[]) (by simp) hvs (by simp) q1 (by simp) (fun a e j p he=>by simp at he) q3) hrow hsize (by simpa using hn) hc hcells hlt e1 e2 e3 hfr
 |some b=>
  obtain⟨hbase,cur,cap,hrow,h1,h2,h3,h4⟩:=kx
  obtain⟨cur1,cap1,hrow1,h11,h21,h31,ex⟩:=hsl
  cases hrow.inj hrow1
  have hcap:cap1=cap:=Yi hz0 (h11.symm.trans h1)
  subst hcap ex ev
  have hvb:vb≠b:=fun e=>hne (s.hr.apart o o2 _ _ b ho ho2 rfl rfl hr0 (by rw[hr2,e]))
  obtain⟨p1,p2,p3⟩:=xy hes h1 h2 h4
  have po:=FF hz0 hes p1 p3
  have hrows:=B7 hes hvs p1 q1 hi p3 q3
  refine(ok w (some b) (some ⟨b,0,none⟩) es.length cap1 i vb vs.length vcap' (cur.toList.take (es.length*z)) (vcur.toList.take (vs.length*z)) cur vcur hm hi h2 h3 h63 hlim p1 q1 po qo ⟨rfl,hrow,h1,hvb,p2⟩ hvrow q2).mono fun e w'⟨b',c',cur',he,hrow',hsize,hn,hc,hcells,hwhere,e1,e2,e3,hfr⟩=> ?_
  subst he
  rcases hwhere with⟨hb',hcz,hws⟩|⟨rfl,hlt⟩
  ·cases hb'
   have hfr':∀k,k≠b→w'.heap[k]? =w.heap[k]? :=fun k hk=>by
    by_cases hl:k<w.heap.size
    ·exact hfr k hl hk
    ·rw[Y7 (by omega),Y7 (by omega)]
   have hc1:c'=cap1:=Yi hz0 (hsize.symm.trans (hcz.trans h1))
   obtain⟨k2,c2⟩:=s.hr.upd (w':=w') (ob':= .arr z ((es.take i++vs++es.drop i).take es.length)) ho hr0 rfl ⟨rfl,by rw[Zy,hnl];omega⟩ hws.symm
    (fun k hk=>hfr' k (fun e=>hk (by rw[e])))
    (fun k c e hrw=>by cases e;rw[hrw.inj hrow];exact⟨cur',hrow',hcz⟩)
    (fun c=>⟨hz0,fun e he=>hall e (Z9 he),hbase,cur',c',hrow',hsize,by rw[Zy,hnl];omega,hc,fun a1 e1 j1 p1 he1 hp1=>by
     rw[Z4]at he1
     split at he1
     ·obtain⟨v,hv,hrd⟩:=hrows a1 e1 j1 p1 he1 hp1
      exact⟨v,hcells _ v hv,ap.go c.go p1 v hrd⟩
     ·cases he1⟩)
   have hlt0:o<σ.h.length:=(Zb.1 ho).1
   obtain⟨g1,g2⟩:=k2.rename (z:=z) (es:=(es.take i++vs++es.drop i).take es.length) (es':=es.take i++vs++es.drop i) (Zd hlt0) hr0 (fun mu=>by
    refine⟨hz0,hall,hbase,cur',c',hrow',hsize,by rw[hnl];exact hn,hc,fun a1 e1 j1 p1 he1 hp1=> ?_⟩
    obtain⟨v,hv,hrd⟩:=hrows a1 e1 j1 p1 he1 hp1
    exact⟨v,hcells _ v hv,(ap.go c2.go p1 v hrd).weak mu⟩)
   rw[List.set_set]at g1 g2
   refine⟨_,_,rfl,⟨e1,e2,e3,by omega,fun k hk=>hfr' k (by omega)⟩,g1,c2.trans g2,some b, .arr z (es.take i++vs++es.drop i),?_,?_,cur',c',hrow',hsize,by rw[hnl];exact hn,hc,by rw[hnl]⟩
   ·rw[←s.hr.len];simp
   ·rw[Zh (by simp)];simp
  ·exact fresh hrows hrow' hsize hn hc hcells hlt e1 e2 e3 hfr
theorem MO (s:SR Γ M0 base σ a w ρ){f z bytes:Nat}(ok:Ht P f z bytes){ad:Option Addr}{o2:Nat}{vs:List (List PV)}(ho2:σ.h[o2]? =some (.arr z vs))(hm:0<vs.length)
 (hlim:vs.length*bytes≤140737488355328) (h63:vs.length≤maxLen) {uv:Value} (rv:LR (Mu M0 ρ σ.h) w ρ σ.h (.arr o2) uv):
 Calls P f #[.slice ad 0 0, .int .i64 (0:Nat),uv] w fun e w'=>∃u ρ',e= .returned u∧Below base w w'∧HR M0 base w' ρ' (σ.h++[.arr z vs])∧
  Ch (Mu M0 ρ σ.h) (Mu M0 ρ' (σ.h++[.arr z vs])) w w' ρ ρ' σ.h (σ.h++[.arr z vs])∧VR (Mu M0 ρ' (σ.h++[.arr z vs])) w' ρ' (σ.h++[.arr z vs]) (.one (.arr σ.h.length)) u:=by
 obtain⟨r2,ob2,hr2,hob2,hsl2⟩:=rv
 rw[ho2]at hob2;cases hob2
 obtain⟨hz0,hvs,kv⟩:=s.hr.objs o2 _ r2 ho2 hr2
 cases r2 with
 |none=>obtain rfl:vs=[]:=kv;simp at hm
 |some vb=>
 obtain⟨_,vcur,vcap,hvrow,v1,v2,v3,v4⟩:=kv
 obtain⟨vcur',vcap',hvrow',v1',v2',v3',ev⟩:=hsl2
 subst ev
 obtain⟨q1,q2,q3⟩:=xy hvs v1 v2 v4
 have qo:=FF hz0 hvs q1 q3
 refine(ok w none ad 0 0 0 vb vs.length vcap' [] (vcur.toList.take (vs.length*z)) #[] vcur hm (Zl _) (Zl _) (Nat.zero_le _) (by simpa using h63) (by simpa using hlim) (by simp) q1 (by simp) qo ⟨rfl,rfl⟩ hvrow q2).mono fun e w'⟨b',c',cur',he,hrow,hsize,hn,hc,hcells,hwhere,e1,e2,e3,hfr⟩=> ?_
 rcases hwhere with⟨h,_⟩|⟨rfl,hlt⟩
 ·cases h
 ·subst he
  obtain⟨ρ',g1,g2,g3⟩:=Fg (f:=f) (bytes:=bytes) hz0 s.hr (cs:=vcur.toList.take (vs.length*z)) hvs q3 hrow hsize (by simpa using hn) hc (fun j v hj=>hcells j v (by simpa using hj)) hlt (fun b hb=>hfr b hb (by omega))
  refine⟨_,ρ',rfl,⟨e1,e2,e3,Xc hlt,fun k hk=>hfr k (Z3 hk s.hr.le) (by have:=s.hr.le;omega)⟩,g1,g2,?_⟩
  simpa using g3
end
end Gi
