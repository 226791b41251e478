/- Of this proof. -/
import Derived.Test.YtgmnakghjemjlabGreatGin
set_option linter.unusedSimpArgs false
set_option linter.unusedVariables false
namespace Gi
open Go Go.RowKit
variable {KI:KF}
section
variable {Γ:Ctx}{P:Program}{M0:Nat→Prop}{base:Nat}{σ:St}{a:Act}{w:World}{ρ:List (Option Nat)}
def fq (h:List AObj)(o:Nat):AObj:=(h[o]?).getD .dead
def iV (ρ:List (Option Nat))(o:Nat):Option Nat:=(ρ[o]?).getD none
theorem AObj.isArr_cases {ob:AObj}(h:ob.isArr):(∃z es,ob= .arr z es)∨∃z es,ob= .darr z es:=by cases ob<;>first|exact h.elim|exact .inl ⟨_,_,rfl⟩|exact .inr ⟨_,_,rfl⟩
theorem HR.sub {h:List AObj}(k:HR M0 base w ρ h){os:List Nat}(ho:∀o∈os,∃ob,h[o]? =some ob∧ob.isArr)(hn:os.Nodup):
 HR M0 base w (os.map (iV ρ)) (os.map (fq h))∧(∀b,Mu M0 (os.map (iV ρ)) (os.map (fq h)) b→Mu M0 ρ h b):=by
 have get:∀{i:Nat}{x:AObj}{r:Option Nat},(os.map (fq h))[i]? =some x→(os.map (iV ρ))[i]? =some r→∃o,os[i]? =some o∧h[o]? =some x∧x.isArr∧ρ[o]? =some r:=by
  intro i x r hx hr
  simp only[List.getElem?_map,Option.map_eq_some_iff]at hx hr
  obtain⟨o,h1,rfl⟩:=hx
  obtain⟨o',h2,rfl⟩:=hr
  rw[h1]at h2;cases h2
  obtain⟨ob,hz,ha⟩:=ho o (List.mem_of_getElem? h1)
  obtain⟨r,hr⟩:=k.mem hz
  have e:fq h o=ob:=by simp[fq,hz]
  exact⟨o,h1,by rw[e];exact hz,by rw[e];exact ha,by simp[iV,hr]⟩
 have mu:∀b,Mu M0 (os.map (iV ρ)) (os.map (fq h)) b→Mu M0 ρ h b:=by
  intro b hm
  rcases hm with hm|⟨i,x,hi,hx,hri⟩
  ·exact .inl hm
  ·obtain⟨o,_,h1,_,h2⟩:=get hi hri
   exact .inr ⟨o,x,h1,hx,h2⟩
 have idx:∀{i o:Nat},os[i]? =some o→os.findIdx? (· ==o)=some i:=by
  intro i o hi
  obtain⟨hlt,e⟩:=List.getElem?_eq_some_iff.1 hi
  rw[List.findIdx?_eq_some_iff_getElem]
  refine⟨hlt,by simp[e],fun j hj=> ?_⟩
  simp only[beq_iff_eq,ne_eq,Bool.not_eq_true,beq_eq_false_iff_ne]
  intro e2
  have h1:os[j]? =some o:=List.getElem?_eq_some_iff.2 ⟨by omega,e2⟩
  have:=(List.getElem?_inj (by omega) hn).1 (h1.trans hi.symm)
  omega
 obtain⟨κ,d,n⟩:=k.deep
 refine⟨⟨⟨by simp,fun b hm=>⟨(k.old b hm).1,fun i x hi hx hri=> ?_⟩,k.le,fun i x r hi hr=> ?_,fun i i' x x' b h1 h2 m1 m2 r1 r2=> ?_⟩,fun b=>match κ b with
  |o::τ=>(match os.findIdx? (· ==o)with
   |some q=>q::τ
   |none=>[])
  |[]=>[],⟨fun i x b hi hx hri=> ?_,fun i x z es b hi hd hri=> ?_⟩,fun b hb=>by simp only[n.new b hb],fun b o c τ z es e hi=> ?_⟩,mu⟩
 ·obtain⟨o,_,h1,_,h2⟩:=get hi hri
  exact(k.old b hm).2 o x h1 hx h2
 ·obtain⟨o,_,h1,ha,h2⟩:=get hi hr
  have k0:=k.objs o x r h1 h2
  have main:∀{z:Nat}{es:List (List PV)},uL (Mu M0 ρ h) base w ρ h r (.arr z es)→uL (Mu M0 (os.map (iV ρ)) (os.map (fq h))) base w (os.map (iV ρ)) (os.map (fq h)) r (.arr z es):=by
   intro z es k0
   obtain⟨hz,hes,kx⟩:=k0
   refine⟨hz,hes,?_⟩
   cases r with
   |none=>exact kx
   |some b=>
    obtain⟨g0,cur,cap,g1,g2,g3,g4,g5⟩:=kx
    exact⟨g0,cur,cap,g1,g2,g3,g4,fun i1 e1 j1 p1 he1 hp1=>by
     obtain⟨v,hv,hrd⟩:=g5 i1 e1 j1 p1 he1 hp1
     exact⟨v,hv,hrd.weak mu⟩⟩
  cases x<;>first|exact main k0|exact ha.elim
 ·obtain⟨o,p1,q1,_,s1⟩:=get h1 r1
  obtain⟨o',p2,q2,_,s2⟩:=get h2 r2
  have e:=k.apart o o' x x' b q1 q2 m1 m2 s1 s2
  subst e
  exact(List.getElem?_inj (List.getElem?_eq_some_iff.1 p1).1 hn).1 (p1.trans p2.symm)
 ·obtain⟨o,h0,h1,_,h2⟩:=get hi hri
  simp only[d.root o x b h1 hx h2,idx h0]
 ·obtain⟨o,h0,h1,_,h2⟩:=get hi hri
  exact(d.tree o x z es b h1 hd h2).go (Nat.le_refl _) (fun _ _=>rfl) ((k.objs o x _ h1 h2).rows hd).2 (fun c b' τ _ e=>⟨by simp only[e,List.cons_append,List.nil_append,idx h0],rfl⟩)
 ·obtain⟨o',ho',hg⟩:∃o',os[o]? =some o'∧fq h o'= .zarr z es:=by simpa using hi
  obtain⟨ob,h1,ha⟩:=ho o' (List.mem_of_getElem? ho')
  simp only[fq,h1,Option.getD_some]at hg
  subst hg
  exact ha.elim
def fL (h:List AObj)(ls:List L):List Nat:=ls.filterMap fun
 | .arr o=>match h[o]? with
  |some (.arr _ _)=>some o
  |some (.darr _ _)=>some o
  |_=>none
 |_=>none
def O2 (h:List AObj)(OS:List Nat)(l l':L):Prop:=
 match l with
 | .pv p=>l'= .pv p
 | .nil=>l'= .nil
 | .arr o=>(∃ob q,h[o]? =some ob∧ob.isArr∧l'= .arr q∧OS[q]? =some o)∨(∃z es,h[o]? =some (.froz z es)∧l'= .pv (.lst es))
 |_=>False
theorem O2.mono {h:List AObj}{OS t:List Nat}{l l':L}(r:O2 h OS l l'):O2 h (OS++t) l l':=by
 cases l with
 |arr o=>
  rcases r with⟨ob,q,h1,h0,h2,h3⟩|r
  ·exact .inl ⟨ob,q,h1,h0,h2,by rw[List.getElem?_append_left (List.getElem?_eq_some_iff.1 h3).1];exact h3⟩
  ·exact .inr r
 |_=>exact r
def QB (h:List AObj)(OS:List Nat)(ls:List L)(q:List L×List AObj):Prop:=
 q.2=OS.map (fq h)∧q.1.length=ls.length∧∀(i:Nat)(l:L),ls[i]? =some l→∃l',q.1[i]? =some l'∧O2 h OS l l'
theorem tj {h:List AObj}:∀(ls xs:List L)(os:List Nat),aK h ls=some xs→xs.all L.clean=true∧QB h (os++fL h ls) ls (thawL (os.map (fq h)) xs)
 |[],xs,os,e=>by
  simp[aK]at e;subst e
  exact⟨rfl,by simp[fL,thawL],rfl,fun i l hl=>by simp at hl⟩
 |l::ls,xs,os,e=>by
  unfold aK at e
  split at e
  ·rename_i x xs' h1 h2
   cases e
   have other:fL h (l::ls)=fL h ls→x.clean=true→(∀g,thawL g (x::xs')=(x::(thawL g xs').1,(thawL g xs').2))→(∀OS,O2 h OS l x)→(x::xs').all L.clean=true∧QB h (os++fL h (l::ls)) (l::ls) (thawL (os.map (fq h)) (x::xs')):=by
    intro em hc et hr
    obtain⟨i0,i1,i2,i3⟩:=tj ls xs' os h2
    rw[em,et]
    refine⟨by simp only[List.all_cons,hc,i0,Bool.and_self],i1,by simp[i2],fun i l1 hl1=> ?_⟩
    cases i with
    |zero=>simp at hl1;subst hl1;exact⟨x,rfl,hr _⟩
    |succ i=>simpa using i3 i l1 (by simpa using hl1)
   cases l with
   |pv p=>simp only[bu]at h1;cases h1;exact other rfl rfl (fun _=>rfl) (fun _=>rfl)
   |nil=>simp only[bu]at h1;cases h1;exact other rfl rfl (fun _=>rfl) (fun _=>rfl)
   |arr o=>
    simp only[bu]at h1
    split at h1
    ·rename_i z es ho
     cases h1
     obtain⟨i0,i1,i2,i3⟩:=tj ls xs' (os++[o]) h2
     have em:fL h (.arr o::ls)=o::fL h ls:=by simp[fL,ho]
     have eg:os.map (fq h)++[AObj.arr z es]=(os++[o]).map (fq h):=by simp[fq,ho]
     rw[em]
     have eo:os++o::fL h ls=os++[o]++fL h ls:=by simp
     refine⟨by simp only[List.all_cons,L.clean,i0,Bool.and_self],?_⟩
     simp only[thawL]
     rw[eg,eo]
     refine⟨i1,by rw[List.length_cons,List.length_cons,i2],fun i l1 hl1=> ?_⟩
     cases i with
     |zero=>
      simp at hl1;subst hl1
      refine⟨_,rfl, .inl ⟨_,(os.map (fq h)).length,ho,trivial,rfl,?_⟩⟩
      simp
     |succ i=>
      obtain⟨l',h3,h4⟩:=i3 i l1 (by simpa using hl1)
      exact⟨l',by rw[List.getElem?_cons_succ];exact h3,h4⟩
    ·rename_i z es ho
     cases h1
     exact other (by simp[fL,ho]) rfl (fun _=>rfl) (fun _=> .inr ⟨z,es,ho,rfl⟩)
    ·rename_i z es ho
     cases h1
     obtain⟨i0,i1,i2,i3⟩:=tj ls xs' (os++[o]) h2
     have em:fL h (.arr o::ls)=o::fL h ls:=by simp[fL,ho]
     have eg:os.map (fq h)++[AObj.darr z es]=(os++[o]).map (fq h):=by simp[fq,ho]
     rw[em]
     have eo:os++o::fL h ls=os++[o]++fL h ls:=by simp
     refine⟨by simp only[List.all_cons,L.clean,i0,Bool.and_self],?_⟩
     simp only[thawL]
     rw[eg,eo]
     refine⟨i1,by rw[List.length_cons,List.length_cons,i2],fun i l1 hl1=> ?_⟩
     cases i with
     |zero=>
      simp at hl1;subst hl1
      refine⟨_,rfl, .inl ⟨_,(os.map (fq h)).length,ho,trivial,rfl,?_⟩⟩
      simp
     |succ i=>
      obtain⟨l',h3,h4⟩:=i3 i l1 (by simpa using hl1)
      exact⟨l',by rw[List.getElem?_cons_succ];exact h3,h4⟩
    ·cases h1
   |_=>cases h1
  ·cases e
theorem O2.lr {h:List AObj}(k:HR M0 base w ρ h){OS:List Nat}(mu:∀b,Mu M0 (OS.map (iV ρ)) (OS.map (fq h)) b→Mu M0 ρ h b){l l':L}{u:Value}(r:O2 h OS l l')(hl:LR (Mu M0 ρ h) w ρ h l u):
 LR (Mu M0 (OS.map (iV ρ)) (OS.map (fq h))) w (OS.map (iV ρ)) (OS.map (fq h)) l' u:=by
 cases l with
 |pv p=>simp only[O2]at r;subst r;exact al.weak mu hl
 |nil=>simp only[O2]at r;subst r;exact hl
 |arr o=>
  rcases r with⟨ob1,q,h1,_,rfl,h3⟩|⟨z,es,h1,rfl⟩
  ·obtain⟨r0,ob,hr0,hob,hs⟩:=hl
   rw[h1]at hob;cases hob
   exact⟨r0,ob1,by simp[h3,iV,hr0],by simp[h3,fq,h1],hs⟩
  ·exact al.weak mu (me k hl (by simp[L.view,h1]) (by simp[L.mut,h1]))
 |_=>exact r.elim
def V.isAgg :V→Bool
 | .agg _=>true
 |_=>false
theorem qI {h:List AObj}:∀(vs:List V)(xs:List (Bool×List L))(os:List Nat),bP h vs=some xs→(xs.all fun x=>x.2.all L.clean)=true∧
 (thawT (os.map (fq h)) xs).2=(os++fL h (vs.flatMap V.cells)).map (fq h)∧(thawT (os.map (fq h)) xs).1.length=vs.length∧
 ∀(i:Nat)(v:V),vs[i]? =some v→∃ls',(thawT (os.map (fq h)) xs).1[i]? =some (v.isAgg,ls')∧(∀t,v≠ .tup t)∧ls'.length=v.cells.length∧∀(j:Nat)(l:L),v.cells[j]? =some l→∃l',ls'[j]? =some l'∧O2 h (os++fL h (vs.flatMap V.cells)) l l'
 |[],xs,os,e=>by
  simp[bP]at e;subst e
  exact⟨rfl,by simp[thawT,fL],rfl,fun i v hv=>by simp at hv⟩
 |v::vs,xs,os,e=>by
  unfold bP at e
  split at e
  ·rename_i x xs' h1 h2
   cases e
   have key:∃ls',aK h v.cells=some ls'∧x=(v.isAgg,ls')∧∀t,v≠ .tup t:=by
    cases v with
    |one l=>
     simp only[comp]at h1
     split at h1
     ·rename_i ys hys;cases h1;exact⟨ys,hys,rfl,by simp⟩
     ·cases h1
    |agg ls=>
     simp only[comp]at h1
     split at h1
     ·rename_i ys hys;cases h1;exact⟨ys,hys,rfl,by simp⟩
     ·cases h1
    |tup t=>cases h1
   obtain⟨ls',hg,rfl,hnt⟩:=key
   obtain⟨c0,g1,g2,g3⟩:=tj v.cells ls' os hg
   obtain⟨i0,i1,i2,i3⟩:=qI vs xs' (os++fL h v.cells) h2
   have em:os++fL h ((v::vs).flatMap V.cells)=os++fL h v.cells++fL h (vs.flatMap V.cells):=by simp[fL]
   rw[em]
   simp only[thawT]
   rw[g1]
   refine⟨by simp only[List.all_cons,c0,i0,Bool.and_self],i1,by rw[List.length_cons,List.length_cons,i2],fun i v' hv'=> ?_⟩
   cases i with
   |zero=>
    simp at hv';subst hv'
    refine⟨_,rfl,hnt,g2,fun j l hl=> ?_⟩
    obtain⟨l',h3,h4⟩:=g3 j l hl
    exact⟨l',h3,h4.mono⟩
   |succ i=>
    obtain⟨ls2,q1,q2⟩:=i3 i v' (by simpa using hv')
    exact⟨ls2,by rw[List.getElem?_cons_succ];exact q1,q2⟩
  ·cases e
theorem Ou {h:List AObj}{ls:List L}:(fL h ls).Sublist (ai ls):=by
 induction ls with
 |nil=>exact List.Sublist.slnil
 |cons l ls ih=>
  cases l with
  |arr o=>
   simp only[ai,List.filterMap_cons]
   by_cases hm:∃ob,h[o]? =some ob∧ob.isArr
   ·obtain⟨ob,hm,ha⟩:=hm
    have:fL h (.arr o::ls)=o::fL h ls:=by
     rcases AObj.isArr_cases ha with⟨z,es,rfl⟩|⟨z,es,rfl⟩<;>simp only[fL,List.filterMap_cons,hm]
    rw[this]
    exact List.Sublist.cons_cons o ih
   ·have:fL h (.arr o::ls)=fL h ls:=by
     simp only[fL,List.filterMap_cons]
     cases ho:h[o]? with
     |none=>rfl
     |some ob=>
      cases ob with
      |arr z es=>exact absurd ⟨_,ho,trivial⟩ hm
      |darr z es=>exact absurd ⟨_,ho,trivial⟩ hm
      |_=>rfl
    rw[this]
    exact List.Sublist.cons o ih
  |_=>exact ih
theorem Ot {h:List AObj}{ls:List L}:∀o∈fL h ls,∃ob,h[o]? =some ob∧ob.isArr:=by
 intro o ho
 simp only[fL,List.mem_filterMap]at ho
 obtain⟨l,_,hl⟩:=ho
 split at hl
 ·split at hl
  ·rename_i z es hz;cases hl;exact⟨_,hz,trivial⟩
  ·rename_i z es hz;cases hl;exact⟨_,hz,trivial⟩
  ·cases hl
 ·cases hl
def OB (a:Act):ResultVar→Sem Value
 | .tmp t=>pure (a.tmps.getD t undef)
 | .cell ad t=>do loadVar t (←asAddr (a.tmps.getD ad undef))
theorem Kh (fn:Func)(a:Act):results fn a.tmps=(do let vs←fn.results.mapM (OB a);pure (if h:vs.size=1 then vs[0]else .tuple vs)):=by
 unfold results
 congr 1
theorem Dq (s:SR Γ M0 base σ a w ρ){rv:ResultVar}{r:ARes}{x:V}(hc:L0 P rv=some r)(hr:bz σ r=some x):
 ∃u,(OB a rv).run P w= .ok u w∧VR (Mu M0 ρ σ.h) w ρ σ.h x u:=by
 cases rv with
 |tmp t=>
  cases hc
  simp only[bz]at hr
  cases hr
  exact⟨a.eval (.tmp t),by simp[OB,Act.eval],s.fr.eval t⟩
 |cell ad ty=>
  simp only[L0]at hc
  split at hc
  ·rename_i n h1 h2
   cases hc
   simp only[bz]at hr
   obtain⟨u',hu',⟨b,off,e⟩,hv⟩:=xa s h1 h2 (s.fr.eval ad) hr
   refine⟨u',?_,hv⟩
   have e':a.tmps.getD ad undef= .pointer (some ⟨b,off,none⟩):=e
   rw[e]at hu'
   simp only[OB,e',asAddr,Sem.run_bind,Sem.run_pure,Result.andThen_ok]
   exact hu'
  ·cases hc
theorem xj (s:SR Γ M0 base σ a w ρ):∀{rvs:List ResultVar}{rs:List ARes}{xs:List V},fB (L0 P) rvs=some rs→ar σ rs=some xs→
 ∃us:List Value,(rvs.mapM (OB a)).run P w= .ok us w∧us.length=xs.length∧
  ∀(i:Nat)(x:V)(u:Value),xs[i]? =some x→us[i]? =some u→VR (Mu M0 ρ σ.h) w ρ σ.h x u
 |[],rs,xs,h1,h2=>by
  simp[fB]at h1;subst h1
  simp[ar]at h2;subst h2
  exact⟨[],by simp,rfl,fun i x u hx=>by simp at hx⟩
 |rv::rvs,rs,xs,h1,h2=>by
  unfold fB at h1
  split at h1
  ·rename_i r rs' e1 e2
   cases h1
   unfold ar at h2
   split at h2
   ·rename_i x xs' e3 e4
    cases h2
    obtain⟨u,hu,hv⟩:=Dq s e1 e3
    obtain⟨us,i1,i2,i3⟩:=xj s e2 e4
    refine⟨u::us,?_,by simp[i2],fun i x' u' hx hu'=> ?_⟩
    ·rw[List.mapM_cons,Sem.run_bind,hu,Result.andThen_ok,Sem.run_bind,i1]
     simp
    ·cases i with
     |zero=>simp at hx hu';subst hx;subst hu';exact hv
     |succ i=>exact i3 i x' u' (by simpa using hx) (by simpa using hu')
   ·cases h2
  ·cases h1
theorem wD (s:SR Γ M0 base σ a w ρ){fn:Func}{rs:List ARes}{r:V}(hc:fB (L0 P) fn.results.toList=some rs)(hf:aU σ rs=some r):
 r.clean=true∧∃v,(results fn a.tmps).run P w= .ok v w∧tz M0 base w r v:=by
 unfold aU at hf
 split at hf
 ·cases hf
 ·rename_i xs hxs
  split at hf
  ·rename_i hnd
   obtain⟨us,hu1,hu2,hu3⟩:=xj s hc hxs
   have hres:(results fn a.tmps).run P w= .ok (if h:us.toArray.size=1 then us.toArray[0]else .tuple us.toArray) w:=by
    rw[Kh,Array.mapM_eq_mapM_toList]
    simp only[Sem.run_bind,Sem.run_map,hu1,Result.andThen_ok,Sem.run_pure]
   have hOS:∀{ys},bP σ.h xs=some ys→HR M0 base w ((fL σ.h (xs.flatMap V.cells)).map (iV ρ)) ((fL σ.h (xs.flatMap V.cells)).map (fq σ.h))∧
    (∀b,Mu M0 ((fL σ.h (xs.flatMap V.cells)).map (iV ρ)) ((fL σ.h (xs.flatMap V.cells)).map (fq σ.h)) b→Mu M0 ρ σ.h b):=fun _=>s.hr.sub Ot (Ou.nodup hnd)
   have main:∀{ys:List (Bool×List L)},bP σ.h xs=some ys→(ys.all fun x=>x.2.all L.clean)=true∧(thawT [] ys).2=(fL σ.h (xs.flatMap V.cells)).map (fq σ.h)∧(thawT [] ys).1.length=xs.length∧
    ∀(i:Nat)(x:V)(u:Value),xs[i]? =some x→us[i]? =some u→∃ls',(thawT [] ys).1[i]? =some (x.isAgg,ls')∧
     (match(x.isAgg,ls')with
      |(true,ls)=>∃cs,u= .agg cs∧p7 (Mu M0 ((fL σ.h (xs.flatMap V.cells)).map (iV ρ)) ((fL σ.h (xs.flatMap V.cells)).map (fq σ.h))) w ((fL σ.h (xs.flatMap V.cells)).map (iV ρ)) ((fL σ.h (xs.flatMap V.cells)).map (fq σ.h)) ls cs.toList
      |(false,[l])=>LR (Mu M0 ((fL σ.h (xs.flatMap V.cells)).map (iV ρ)) ((fL σ.h (xs.flatMap V.cells)).map (fq σ.h))) w ((fL σ.h (xs.flatMap V.cells)).map (iV ρ)) ((fL σ.h (xs.flatMap V.cells)).map (fq σ.h)) l u
      |_=>False):=by
    intro ys hys
    obtain⟨c1,c2,c3,c4⟩:=qI xs ys [] hys
    simp only[List.map_nil,List.nil_append]at c2 c3 c4
    obtain⟨_,mu⟩:=hOS hys
    refine⟨c1,c2,c3,fun i x u hx hu=> ?_⟩
    obtain⟨ls',d1,d2,d3,d4⟩:=c4 i x hx
    refine⟨ls',d1,?_⟩
    have r:=hu3 i x u hx hu
    cases x with
    |one l=>
     simp only[V.isAgg,V.cells]at d3 d4⊢
     match ls',d3,d4 with
     |[l'],_,d4=>
      obtain⟨l2,e1,e2⟩:=d4 0 l rfl
      simp at e1;subst e1
      exact e2.lr s.hr mu r
    |agg ls=>
     obtain⟨cs,rfl,hl⟩:=r
     simp only[V.isAgg,V.cells]at d3 d4⊢
     refine⟨cs,rfl,by rw[d3];exact hl.1,fun j l' c hl' hc'=> ?_⟩
     have hj:j<ls.length:=by rw[←d3];exact(List.getElem?_eq_some_iff.1 hl').1
     obtain⟨l2,e1,e2⟩:=d4 j ls[j] (by simp[hj])
     rw[hl']at e1;cases e1
     exact e2.lr s.hr mu (hl.2 j _ c (by simp[hj]) hc')
    |tup t=>exact absurd rfl (d2 t)
   split at hf
   ·rename_i ls hys
    cases hf
    obtain⟨c1,c2,c3,c4⟩:=main hys
    obtain⟨hsub,_⟩:=hOS hys
    have hx1:xs.length=1:=by rw[←c3];simp[thawT]
    obtain⟨x,hx⟩:=List.length_eq_one_iff.1 hx1
    obtain⟨u,hu⟩:=List.length_eq_one_iff.1 (hu2.trans hx1)
    obtain⟨ls',d1,d2⟩:=c4 0 x u (by rw[hx];rfl) (by rw[hu];rfl)
    have d1':some (true,(thawL [] ls).1)=some (x.isAgg,ls'):=d1
    simp only[Option.some.injEq,Prod.mk.injEq]at d1'
    obtain⟨d0,rfl⟩:=d1'
    rw[←d0]at d2
    have e2:(thaw [] (V.agg ls)).2=(fL σ.h (xs.flatMap V.cells)).map (fq σ.h):=c2
    refine⟨by simpa[V.clean]using c1,u,by rw[hres,hu];rfl,(fL σ.h (xs.flatMap V.cells)).map (iV ρ),?_,?_⟩
    ·rw[e2];exact hsub
    ·rw[e2];exact d2
   ·rename_i l hys
    cases hf
    obtain⟨c1,c2,c3,c4⟩:=main hys
    obtain⟨hsub,_⟩:=hOS hys
    have hx1:xs.length=1:=by rw[←c3];simp[thawT]
    obtain⟨x,hx⟩:=List.length_eq_one_iff.1 hx1
    obtain⟨u,hu⟩:=List.length_eq_one_iff.1 (hu2.trans hx1)
    obtain⟨ls',d1,d2⟩:=c4 0 x u (by rw[hx];rfl) (by rw[hu];rfl)
    have d1':some (false,(thawL [] [l]).1)=some (x.isAgg,ls'):=d1
    simp only[Option.some.injEq,Prod.mk.injEq]at d1'
    obtain⟨d0,rfl⟩:=d1'
    rw[←d0]at d2
    obtain⟨l',h',e'⟩:=il [] l
    have e2:(thaw [] (V.one l)).2=(fL σ.h (xs.flatMap V.cells)).map (fq σ.h):=by
     rw[←c2]
     simp only[thaw,e',thawT]
    have e3:(thaw [] (V.one l)).1= .one l':=by simp only[thaw,e']
    refine⟨by simpa[V.clean]using c1,u,by rw[hres,hu];rfl,(fL σ.h (xs.flatMap V.cells)).map (iV ρ),?_,?_⟩
    ·rw[e2];exact hsub
    ·rw[e2,e3]
     rw[e']at d2
     exact d2
   ·rename_i ys hne1 hne2 hys
    split at hf
    ·cases hf
    ·rename_i hlen
     cases hf
     obtain⟨c1,c2,c3,c4⟩:=main hys
     obtain⟨hsub,_⟩:=hOS hys
     have hyl:ys.length=xs.length:=by rw[←c3,(DV ys [] c1).1]
     have hul:¬us.toArray.size=1:=by simp;omega
     refine⟨by simpa[V.clean]using c1, .tuple us.toArray,by rw[hres,dif_neg hul],(fL σ.h (xs.flatMap V.cells)).map (iV ρ),?_,?_⟩
     ·show HR M0 base w _ (thawT [] ys).2
      rw[c2];exact hsub
     ·show VR (Mu M0 _ (thawT [] ys).2) w _ (thawT [] ys).2 (.tup (thawT [] ys).1) _
      rw[c2]
      refine⟨us.toArray,rfl,by rw[c3,←hu2];simp,fun i x' u' hx' hu'=> ?_⟩
      have hi:i<xs.length:=by rw[←c3];exact(List.getElem?_eq_some_iff.1 hx').1
      obtain⟨ls',d1,d2⟩:=c4 i xs[i] u' (by simp[hi]) (by simpa using hu')
      rw[hx']at d1;cases d1
      exact d2
   ·cases hf
  ·cases hf
end
end Gi
