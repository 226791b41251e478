/- A part. -/
import Derived.Test.YtndiampmpmbfoaaGreatGin
import Derived.Test.YtndiampmpmbfoaaGreatGilc
set_option linter.all false
namespace Gi
open Go Go.RowKit
variable {KI:KF}
section
variable {Γ:Ctx}{P:Program}{M0:Nat->Prop}{base:Nat}{Z:St}{a:Act}{w:World}{J:List (Option Nat)}
def gl (h:List Y0)(o:Nat):Y0:=(h[o]?).getD .dead
def j9 (J:List (Option Nat))(o:Nat):Option Nat:=(J[o]?).getD none
def Y0.cK {ob:Y0}(h:ob.bo):(∃z es,ob= .arr z es) \/∃z es,ob= .bA z es:=by cases ob<;>first|exact h.elim|exact .inl ⟨_,_,rfl⟩|exact .inr ⟨_,_,rfl⟩
def HR.sub {h:List Y0}(k:HR M0 base w J h){os:List Nat}(ho:∀o∈os,∃ob,h[o]? =some ob/\ ob.bo)(hn:os.Nodup):
 HR M0 base w (os.map (j9 J)) (os.map (gl h))/\ (∀b,Mu M0 (os.map (j9 J)) (os.map (gl h)) b->Mu M0 J h b):=by
 have get:∀{i:Nat}{x:Y0}{r:Option Nat},(os.map (gl h))[i]? =some x->(os.map (j9 J))[i]? =some r->∃o,os[i]? =some o/\ h[o]? =some x/\ x.bo/\ J[o]? =some r:=by
  intro i x r hx hr
  simp only[Zp,Zj]at hx hr
  obtain⟨o,h1,rfl⟩:=hx
  obtain⟨o',h2,rfl⟩:=hr
  rw[h1]at h2;cases h2
  obtain⟨ob,hz,ha⟩:=ho o (Zl h1)
  obtain⟨r,hr⟩:=k.mem hz
  have e:gl h o=ob:=by simp[gl,hz]
  exact⟨o,h1,by rw[e];exact hz,by rw[e];exact ha,by simp[j9,hr]⟩
 have mu:∀b,Mu M0 (os.map (j9 J)) (os.map (gl h)) b->Mu M0 J h b:=by
  intro b hm
  rcases hm with hm|⟨i,x,hi,hx,ax⟩
  ·exact .inl hm
  ·obtain⟨o,_,h1,_,h2⟩:=get hi ax
   exact .inr ⟨o,x,h1,hx,h2⟩
 have idx:∀{i o:Nat},os[i]? =some o->os.findIdx? (· ==o)=some i:=by
  intro i o hi
  obtain⟨af,e⟩:=Zb.1 hi
  rw[ZV]
  refine⟨af,by simp[e],fun j hj=> ?_⟩
  simp only[beq_iff_eq,ne_eq,Bool.not_eq_true,beq_eq_false_iff_ne]
  intro e2
  have h1:os[j]? =some o:=Zb.2 ⟨by omega,e2⟩
  have:=(List.getElem?_inj (by omega) hn).1 (h1.trans hi.symm)
  omega
 obtain⟨κ,d,n⟩:=k.deep
 refine⟨⟨⟨by simp,fun b hm=>⟨(k.old b hm).1,fun i x hi hx ax=> ?_⟩,k.le,fun i x r hi hr=> ?_,fun i i' x x' b h1 h2 m1 m2 r1 r2=> ?_⟩,fun b=>match κ b with
  |o::X=>(match os.findIdx? (· ==o)with
   |some q=>q::X
   |none=>[])
  |[]=>[],⟨fun i x b hi hx ax=> ?_,fun i x z es b hi hd ax=> ?_⟩,fun b hb=>by simp only[n.new b hb],fun b o c X z es e hi=> ?_⟩,mu⟩
 ·obtain⟨o,_,h1,_,h2⟩:=get hi ax
  exact(k.old b hm).2 o x h1 hx h2
 ·obtain⟨o,_,h1,ha,h2⟩:=get hi hr
  have k0:=k.objs o x r h1 h2
  have main:∀{z:Nat}{es:List (List PV)},xX (Mu M0 J h) base w J h r (.arr z es)->xX (Mu M0 (os.map (j9 J)) (os.map (gl h))) base w (os.map (j9 J)) (os.map (gl h)) r (.arr z es):=by
   intro z es k0
   obtain⟨hz,ab,kx⟩:=k0
   refine⟨hz,ab,?_⟩
   cases r with
   |none=>exact kx
   |some b=>
    obtain⟨g0,cur,cap,g1,g2,g3,g4,g5⟩:=kx
    exact⟨g0,cur,cap,g1,g2,g3,g4,fun i1 e1 j1 p1 he1 aI=>by
     obtain⟨v,hv,aJ⟩:=g5 i1 e1 j1 p1 he1 aI
     exact⟨v,hv,aJ.weak mu⟩⟩
  cases x<;>first|exact main k0|exact ha.elim
 ·obtain⟨o,p1,q1,_,s1⟩:=get h1 r1
  obtain⟨o',p2,q2,_,s2⟩:=get h2 r2
  have e:=k.apart o o' x x' b q1 q2 m1 m2 s1 s2
  subst e
  exact(List.getElem?_inj (Zb.1 p1).1 hn).1 (p1.trans p2.symm)
 ·obtain⟨o,h0,h1,_,h2⟩:=get hi ax
  simp only[d.root o x b h1 hx h2,idx h0]
 ·obtain⟨o,h0,h1,_,h2⟩:=get hi ax
  exact(d.tree o x z es b h1 hd h2).go (Zn _) (fun _ _=>rfl) ((k.objs o x _ h1 h2).rows hd).2 (fun c b' X _ e=>⟨by simp only[e,Zg,Zi,idx h0],rfl⟩)
 ·obtain⟨o',ho',hg⟩:∃o',os[o]? =some o'/\ gl h o'= .bB z es:=by simpa using hi
  obtain⟨ob,h1,ha⟩:=ho o' (Zl ho')
  simp only[gl,h1,Za3]at hg
  subst hg
  exact ha.elim
def gG (h:List Y0)(ls:List L):List Nat:=ls.filterMap fun
 | .arr o=>match h[o]? with
  |some (.arr _ _)=>some o
  |some (.bA _ _)=>some o
  |_=>none
 |_=>none
def Ux (h:List Y0)(OS:List Nat)(l l':L):Prop:=
 match l with
 | .pv p=>l'= .pv p
 | .nil=>l'= .nil
 | .arr o=>(∃ob q,h[o]? =some ob/\ ob.bo/\ l'= .arr q/\ OS[q]? =some o) \/(∃z es,h[o]? =some (.bH z es)/\ l'= .pv (.lst es))
 |_=>False
def Ux.mono {h:List Y0}{OS t:List Nat}{l l':L}(r:Ux h OS l l'):Ux h (OS++t) l l':=by
 cases l with
 |arr o=>
  rcases r with⟨ob,q,h1,h0,h2,h3⟩|r
  ·exact .inl ⟨ob,q,h1,h0,h2,by rw[Ze (Zb.1 h3).1];exact h3⟩
  ·exact .inr r
 |_=>exact r
def WX (h:List Y0)(OS:List Nat)(ls:List L)(q:List L×List Y0):Prop:=
 q.2=OS.map (gl h)/\ q.1.length=ls.length/\ ∀(i:Nat)(l:L),ls[i]? =some l->∃l',q.1[i]? =some l'/\ Ux h OS l l'
def wR {h:List Y0}:∀(ls xs:List L)(os:List Nat),aO h ls=some xs->xs.all L.clean=true/\ WX h (os++gG h ls) ls (thawL (os.map (gl h)) xs)
 |[],xs,os,e=>by
  simp[aO]at e;subst e
  exact⟨rfl,by simp[gG,thawL],rfl,fun i l hl=>by simp at hl⟩
 |l::ls,xs,os,e=>by
  unfold aO at e
  split at e
  ·rename_i x al h1 h2
   cases e
   have other:gG h (l::ls)=gG h ls->x.clean=true->(∀g,thawL g (x::al)=(x::(thawL g al).1,(thawL g al).2))->(∀OS,Ux h OS l x)->(x::al).all L.clean=true/\ WX h (os++gG h (l::ls)) (l::ls) (thawL (os.map (gl h)) (x::al)):=by
    intro em hc et hr
    obtain⟨i0,i1,i2,i3⟩:=wR ls al os h2
    rw[em,et]
    refine⟨by simp only[Zq,hc,i0,ZU],i1,by simp[i2],fun i l1 an=> ?_⟩
    cases i with
    |zero=>simp at an;subst an;exact⟨x,rfl,hr _⟩
    |succ i=>simpa using i3 i l1 (by simpa using an)
   cases l with
   |pv p=>simp only[bJ]at h1;cases h1;exact other rfl rfl (fun _=>rfl) (fun _=>rfl)
   |nil=>simp only[bJ]at h1;cases h1;exact other rfl rfl (fun _=>rfl) (fun _=>rfl)
   |arr o=>
    simp only[bJ]at h1
    split at h1
    ·rename_i z es ho
     cases h1
     obtain⟨i0,i1,i2,i3⟩:=wR ls al (os++[o]) h2
     have em:gG h (.arr o::ls)=o::gG h ls:=by simp[gG,ho]
     have eg:os.map (gl h)++[Y0.arr z es]=(os++[o]).map (gl h):=by simp[gl,ho]
     rw[em]
     have eo:os++o::gG h ls=os++[o]++gG h ls:=by simp
     refine⟨by simp only[Zq,L.clean,i0,ZU],?_⟩
     simp only[thawL]
     rw[eg,eo]
     refine⟨i1,by rw[Zo,Zo,i2],fun i l1 an=> ?_⟩
     cases i with
     |zero=>
      simp at an;subst an
      refine⟨_,rfl, .inl ⟨_,(os.map (gl h)).length,ho,trivial,rfl,?_⟩⟩
      simp
     |succ i=>
      obtain⟨l',h3,h4⟩:=i3 i l1 (by simpa using an)
      exact⟨l',by rw[P'];exact h3,h4⟩
    ·rename_i z es ho
     cases h1
     exact other (by simp[gG,ho]) rfl (fun _=>rfl) (fun _=> .inr ⟨z,es,ho,rfl⟩)
    ·rename_i z es ho
     cases h1
     obtain⟨i0,i1,i2,i3⟩:=wR ls al (os++[o]) h2
     have em:gG h (.arr o::ls)=o::gG h ls:=by simp[gG,ho]
     have eg:os.map (gl h)++[Y0.bA z es]=(os++[o]).map (gl h):=by simp[gl,ho]
     rw[em]
     have eo:os++o::gG h ls=os++[o]++gG h ls:=by simp
     refine⟨by simp only[Zq,L.clean,i0,ZU],?_⟩
     simp only[thawL]
     rw[eg,eo]
     refine⟨i1,by rw[Zo,Zo,i2],fun i l1 an=> ?_⟩
     cases i with
     |zero=>
      simp at an;subst an
      refine⟨_,rfl, .inl ⟨_,(os.map (gl h)).length,ho,trivial,rfl,?_⟩⟩
      simp
     |succ i=>
      obtain⟨l',h3,h4⟩:=i3 i l1 (by simpa using an)
      exact⟨l',by rw[P'];exact h3,h4⟩
    ·cases h1
   |_=>cases h1
  ·cases e
def Ux.lr {h:List Y0}(k:HR M0 base w J h){OS:List Nat}(mu:∀b,Mu M0 (OS.map (j9 J)) (OS.map (gl h)) b->Mu M0 J h b){l l':L}{u:Value}(r:Ux h OS l l')(hl:LR (Mu M0 J h) w J h l u):
 LR (Mu M0 (OS.map (j9 J)) (OS.map (gl h))) w (OS.map (j9 J)) (OS.map (gl h)) l' u:=by
 cases l with
 |pv p=>simp only[Ux]at r;subst r;exact aq.weak mu hl
 |nil=>simp only[Ux]at r;subst r;exact hl
 |arr o=>
  rcases r with⟨bg,q,h1,_,rfl,h3⟩|⟨z,es,h1,rfl⟩
  ·obtain⟨r0,ob,au,b7,hs⟩:=hl
   rw[h1]at b7;cases b7
   exact⟨r0,bg,by simp[h3,j9,au],by simp[h3,gl,h1],hs⟩
  ·exact aq.weak mu (ol k hl (by simp[L.view,h1]) (by simp[L.mut,h1]))
 |_=>exact r.elim
def V.isAgg :V->Bool
 | .agg _=>true
 |_=>false
def ue {h:List Y0}:∀(vs:List V)(xs:List (Bool×List L))(os:List Nat),bS h vs=some xs->(xs.all fun x=>x.2.all L.clean)=true/\
 (thawT (os.map (gl h)) xs).2=(os++gG h (vs.flatMap V.cells)).map (gl h)/\ (thawT (os.map (gl h)) xs).1.length=vs.length/\
 ∀(i:Nat)(v:V),vs[i]? =some v->∃ls',(thawT (os.map (gl h)) xs).1[i]? =some (v.isAgg,ls')/\ (∀t,v≠ .b9 t)/\ ls'.length=v.cells.length/\ ∀(j:Nat)(l:L),v.cells[j]? =some l->∃l',ls'[j]? =some l'/\ Ux h (os++gG h (vs.flatMap V.cells)) l l'
 |[],xs,os,e=>by
  simp[bS]at e;subst e
  exact⟨rfl,by simp[thawT,gG],rfl,fun i v hv=>by simp at hv⟩
 |v::vs,xs,os,e=>by
  unfold bS at e
  split at e
  ·rename_i x al h1 h2
   cases e
   have key:∃ls',aO h v.cells=some ls'/\ x=(v.isAgg,ls')/\ ∀t,v≠ .b9 t:=by
    cases v with
    |one l=>
     simp only[comp]at h1
     split at h1
     ·rename_i ys ah;cases h1;exact⟨ys,ah,rfl,by simp⟩
     ·cases h1
    |agg ls=>
     simp only[comp]at h1
     split at h1
     ·rename_i ys ah;cases h1;exact⟨ys,ah,rfl,by simp⟩
     ·cases h1
    |b9 t=>cases h1
   obtain⟨ls',hg,rfl,bh⟩:=key
   obtain⟨c0,g1,g2,g3⟩:=wR v.cells ls' os hg
   obtain⟨i0,i1,i2,i3⟩:=ue vs al (os++gG h v.cells) h2
   have em:os++gG h ((v::vs).flatMap V.cells)=os++gG h v.cells++gG h (vs.flatMap V.cells):=by simp[gG]
   rw[em]
   simp only[thawT]
   rw[g1]
   refine⟨by simp only[Zq,c0,i0,ZU],i1,by rw[Zo,Zo,i2],fun i v' aV=> ?_⟩
   cases i with
   |zero=>
    simp at aV;subst aV
    refine⟨_,rfl,bh,g2,fun j l hl=> ?_⟩
    obtain⟨l',h3,h4⟩:=g3 j l hl
    exact⟨l',h3,h4.mono⟩
   |succ i=>
    obtain⟨bj,q1,q2⟩:=i3 i v' (by simpa using aV)
    exact⟨bj,by rw[P'];exact q1,q2⟩
  ·cases e
def TQ {h:List Y0}{ls:List L}:(gG h ls).Sublist (aj ls):=by
 induction ls with
 |nil=>exact List.Sublist.slnil
 |cons l ls ih=>
  cases l with
  |arr o=>
   simp only[aj,Zc8]
   by_cases hm:∃ob,h[o]? =some ob/\ ob.bo
   ·obtain⟨ob,hm,ha⟩:=hm
    have:gG h (.arr o::ls)=o::gG h ls:=by
     rcases Y0.cK ha with⟨z,es,rfl⟩|⟨z,es,rfl⟩<;>simp only[gG,Zc8,hm]
    rw[this]
    exact List.Sublist.cons_cons o ih
   ·have:gG h (.arr o::ls)=gG h ls:=by
     simp only[gG,Zc8]
     cases ho:h[o]? with
     |none=>rfl
     |some ob=>
      cases ob with
      |arr z es=>exact absurd ⟨_,ho,trivial⟩ hm
      |bA z es=>exact absurd ⟨_,ho,trivial⟩ hm
      |_=>rfl
    rw[this]
    exact List.Sublist.cons o ih
  |_=>exact ih
def TP {h:List Y0}{ls:List L}:∀o∈gG h ls,∃ob,h[o]? =some ob/\ ob.bo:=by
 intro o ho
 simp only[gG,List.mem_filterMap]at ho
 obtain⟨l,_,hl⟩:=ho
 split at hl
 ·split at hl
  ·rename_i z es hz;cases hl;exact⟨_,hz,trivial⟩
  ·rename_i z es hz;cases hl;exact⟨_,hz,trivial⟩
  ·cases hl
 ·cases hl
def TY (a:Act):ResultVar->Sem Value
 | .tmp t=>pure (a.tmps.getD t undef)
 | .cell ad t=>do loadVar t (<-asAddr (a.tmps.getD ad undef))
def G5 (fn:Func)(a:Act):results fn a.tmps=(do let vs<-fn.results.mapM (TY a);pure (if h:vs.size=1 then vs[0]else .tuple vs)):=by
 unfold results
 congr 1
def G4 (s:SR Γ M0 base Z a w J){rv:ResultVar}{r:YW}{x:V}(hc:QY P rv=some r)(hr:cj Z r=some x):
 ∃u,(TY a rv).run P w= .ok u w/\ VR (Mu M0 J Z.h) w J Z.h x u:=by
 cases rv with
 |tmp t=>
  cases hc
  simp only[cj]at hr
  cases hr
  exact⟨a.eval (.tmp t),by simp[TY,Act.eval],s.fr.eval t⟩
 |cell ad ty=>
  simp only[QY]at hc
  split at hc
  ·rename_i n h1 h2
   cases hc
   simp only[cj]at hr
   obtain⟨u',av,⟨b,off,e⟩,hv⟩:=Ax s h1 h2 (s.fr.eval ad) hr
   refine⟨u',?_,hv⟩
   have e':a.tmps.getD ad undef= .pointer (some ⟨b,off,none⟩):=e
   rw[e]at av
   simp only[TY,e',asAddr,Sem.run_bind,Sem.run_pure,Result.andThen_ok]
   exact av
  ·cases hc
def uF (s:SR Γ M0 base Z a w J):∀{aW:List ResultVar}{rs:List YW}{xs:List V},gP (QY P) aW=some rs->am Z rs=some xs->
 ∃us:List Value,(aW.mapM (TY a)).run P w= .ok us w/\ us.length=xs.length/\
  ∀(i:Nat)(x:V)(u:Value),xs[i]? =some x->us[i]? =some u->VR (Mu M0 J Z.h) w J Z.h x u
 |[],rs,xs,h1,h2=>by
  simp[gP]at h1;subst h1
  simp[am]at h2;subst h2
  exact⟨[],by simp,rfl,fun i x u hx=>by simp at hx⟩
 |rv::aW,rs,xs,h1,h2=>by
  unfold gP at h1
  split at h1
  ·rename_i r bF e1 e2
   cases h1
   unfold am at h2
   split at h2
   ·rename_i x al e3 e4
    cases h2
    obtain⟨u,hu,hv⟩:=G4 s e1 e3
    obtain⟨us,i1,i2,i3⟩:=uF s e2 e4
    refine⟨u::us,?_,by simp[i2],fun i x' u' hx av=> ?_⟩
    ·rw[List.mapM_cons,Sem.run_bind,hu,Result.andThen_ok,Sem.run_bind,i1]
     simp
    ·cases i with
     |zero=>simp at hx av;subst hx;subst av;exact hv
     |succ i=>exact i3 i x' u' (by simpa using hx) (by simpa using av)
   ·cases h2
  ·cases h1
def zZ (s:SR Γ M0 base Z a w J){fn:Func}{rs:List YW}{r:V}(hc:gP (QY P) fn.results.toList=some rs)(hf:aZ Z rs=some r):
 r.clean=true/\ ∃v,(results fn a.tmps).run P w= .ok v w/\ xe M0 base w r v:=by
 unfold aZ at hf
 split at hf
 ·cases hf
 ·rename_i xs bk
  split at hf
  ·rename_i bl
   obtain⟨us,bm,aX,bn⟩:=uF s hc bk
   have ay:(results fn a.tmps).run P w= .ok (if h:us.toArray.size=1 then us.toArray[0]else .tuple us.toArray) w:=by
    rw[G5,Array.mapM_eq_mapM_toList]
    simp only[Sem.run_bind,Sem.run_map,bm,Result.andThen_ok,Sem.run_pure]
   have aU:∀{ys},bS Z.h xs=some ys->HR M0 base w ((gG Z.h (xs.flatMap V.cells)).map (j9 J)) ((gG Z.h (xs.flatMap V.cells)).map (gl Z.h))/\
    (∀b,Mu M0 ((gG Z.h (xs.flatMap V.cells)).map (j9 J)) ((gG Z.h (xs.flatMap V.cells)).map (gl Z.h)) b->Mu M0 J Z.h b):=fun _=>s.hr.sub TP (TQ.nodup bl)
   have main:∀{ys:List (Bool×List L)},bS Z.h xs=some ys->(ys.all fun x=>x.2.all L.clean)=true/\ (thawT [] ys).2=(gG Z.h (xs.flatMap V.cells)).map (gl Z.h)/\ (thawT [] ys).1.length=xs.length/\
    ∀(i:Nat)(x:V)(u:Value),xs[i]? =some x->us[i]? =some u->∃ls',(thawT [] ys).1[i]? =some (x.isAgg,ls')/\
     (match(x.isAgg,ls')with
      |(true,ls)=>∃cs,u= .agg cs/\ tg (Mu M0 ((gG Z.h (xs.flatMap V.cells)).map (j9 J)) ((gG Z.h (xs.flatMap V.cells)).map (gl Z.h))) w ((gG Z.h (xs.flatMap V.cells)).map (j9 J)) ((gG Z.h (xs.flatMap V.cells)).map (gl Z.h)) ls cs.toList
      |(false,[l])=>LR (Mu M0 ((gG Z.h (xs.flatMap V.cells)).map (j9 J)) ((gG Z.h (xs.flatMap V.cells)).map (gl Z.h))) w ((gG Z.h (xs.flatMap V.cells)).map (j9 J)) ((gG Z.h (xs.flatMap V.cells)).map (gl Z.h)) l u
      |_=>False):=by
    intro ys ah
    obtain⟨c1,c2,c3,c4⟩:=ue xs ys [] ah
    simp only[Zz,Zi]at c2 c3 c4
    obtain⟨_,mu⟩:=aU ah
    refine⟨c1,c2,c3,fun i x u hx hu=> ?_⟩
    obtain⟨ls',d1,d2,d3,d4⟩:=c4 i x hx
    refine⟨ls',d1,?_⟩
    have r:=bn i x u hx hu
    cases x with
    |one l=>
     simp only[V.isAgg,V.cells]at d3 d4⊢
     match ls',d3,d4 with
     |[l'],_,d4=>
      obtain⟨l2,e1,e2⟩:=d4 0 l rfl
      simp at e1;subst e1
      exact e2.lr s.hr mu r
    |agg ls=>
     obtain⟨cs,rfl,hl⟩:=r
     simp only[V.isAgg,V.cells]at d3 d4⊢
     refine⟨cs,rfl,by rw[d3];exact hl.1,fun j l' c b8 bp=> ?_⟩
     have hj:j<ls.length:=by rw[<-d3];exact(Zb.1 b8).1
     obtain⟨l2,e1,e2⟩:=d4 j ls[j] (by simp[hj])
     rw[b8]at e1;cases e1
     exact e2.lr s.hr mu (hl.2 j _ c (by simp[hj]) bp)
    |b9 t=>exact absurd rfl (d2 t)
   split at hf
   ·rename_i ls ah
    cases hf
    obtain⟨c1,c2,c3,c4⟩:=main ah
    obtain⟨a7,_⟩:=aU ah
    have aK:xs.length=1:=by rw[<-c3];simp[thawT]
    obtain⟨x,hx⟩:=ZR.1 aK
    obtain⟨u,hu⟩:=ZR.1 (aX.trans aK)
    obtain⟨ls',d1,d2⟩:=c4 0 x u (by rw[hx];rfl) (by rw[hu];rfl)
    have aL:some (true,(thawL [] ls).1)=some (x.isAgg,ls'):=d1
    simp only[Option.some.injEq,Prod.mk.injEq]at aL
    obtain⟨d0,rfl⟩:=aL
    rw[<-d0]at d2
    have e2:(thaw [] (V.agg ls)).2=(gG Z.h (xs.flatMap V.cells)).map (gl Z.h):=c2
    refine⟨by simpa[V.clean]using c1,u,by rw[ay,hu];rfl,(gG Z.h (xs.flatMap V.cells)).map (j9 J),?_,?_⟩
    ·rw[e2];exact a7
    ·rw[e2];exact d2
   ·rename_i l ah
    cases hf
    obtain⟨c1,c2,c3,c4⟩:=main ah
    obtain⟨a7,_⟩:=aU ah
    have aK:xs.length=1:=by rw[<-c3];simp[thawT]
    obtain⟨x,hx⟩:=ZR.1 aK
    obtain⟨u,hu⟩:=ZR.1 (aX.trans aK)
    obtain⟨ls',d1,d2⟩:=c4 0 x u (by rw[hx];rfl) (by rw[hu];rfl)
    have aL:some (false,(thawL [] [l]).1)=some (x.isAgg,ls'):=d1
    simp only[Option.some.injEq,Prod.mk.injEq]at aL
    obtain⟨d0,rfl⟩:=aL
    rw[<-d0]at d2
    obtain⟨l',h',e'⟩:=jA [] l
    have e2:(thaw [] (V.one l)).2=(gG Z.h (xs.flatMap V.cells)).map (gl Z.h):=by
     rw[<-c2]
     simp only[thaw,e',thawT]
    have e3:(thaw [] (V.one l)).1= .one l':=by simp only[thaw,e']
    refine⟨by simpa[V.clean]using c1,u,by rw[ay,hu];rfl,(gG Z.h (xs.flatMap V.cells)).map (j9 J),?_,?_⟩
    ·rw[e2];exact a7
    ·rw[e2,e3]
     rw[e']at d2
     exact d2
   ·rename_i ys bq br ah
    split at hf
    ·cases hf
    ·rename_i hlen
     cases hf
     obtain⟨c1,c2,c3,c4⟩:=main ah
     obtain⟨a7,_⟩:=aU ah
     have bG:ys.length=xs.length:=by rw[<-c3,(Hx ys [] c1).1]
     have bt:¬us.toArray.size=1:=by simp;omega
     refine⟨by simpa[V.clean]using c1, .tuple us.toArray,by rw[ay,dif_neg bt],(gG Z.h (xs.flatMap V.cells)).map (j9 J),?_,?_⟩
     ·show HR M0 base w _ (thawT [] ys).2
      rw[c2];exact a7
     ·show VR (Mu M0 _ (thawT [] ys).2) w _ (thawT [] ys).2 (.b9 (thawT [] ys).1) _
      rw[c2]
      refine⟨us.toArray,rfl,by rw[c3,<-aX];simp,fun i x' u' ba av=> ?_⟩
      have hi:i<xs.length:=by rw[<-c3];exact(Zb.1 ba).1
      obtain⟨ls',d1,d2⟩:=c4 i xs[i] u' (by simp[hi]) (by simpa using av)
      rw[ba]at d1;cases d1
      exact d2
   ·cases hf
  ·cases hf
end
end Gi
namespace Gi
open Go Go.RowKit
variable {KI:KF}
def zf (P:Program)(f z bytes:Nat):Prop:=
 ∀(w:World)(r:Option Nat)(bs:Option Addr)(n c i vb m vc:Nat)(cs vs:List Value)(cur ae:Array Value),
  0<m->i<=n->n<=c->c<=maxLen->n+m<=maxLen->(n+m)*bytes<=140737488355328->cs.length=n*z->vs.length=m*z->(∀v∈cs,v.oneCell'=true)->(∀v∈vs,v.oneCell'=true)->
  (match r with
   |none=>n=0/\ c=0
   |some b=>bs=some ⟨b,0,none⟩/\ fO w b cur/\ cur.size=c*z/\ vb≠b/\ ∀(j:Nat)v,cs[j]? =some v->cur[j]? =some v)->
  fO w vb ae->(∀(j:Nat)v,vs[j]? =some v->ae[j]? =some v)->
  Calls P f #[.slice bs n c, .int .i64 i, .slice (some ⟨vb,0,none⟩) m vc] w fun e w'=>
   ∃b' c' cur',e= .returned (.slice (some ⟨b',0,none⟩) (n+m) c')/\ fO w' b' cur'/\ cur'.size=c'*z/\ n+m<=c'/\ c'<=maxLen/\
    (∀(j:Nat)v,(cs.take (i*z)++vs++cs.drop (i*z))[j]? =some v->cur'[j]? =some v)/\
    (r=some b'/\ cur'.size=cur.size/\ w'.heap.size=w.heap.size \/b'=w.heap.size/\ w.heap.size<w'.heap.size)/\ w'.os=w.os/\ w'.tape=w.tape/\ w'.output=w.output/\ ∀k,k<w.heap.size->k≠b'->w'.heap[k]? =w.heap[k]?
section
variable {Γ:Ctx}{P:Program}{M0:Nat->Prop}{base:Nat}{Z:St}{a:Act}{w:World}{J:List (Option Nat)}
def LO {z i n j:Nat}(h:i<n)(hj:j<z):i*z+j<n*z:=by
 calc i*z+j<i*z+z:=by omega
  _=(i+1)*z:=by rw[Nat.add_mul,D']
  _<=n*z:=ZH _ h
def Wj {z i:Nat}{es vs:List (List PV)}{cs vcs:List Value}(ab:∀e∈es,e.length=z)(aH:∀e∈vs,e.length=z)(aM:cs.length=es.length*z)(aY:vcs.length=vs.length*z)(hi:i<=es.length){a j:Nat}{e:List PV}{p:PV}
 (he:(es.take i++vs++es.drop i)[a]? =some e) (hp:e[j]? =some p):
 (∃i0,es[i0]? =some e/\ (cs.take (i*z)++vcs++cs.drop (i*z))[a*z+j]? =cs[i0*z+j]? /\ (if i0*z+j<i*z then i0*z+j else i0*z+j+vs.length*z)=a*z+j) \/
  ∃i0,vs[i0]? =some e/\ (cs.take (i*z)++vcs++cs.drop (i*z))[a*z+j]? =vcs[i0*z+j]? /\ i*z+(i0*z+j)=a*z+j:=by
 have bI:i*z<=cs.length:=by rw[aM];exact ZH _ hi
 have aN:(cs.take (i*z)).length=i*z:=by rw[ZM];omega
 have aP:(es.take i).length=i:=by rw[ZM];omega
 have hj:=(Zb.1 hp).1
 by_cases ha:a<i
 ·rw[List.append_assoc,Ze (by rw[aP];exact ha),ZP,if_pos ha]at he
  rw[ab e (Zl he)]at hj
  have af:=LO ha hj
  exact .inl ⟨a,he,by rw[List.append_assoc,Ze (by rw[aN];exact af),ZP,if_pos af],if_pos af⟩
 ·by_cases hb:a<i+vs.length
  ·rw[List.append_assoc,Zk (by rw[aP];omega),aP,Ze (by omega)]at he
   rw[aH e (Zl he)]at hj
   have af:=LO (show a-i<vs.length by omega) hj
   have hle:i*z<=a*z:=ZH _ (by omega)
   have a7:a*z+j-i*z=(a-i)*z+j:=by rw[Nat.sub_mul];omega
   refine .inr ⟨a-i,he,?_,by rw[<-a7];omega⟩
   rw[List.append_assoc,Zk (by rw[aN];omega),aN,a7,Ze (by rw[aY];exact af)]
  ·rw[Zk (by rw[Zu,aP];omega),Zu,aP,Zc4]at he
   rw[ab e (Zl he)]at hj
   have bb:(i+vs.length)*z<=a*z:=ZH _ (by omega)
   have a7:i*z+(a*z+j-(i*z+vs.length*z))=(i+(a-(i+vs.length)))*z+j:=by
    rw[Nat.add_mul]at bb
    rw[Nat.add_mul,Nat.sub_mul,Nat.add_mul]
    omega
   rw[Nat.add_mul]at bb
   refine .inl ⟨_,he,?_,?_⟩
   ·rw[Zk (by rw[Zu,aN,aY];omega),Zu,aN,aY,Zc4,a7]
   ·rw[<-a7,if_neg (by omega)];omega
def Nf {M:Nat->Prop}{z:Nat}{es:List (List PV)}{cs:List Value}(hz:0<z)(ab:∀e∈es,e.length=z)(aM:cs.length=es.length*z)
 (h1:∀(a:Nat)(e:List PV)(j:Nat)(p:PV),es[a]? =some e->e[j]? =some p->∃v,cs[a*z+j]? =some v/\ aq M w p v):∀v∈cs,v.oneCell'=true:=by
 intro v hv
 obtain⟨k,hk,rfl⟩:=I'.1 hv
 have ha:k/z<es.length:=by
  rw[Nat.div_lt_iff_lt_mul hz,<-aM];exact hk
 have hj:k%z<es[k/z].length:=by rw[ab _ (Zf ha)];exact Nat.mod_lt _ hz
 obtain⟨u,hu,hr⟩:=h1 (k/z) es[k/z] (k%z) es[k/z][k%z] (by simp[ha]) (by simp[hj])
 rw[show k/z*z+k%z=k by rw[Zb5];exact Nat.div_add_mod k z,Zm hk]at hu
 cases hu
 exact hr.one
def G6 {M:Nat->Prop}{z cap:Nat}{es:List (List PV)}{cur:Array Value}(ab:∀e∈es,e.length=z)(a2:cur.size=cap*z)(az:es.length<=cap)
 (h1:∀(a:Nat)(e:List PV)(j:Nat)(p:PV),es[a]? =some e->e[j]? =some p->∃v,cur[a*z+j]? =some v/\ aq M w p v):
 (cur.toList.take (es.length*z)).length=es.length*z/\ (∀(j:Nat)v,(cur.toList.take (es.length*z))[j]? =some v->cur[j]? =some v)/\
 ∀(a:Nat)(e:List PV)(j:Nat)(p:PV),es[a]? =some e->e[j]? =some p->∃v,(cur.toList.take (es.length*z))[a*z+j]? =some v/\ aq M w p v:=by
 have hle:es.length*z<=cur.size:=by rw[a2];exact ZH _ az
 refine⟨by simp;omega,fun j v hv=> ?_,fun a e j p he hp=> ?_⟩
 ·rw[ZP]at hv
  split at hv
  ·simpa using hv
  ·cases hv
 ·obtain⟨v,hv,hr⟩:=h1 a e j p he hp
  have hj:=(Zb.1 hp).1
  rw[ab e (Zl he)]at hj
  refine⟨v,?_,hr⟩
  rw[ZP,if_pos (LO (Zb.1 he).1 hj)]
  simpa using hv
def Hw {i:Nat}{es vs:List (List PV)}(hi:i<=es.length):(es.take i++vs++es.drop i).length=es.length+vs.length:=by simp;omega
def JA (w:World)(J:List (Option Nat))(src:Option (Nat×List (List PV)))(o2 z i:Nat)(vs:List (List PV))(e:List PV)(j c:Nat)(v:Value):Prop:=
 (∃o es i0 b,src=some (o,es)/\ J[o]? =some (some b)/\ es[i0]? =some e/\ w.cell? ⟨b,i0*z+j,none⟩=some v/\ (if i0*z+j<i*z then i0*z+j else i0*z+j+vs.length*z)=c) \/
  ∃i0 b,J[o2]? =some (some b)/\ vs[i0]? =some e/\ w.cell? ⟨b,i0*z+j,none⟩=some v/\ i*z+(i0*z+j)=c
def IX [KF](M0:Nat->Prop)(base:Nat)(w:World)(J:List (Option Nat))(h:List Y0)(src:Option (Nat×List (List PV)))(o2 z i:Nat)(vs:List (List PV))(e:Ending)(w':World):Prop:=
 ∃b' c' cur',e= .returned (.slice (some ⟨b',0,none⟩) ((ai src).length+vs.length) c')/\ Below base w w'/\
  HR M0 base w' (J++[some b']) (aA src h++[.arr z ((ai src).take i++vs++(ai src).drop i)])/\
  Ch (Mu M0 J h) (Mu M0 (J++[some b']) (aA src h++[.arr z ((ai src).take i++vs++(ai src).drop i)])) w w' J (J++[some b']) h (aA src h++[.arr z ((ai src).take i++vs++(ai src).drop i)])/\
  fO w' b' cur'/\ cur'.size=c'*z/\ (ai src).length+vs.length<=c'/\ c'<=maxLen/\ ((∃o es,src=some (o,es)/\ J[o]? =some (some b')) \/w.heap.size<=b')/\
  w.heap.size<=w'.heap.size/\ (∀q,q<w.heap.size->q≠b'->w'.heap[q]? =w.heap[q]?)/\
  ∀(a:Nat)(e:List PV)(j:Nat)(p:PV),((ai src).take i++vs++(ai src).drop i)[a]? =some e->e[j]? =some p->∃v,cur'[a*z+j]? =some v/\ JA w J src o2 z i vs e j (a*z+j) v
def yH {h:List Y0}(k:HR M0 base w J h){f z bytes:Nat}(ok:zf P f z bytes){src:Option (Nat×List (List PV))}{o2:Nat}{vs:List (List PV)}(b0:h[o2]? =some (.arr z vs))(hm:0<vs.length){i:Nat}(hi:i<=(ai src).length)
 (aB:((ai src).length+vs.length)*bytes<=140737488355328) (b1:(ai src).length+vs.length<=maxLen) {ux uv:Value}
 (rx:(src=none/\ ∃ad,ux= .slice ad 0 0) \/∃o es,src=some (o,es)/\ h[o]? =some (.arr z es)/\ o≠o2/\ LR (Mu M0 J h) w J h (.arr o) ux) (rv:LR (Mu M0 J h) w J h (.arr o2) uv):
 Calls P f #[ux, .int .i64 i,uv] w (IX M0 base w J h src o2 z i vs):=by
 obtain⟨r2,bK,b2,aQ,b3⟩:=rv
 rw[b0]at aQ;cases aQ
 obtain⟨aC,aH,kv⟩:=k.objs o2 _ r2 b0 b2
 cases r2 with
 |none=>obtain rfl:vs=[]:=kv;simp at hm
 |some vb=>
 obtain⟨_,ae,bu,ak,v1,v2,v3,v4⟩:=kv
 obtain⟨bc,ao,b4,bL,bM,bN,ev⟩:=b3
 subst ev
 obtain⟨q1,q2,q3⟩:=G6 aH v1 v2 v4
 have qo:=Nf aC aH q1 q3
 have aR:=Hw (vs:=vs) hi
 have rows:∀{cs:List Value}{cur':Array Value},(∀e∈ai src,e.length=z)->cs.length=(ai src).length*z->
  (∀(i0:Nat)(e:List PV)(j:Nat)(p:PV),(ai src)[i0]? =some e->e[j]? =some p->∃v,cs[i0*z+j]? =some v/\ aq (Mu M0 J h) w p v/\ ∃o es b,src=some (o,es)/\ J[o]? =some (some b)/\ w.cell? ⟨b,i0*z+j,none⟩=some v)->
  (∀(j:Nat)v,(cs.take (i*z)++ae.toList.take (vs.length*z)++cs.drop (i*z))[j]? =some v->cur'[j]? =some v)->
  ∀(a:Nat)(e:List PV)(j:Nat)(p:PV),((ai src).take i++vs++(ai src).drop i)[a]? =some e->e[j]? =some p->∃v,cur'[a*z+j]? =some v/\ aq (Mu M0 J h) w p v/\ JA w J src o2 z i vs e j (a*z+j) v:=by
  intro cs cur' ab aM hold a5 a e j p he hp
  rcases Wj ab aH aM q1 hi he hp with⟨i0,g1,g2,g3⟩|⟨i0,g1,g2,g3⟩
  ·obtain⟨v,hv,hr,o,es,b,e1,e2,e3⟩:=hold i0 e j p g1 hp
   refine⟨v,a5 _ v (g2.trans hv),hr, .inl ⟨o,es,i0,b,e1,e2,?_,e3,g3⟩⟩
   rw[e1]at g1;exact g1
  ·obtain⟨v,hv,hr⟩:=q3 i0 e j p g1 hp
   exact⟨v,a5 _ v (g2.trans hv),hr, .inr ⟨i0,vb,b2,g1,by rw[ak.cell];exact q2 _ v hv,g3⟩⟩
 have aD:(∀e∈ai src,e.length=z)->∀e∈(ai src).take i++vs++(ai src).drop i,e.length=z:=fun ab e he=>by
  simp only[H']at he
  rcases he with(h|h)|h
  ·exact ab e (ZI h)
  ·exact aH e h
  ·exact ab e (Za0 h)
 have fresh:∀{w':World}{c':Nat}{cur':Array Value},(∀e∈ai src,e.length=z)->HR M0 base w J (aA src h)->Ch (Mu M0 J h) (Mu M0 J (aA src h)) w w J J h (aA src h)->
  (∀(a:Nat)(e:List PV)(j:Nat)(p:PV),((ai src).take i++vs++(ai src).drop i)[a]? =some e->e[j]? =some p->∃v,cur'[a*z+j]? =some v/\ aq (Mu M0 J h) w p v/\ JA w J src o2 z i vs e j (a*z+j) v)->
  fO w' w.heap.size cur'->cur'.size=c'*z->(ai src).length+vs.length<=c'->c'<=maxLen->w.heap.size<w'.heap.size->w'.os=w.os->w'.tape=w.tape->w'.output=w.output->(∀k,k<w.heap.size->k≠w.heap.size->w'.heap[k]? =w.heap[k]?)->
  IX M0 base w J h src o2 z i vs (.returned (.slice (some ⟨w.heap.size,0,none⟩) ((ai src).length+vs.length) c')) w':=by
  intro w' c' cur' ab k2 c2 a8 a6 a2 hn hc af e1 e2 e3 ar
  obtain⟨g1,g2,_⟩:=EJ k2 af (fun b hb=>ar b hb (by omega)) aC (aD ab) a6 a2 (by rw[aR];exact hn) hc (fun a e j p he hp=>by
   obtain⟨v,hv,hr,_⟩:=a8 a e j p he hp
   exact⟨v,hv,aq.go c2.go p v hr⟩)
  exact⟨_,c',cur',rfl,⟨e1,e2,e3,Zd2 af,fun q hq=>ar q (ZG hq k.le) (by have:=k.le;omega)⟩,g1,c2.trans g2,a6,a2,hn,hc, .inr (Zn _),Zd2 af,ar,fun a e j p he hp=>by
   obtain⟨v,hv,_,hf⟩:=a8 a e j p he hp
   exact⟨v,hv,hf⟩⟩
 rcases rx with⟨rfl,ad,rfl⟩|⟨o,es,rfl,ho,bw,rx⟩
 ·obtain rfl:i=0:=by simpa[ai]using hi
  refine(ok w none ad 0 0 0 vb vs.length ao [] (ae.toList.take (vs.length*z)) #[] ae hm (Zn _) (Zn _) (Zb9 _) (by simpa[ai]using b1) (by simpa[ai]using aB) (by simp) q1 (by simp) qo ⟨rfl,rfl⟩ ak q2).mono fun e w'⟨b',c',cur',he,a6,a2,hn,hc,a5,aa,e1,e2,e3,ar⟩=> ?_
  rcases aa with⟨h,_⟩|⟨rfl,af⟩
  ·cases h
  ·subst he
   exact fresh (by simp[ai]) k (Ch.refl _ _ _ _) (rows (cs:=[]) (by simp[ai]) (by simp[ai]) (fun a e j p he=>by simp[ai]at he) a5) a6 a2 hn hc af e1 e2 e3 ar
 obtain⟨r0,bO,au,aS,bd⟩:=rx
 rw[ho]at aS;cases aS
 obtain⟨_,ab,kx⟩:=k.objs o _ r0 ho au
 obtain⟨kd,cd⟩:=k.c0 (w':=w) (ob':= .dead) ho au rfl trivial rfl (fun _ _=>rfl) (fun b cur _ b5=>⟨cur,b5,rfl⟩) (fun _=>trivial)
 cases r0 with
 |none=>
  obtain rfl:es=[]:=kx
  obtain⟨ad,rfl⟩:∃ad,ux= .slice ad 0 0:=bd
  obtain rfl:i=0:=by simpa[ai]using hi
  refine(ok w none ad 0 0 0 vb vs.length ao [] (ae.toList.take (vs.length*z)) #[] ae hm (Zn _) (Zn _) (Zb9 _) (by simpa[ai]using b1) (by simpa[ai]using aB) (by simp) q1 (by simp) qo ⟨rfl,rfl⟩ ak q2).mono fun e w'⟨b',c',cur',he,a6,a2,hn,hc,a5,aa,e1,e2,e3,ar⟩=> ?_
  rcases aa with⟨h,_⟩|⟨rfl,af⟩
  ·cases h
  ·subst he
   exact fresh (by simp[ai]) kd cd (rows (cs:=[]) (by simp[ai]) (by simp[ai]) (fun a e j p he=>by simp[ai]at he) a5) a6 a2 hn hc af e1 e2 e3 ar
 |some b=>
  obtain⟨aw,cur,cap,a6,h1,h2,h3,h4⟩:=kx
  obtain⟨bx,aE,aT,bz,bP,bQ,ex⟩:=bd
  cases a6.inj aT
  have az:aE=cap:=S' aC (bz.symm.trans h1)
  subst az ex
  have bC:vb≠b:=fun e=>bw (k.apart o o2 _ _ b ho b0 rfl rfl au (by rw[b2,e]))
  obtain⟨p1,p2,p3⟩:=G6 ab h1 h2 h4
  have po:=Nf aC ab p1 p3
  refine(ok w (some b) (some ⟨b,0,none⟩) es.length aE i vb vs.length ao (cur.toList.take (es.length*z)) (ae.toList.take (vs.length*z)) cur ae hm hi h2 h3 b1 aB p1 q1 po qo ⟨rfl,a6,h1,bC,p2⟩ ak q2).mono fun e w'⟨b',c',cur',he,ag,a2,hn,hc,a5,aa,e1,e2,e3,ar⟩=> ?_
  subst he
  have a8:=rows (cs:=cur.toList.take (es.length*z)) ab p1 (fun i0 e j p he hp=>by
   obtain⟨v,hv,hr⟩:=p3 i0 e j p he hp
   exact⟨v,hv,hr,o,es,b,rfl,au,by rw[a6.cell];exact p2 _ v hv⟩) a5
  rcases aa with⟨bD,bf,bE⟩|⟨rfl,af⟩
  ·cases bD
   have aF:∀k,k≠b->w'.heap[k]? =w.heap[k]? :=fun k hk=>by
    by_cases hl:k<w.heap.size
    ·exact ar k hl hk
    ·rw[Za4 (by omega),Za4 (by omega)]
   have aG:(es.take i++vs++es.drop i).length=es.length+vs.length:=aR
   have bR:c'=aE:=S' aC (a2.symm.trans (bf.trans h1))
   obtain⟨k2,c2⟩:=k.c0 (w':=w') (ob':= .arr z ((es.take i++vs++es.drop i).take es.length)) ho au rfl ⟨rfl,by rw[ZM,aG];omega⟩ bE.symm
    (fun k hk=>aF k (fun e=>hk (by rw[e])))
    (fun k c e b5=>by cases e;rw[b5.inj a6];exact⟨cur',ag,bf⟩)
    (fun c=>⟨aC,fun e he=>aD ab e (ZI he),aw,cur',c',ag,a2,by rw[ZM,aG];omega,hc,fun a1 e1 j1 p1 he1 aI=>by
     rw[ZP]at he1
     split at he1
     ·obtain⟨v,hv,aJ,_⟩:=a8 a1 e1 j1 p1 he1 aI
      exact⟨v,hv,aq.go c.go p1 v aJ⟩
     ·cases he1⟩)
   have b6:o<h.length:=(Zb.1 ho).1
   obtain⟨g1,g2⟩:=k2.rename (z:=z) (es:=(es.take i++vs++es.drop i).take es.length) (es':=es.take i++vs++es.drop i) (Zd b6) au (fun mu=>by
    refine⟨aC,aD ab,aw,cur',c',ag,a2,by rw[aG];exact hn,hc,fun a1 e1 j1 p1 he1 aI=> ?_⟩
    obtain⟨v,hv,aJ,_⟩:=a8 a1 e1 j1 p1 he1 aI
    exact⟨v,hv,(aq.go c2.go p1 v aJ).weak mu⟩)
   rw[List.set_set]at g1 g2
   exact⟨b,c',cur',rfl,⟨e1,e2,e3,by omega,fun q hq=>aF q (by omega)⟩,g1,c2.trans g2,ag,a2,hn,hc, .inl ⟨o,es,rfl,au⟩,by omega,fun q _ hq=>aF q hq,fun a e j p he hp=>by
    obtain⟨v,hv,_,hf⟩:=a8 a e j p he hp
    exact⟨v,hv,hf⟩⟩
  ·exact fresh ab kd cd a8 ag a2 hn hc af e1 e2 e3 ar
def IX.turn {h:List Y0}(k:HR M0 base w J h){src:Option (Nat×List (List PV))}{o2 z i:Nat}{vs:List (List PV)}{e:Ending}{w':World}(hi:i<=(ai src).length)(q:IX M0 base w J h src o2 z i vs e w'):
 ∃u J',e= .returned u/\ Below base w w'/\ HR M0 base w' J' (aA src h++[.arr z ((ai src).take i++vs++(ai src).drop i)])/\
  Ch (Mu M0 J h) (Mu M0 J' (aA src h++[.arr z ((ai src).take i++vs++(ai src).drop i)])) w w' J J' h (aA src h++[.arr z ((ai src).take i++vs++(ai src).drop i)])/\
  VR (Mu M0 J' (aA src h++[.arr z ((ai src).take i++vs++(ai src).drop i)])) w' J' (aA src h++[.arr z ((ai src).take i++vs++(ai src).drop i)]) (.one (.arr h.length)) u:=by
 obtain⟨b',c',cur',he,hb,g1,g2,a6,hs,hn,hc,_⟩:=q
 have hl:(aA src h).length=h.length:=by cases src<;>simp[aA]
 have aR:=Hw (vs:=vs) hi
 refine⟨_,_,he,hb,g1,g2,some b', .arr z ((ai src).take i++vs++(ai src).drop i),?_,?_,cur',c',a6,hs,by rw[aR];exact hn,hc,by rw[aR]⟩
 ·rw[<-k.len];simp
 ·rw[<-hl];simp
def IX.cj {h:List Y0}(k:HR M0 base w J h){o2 z:Nat}{vs:List (List PV)}{e:Ending}{w':World}(q:IX M0 base w J h none o2 z 0 vs e w'):
 ∃u J',e= .returned u/\ Below base w w'/\ HR M0 base w' J' (h++[.arr z vs])/\ Ch (Mu M0 J h) (Mu M0 J' (h++[.arr z vs])) w w' J J' h (h++[.arr z vs])/\ VR (Mu M0 J' (h++[.arr z vs])) w' J' (h++[.arr z vs]) (.one (.arr h.length)) u:=by
 have:=q.turn k (Zb9 _)
 simpa only[ai,aA,List.take_nil,List.drop_nil,Zw,Zi]using this
end
end Gi
