/- Of this proof. -/
import Derived.Test.YtpnolnkjijmfjaaGreatGin
import Derived.Test.YtpnolnkjijmfjaaGreatGilc
set_option linter.all false
namespace Gi
open Go Go.RowKit
variable {KI:KF}
section
variable {Γ:Ctx}{P:Program}{M0:Nat->Prop}{base:Nat}{Z:St}{a:Act}{w:World}{J:List (Option Nat)}
def jA (h:List Q0)(o:Nat):Q0:=(h[o]?).getD .dead
def nk (J:List (Option Nat))(o:Nat):Option Nat:=(J[o]?).getD none
def Q0.cR {ob:Q0}(h:ob.br):(∃z es,ob= .arr z es) \/∃z es,ob= .bA z es:=by cases ob<;>first|exact h.elim|exact .inl ⟨_,_,rfl⟩|exact .inr ⟨_,_,rfl⟩
def HR.sub {h:List Q0}(k:HR M0 base w J h){os:List Nat}(ho:∀o∈os,∃ob,h[o]? =some ob/\ ob.br)(hn:os.Nodup):
 HR M0 base w (os.map (nk J)) (os.map (jA h))/\ (∀b,Mu M0 (os.map (nk J)) (os.map (jA h)) b->Mu M0 J h b):=by
 have get:∀{i:Nat}{x:Q0}{r:Option Nat},(os.map (jA h))[i]? =some x->(os.map (nk J))[i]? =some r->∃o,os[i]? =some o/\ h[o]? =some x/\ x.br/\ J[o]? =some r:=by
  intro i x r hx hr;simp only[Zp,Zl]at hx hr;obtain⟨o,h1,rfl⟩:=hx;obtain⟨o',h2,rfl⟩:=hr;rw[h1]at h2;cases h2;obtain⟨ob,hz,ha⟩:=ho o (Zn h1);obtain⟨r,hr⟩:=k.mem hz;have e:jA h o=ob:=by simp[jA,hz]
  exact⟨o,h1,by rw[e];exact hz,by rw[e];exact ha,by simp[nk,hr]⟩
 have mu:∀b,Mu M0 (os.map (nk J)) (os.map (jA h)) b->Mu M0 J h b:=by intro b hm;rcases hm with hm|⟨i,x,hi,hx,ar⟩;exact .inl hm;obtain⟨o,_,h1,_,h2⟩:=get hi ar;exact .inr ⟨o,x,h1,hx,h2⟩
 have idx:∀{i o:Nat},os[i]? =some o->os.findIdx? (· ==o)=some i:=by intro i o hi;obtain⟨hlt,e⟩:=Zb.1 hi;rw[ZS];refine⟨hlt,by simp[e],fun j hj=> ?_⟩;simp only[beq_iff_eq,ne_eq,Bool.not_eq_true,beq_eq_false_iff_ne];intro e2;have h1:os[j]? =some o:=Zb.2 ⟨by omega,e2⟩;have:=(Qm (by omega) hn).1 (h1.trans hi.symm);omega
 obtain⟨κ,d,n⟩:=k.deep;refine⟨⟨⟨by simp,fun b hm=>⟨(k.old b hm).1,fun i x hi hx ar=> ?_⟩,k.le,fun i x r hi hr=> ?_,fun i i' x x' b h1 h2 m1 m2 r1 r2=> ?_⟩,fun b=>match κ b with
  |o::X=>(match os.findIdx? (· ==o)with
   |some q=>q::X
   |none=>[])
  |[]=>[],⟨fun i x b hi hx ar=> ?_,fun i x z es b hi hd ar=> ?_⟩,fun b hb=>by simp only[n.new b hb],fun b o c X z es e hi=> ?_⟩,mu⟩
 obtain⟨o,_,h1,_,h2⟩:=get hi ar;exact(k.old b hm).2 o x h1 hx h2
 ·obtain⟨o,_,h1,ha,h2⟩:=get hi hr;have k0:=k.objs o x r h1 h2;have main:∀{z:Nat}{es:List (List PV)},BI (Mu M0 J h) base w J h r (.arr z es)->BI (Mu M0 (os.map (nk J)) (os.map (jA h))) base w (os.map (nk J)) (os.map (jA h)) r (.arr z es):=by
   intro z es k0;obtain⟨hz,ab,kx⟩:=k0;refine⟨hz,ab,?_⟩;cases r with
   |none=>exact kx
   |some b=>
    obtain⟨g0,cur,cap,g1,g2,g3,g4,g5⟩:=kx;exact⟨g0,cur,cap,g1,g2,g3,g4,fun i1 e1 j1 p1 he1 aD=>by
     obtain⟨v,hv,aE⟩:=g5 i1 e1 j1 p1 he1 aD
     exact⟨v,hv,aE.weak mu⟩⟩
  cases x<;>first|exact main k0|exact ha.elim
 obtain⟨o,p1,q1,_,s1⟩:=get h1 r1;obtain⟨o',p2,q2,_,s2⟩:=get h2 r2;have e:=k.apart o o' x x' b q1 q2 m1 m2 s1 s2;subst e;exact(Qm (Zb.1 p1).1 hn).1 (p1.trans p2.symm);obtain⟨o,h0,h1,_,h2⟩:=get hi ar;simp only[d.root o x b h1 hx h2,idx h0];obtain⟨o,h0,h1,_,h2⟩:=get hi ar;exact(d.tree o x z es b h1 hd h2).go (Zi _) (fun _ _=>rfl) ((k.objs o x _ h1 h2).rows hd).2 (fun c b' X _ e=>⟨by simp only[e,Zh,Zk,idx h0],rfl⟩);obtain⟨o',ho',hg⟩:∃o',os[o]? =some o'/\ jA h o'= .bC z es:=by simpa using hi
 obtain⟨ob,h1,ha⟩:=ho o' (Zn ho');simp only[jA,h1,Ys]at hg;subst hg;exact ha.elim
def jS (h:List Q0)(ls:List L):List Nat:=ls.filterMap fun
 | .arr o=>match h[o]? with
  |some (.arr _ _)=>some o
  |some (.bA _ _)=>some o
  |_=>none
 |_=>none
def Rel (h:List Q0)(OS:List Nat)(l l':L):Prop:=
 match l with
 | .pv p=>l'= .pv p
 | .nil=>l'= .nil
 | .arr o=>(∃ob q,h[o]? =some ob/\ ob.br/\ l'= .arr q/\ OS[q]? =some o) \/(∃z es,h[o]? =some (.bI z es)/\ l'= .pv (.lst es))
 |_=>False
def Rel.mono {h:List Q0}{OS t:List Nat}{l l':L}(r:Rel h OS l l'):Rel h (OS++t) l l':=by
 cases l with
 |arr o=>rcases r with⟨ob,q,h1,h0,h2,h3⟩|r;exact .inl ⟨ob,q,h1,h0,h2,by rw[Ze (Zb.1 h3).1];exact h3⟩;exact .inr r
 |_=>exact r
def aeT (h:List Q0)(OS:List Nat)(ls:List L)(q:List L×List Q0):Prop:=
 q.2=OS.map (jA h)/\ q.1.length=ls.length/\ ∀(i:Nat)(l:L),ls[i]? =some l->∃l',q.1[i]? =some l'/\ Rel h OS l l'
def AD {h:List Q0}:∀(ls xs:List L)(os:List Nat),cU h ls=some xs->xs.all L.clean=true/\ aeT h (os++jS h ls) ls (thawL (os.map (jA h)) xs)
 |[],xs,os,e=>by simp[cU]at e;subst e;exact⟨rfl,by simp[jS,thawL],rfl,fun i l hl=>by simp at hl⟩
 |l::ls,xs,os,e=>by
  unfold cU at e;split at e;rename_i x ai h1 h2;cases e;have other:jS h (l::ls)=jS h ls->x.clean=true->(∀g,thawL g (x::ai)=(x::(thawL g ai).1,(thawL g ai).2))->(∀OS,Rel h OS l x)->(x::ai).all L.clean=true/\ aeT h (os++jS h (l::ls)) (l::ls) (thawL (os.map (jA h)) (x::ai)):=by
   intro em hc et hr;obtain⟨i0,i1,i2,i3⟩:=AD ls ai os h2;rw[em,et];refine⟨by simp only[Zq,hc,i0,ZH],i1,by simp[i2],fun i l1 aj=> ?_⟩;cases i with
   |zero=>simp at aj;subst aj;exact⟨x,rfl,hr _⟩
   |succ i=>simpa using i3 i l1 (by simpa using aj)
  cases l with
  |pv p=>simp only[dS]at h1;cases h1;exact other rfl rfl (fun _=>rfl) (fun _=>rfl)
  |nil=>simp only[dS]at h1;cases h1;exact other rfl rfl (fun _=>rfl) (fun _=>rfl)
  |arr o=>
   simp only[dS]at h1;split at h1;rename_i z es ho;cases h1;obtain⟨i0,i1,i2,i3⟩:=AD ls ai (os++[o]) h2;have em:jS h (.arr o::ls)=o::jS h ls:=by simp[jS,ho]
   have eg:os.map (jA h)++[Q0.arr z es]=(os++[o]).map (jA h):=by simp[jA,ho]
   rw[em];have eo:os++o::jS h ls=os++[o]++jS h ls:=by simp
   refine⟨by simp only[Zq,L.clean,i0,ZH],?_⟩;simp only[thawL];rw[eg,eo];refine⟨i1,by rw[Zo,Zo,i2],fun i l1 aj=> ?_⟩;cases i with
   |zero=>simp at aj;subst aj;refine⟨_,rfl, .inl ⟨_,(os.map (jA h)).length,ho,trivial,rfl,?_⟩⟩;simp
   |succ i=>obtain⟨l',h3,h4⟩:=i3 i l1 (by simpa using aj);exact⟨l',by rw[Yp];exact h3,h4⟩
   rename_i z es ho;cases h1;exact other (by simp[jS,ho]) rfl (fun _=>rfl) (fun _=> .inr ⟨z,es,ho,rfl⟩);rename_i z es ho;cases h1;obtain⟨i0,i1,i2,i3⟩:=AD ls ai (os++[o]) h2;have em:jS h (.arr o::ls)=o::jS h ls:=by simp[jS,ho]
   have eg:os.map (jA h)++[Q0.bA z es]=(os++[o]).map (jA h):=by simp[jA,ho]
   rw[em];have eo:os++o::jS h ls=os++[o]++jS h ls:=by simp
   refine⟨by simp only[Zq,L.clean,i0,ZH],?_⟩;simp only[thawL];rw[eg,eo];refine⟨i1,by rw[Zo,Zo,i2],fun i l1 aj=> ?_⟩;cases i with
   |zero=>simp at aj;subst aj;refine⟨_,rfl, .inl ⟨_,(os.map (jA h)).length,ho,trivial,rfl,?_⟩⟩;simp
   |succ i=>obtain⟨l',h3,h4⟩:=i3 i l1 (by simpa using aj);exact⟨l',by rw[Yp];exact h3,h4⟩
   cases h1
  |_=>cases h1
  cases e
def Rel.lr {h:List Q0}(k:HR M0 base w J h){OS:List Nat}(mu:∀b,Mu M0 (OS.map (nk J)) (OS.map (jA h)) b->Mu M0 J h b){l l':L}{u:Value}(r:Rel h OS l l')(hl:LR (Mu M0 J h) w J h l u):
 LR (Mu M0 (OS.map (nk J)) (OS.map (jA h))) w (OS.map (nk J)) (OS.map (jA h)) l' u:=by
 cases l with
 |pv p=>simp only[Rel]at r;subst r;exact cG.weak mu hl
 |nil=>simp only[Rel]at r;subst r;exact hl
 |arr o=>rcases r with⟨b7,q,h1,_,rfl,h3⟩|⟨z,es,h1,rfl⟩;obtain⟨r0,ob,an,b0,hs⟩:=hl;rw[h1]at b0;cases b0;exact⟨r0,b7,by simp[h3,nk,an],by simp[h3,jA,h1],hs⟩;exact cG.weak mu (ro k hl (by simp[L.view,h1]) (by simp[L.mut,h1]))
 |_=>exact r.elim
def V.isAgg :V->Bool
 | .agg _=>true
 |_=>false
def xX {h:List Q0}:∀(vs:List V)(xs:List (Bool×List L))(os:List Nat),eh h vs=some xs->(xs.all fun x=>x.2.all L.clean)=true/\
 (thawT (os.map (jA h)) xs).2=(os++jS h (vs.flatMap V.cells)).map (jA h)/\ (thawT (os.map (jA h)) xs).1.length=vs.length/\
 ∀(i:Nat)(v:V),vs[i]? =some v->∃ls',(thawT (os.map (jA h)) xs).1[i]? =some (v.isAgg,ls')/\ (∀t,v≠ .b8 t)/\ ls'.length=v.cells.length/\ ∀(j:Nat)(l:L),v.cells[j]? =some l->∃l',ls'[j]? =some l'/\ Rel h (os++jS h (vs.flatMap V.cells)) l l'
 |[],xs,os,e=>by simp[eh]at e;subst e;exact⟨rfl,by simp[thawT,jS],rfl,fun i v hv=>by simp at hv⟩
 |v::vs,xs,os,e=>by
  unfold eh at e;split at e;rename_i x ai h1 h2;cases e;have key:∃ls',cU h v.cells=some ls'/\ x=(v.isAgg,ls')/\ ∀t,v≠ .b8 t:=by
   cases v with
   |one l=>simp only[comp]at h1;split at h1;rename_i ys ag;cases h1;exact⟨ys,ag,rfl,by simp⟩;cases h1
   |agg ls=>simp only[comp]at h1;split at h1;rename_i ys ag;cases h1;exact⟨ys,ag,rfl,by simp⟩;cases h1
   |b8 t=>cases h1
  obtain⟨ls',hg,rfl,b9⟩:=key;obtain⟨c0,g1,g2,g3⟩:=AD v.cells ls' os hg;obtain⟨i0,i1,i2,i3⟩:=xX vs ai (os++jS h v.cells) h2;have em:os++jS h ((v::vs).flatMap V.cells)=os++jS h v.cells++jS h (vs.flatMap V.cells):=by simp[jS]
  rw[em];simp only[thawT];rw[g1];refine⟨by simp only[Zq,c0,i0,ZH],i1,by rw[Zo,Zo,i2],fun i v' aP=> ?_⟩;cases i with
  |zero=>simp at aP;subst aP;refine⟨_,rfl,b9,g2,fun j l hl=> ?_⟩;obtain⟨l',h3,h4⟩:=g3 j l hl;exact⟨l',h3,h4.mono⟩
  |succ i=>obtain⟨ba,q1,q2⟩:=i3 i v' (by simpa using aP);exact⟨ba,by rw[Yp];exact q1,q2⟩
  cases e
def abw {h:List Q0}{ls:List L}:(jS h ls).Sublist (cz ls):=by
 induction ls with
 |nil=>exact List.Sublist.slnil
 |cons l ls ih=>
  cases l with
  |arr o=>
   simp only[cz,YS];by_cases hm:∃ob,h[o]? =some ob/\ ob.br;obtain⟨ob,hm,ha⟩:=hm;have:jS h (.arr o::ls)=o::jS h ls:=by rcases Q0.cR ha with⟨z,es,rfl⟩|⟨z,es,rfl⟩<;>simp only[jS,YS,hm]
   rw[this];exact List.Sublist.cons_cons o ih;have:jS h (.arr o::ls)=jS h ls:=by
    simp only[jS,YS];cases ho:h[o]? with
    |none=>rfl
    |some ob=>
     cases ob with
     |arr z es=>exact absurd ⟨_,ho,trivial⟩ hm
     |bA z es=>exact absurd ⟨_,ho,trivial⟩ hm
     |_=>rfl
   rw[this];exact List.Sublist.cons o ih
  |_=>exact ih
def abv {h:List Q0}{ls:List L}:∀o∈jS h ls,∃ob,h[o]? =some ob/\ ob.br:=by intro o ho;simp only[jS,List.mem_filterMap]at ho;obtain⟨l,_,hl⟩:=ho;split at hl;split at hl;rename_i z es hz;cases hl;exact⟨_,hz,trivial⟩;rename_i z es hz;cases hl;exact⟨_,hz,trivial⟩;cases hl;cases hl
def abF (a:Act):ResultVar->Sem Value
 | .tmp t=>pure (a.tmps.getD t undef)
 | .cell ad t=>do loadVar t (<-asAddr (a.tmps.getD ad undef))
def Ki (fn:Func)(a:Act):results fn a.tmps=(do let vs<-fn.results.mapM (abF a);pure (if h:vs.size=1 then vs[0]else .tuple vs)):=by unfold results;congr 1
def Kh (s:SR Γ M0 base Z a w J){rv:ResultVar}{r:Z9}{x:V}(hc:VN P rv=some r)(hr:fb Z r=some x):
 ∃u,(abF a rv).run P w= .ok u w/\ VR (Mu M0 J Z.h) w J Z.h x u:=by
 cases rv with
 |tmp t=>cases hc;simp only[fb]at hr;cases hr;exact⟨a.eval (.tmp t),by simp[abF,Act.eval],s.fr.eval t⟩
 |cell ad ty=>simp only[VN]at hc;split at hc;rename_i n h1 h2;cases hc;simp only[fb]at hr;obtain⟨u',ao,⟨b,off,e⟩,hv⟩:=DQ s h1 h2 (s.fr.eval ad) hr;refine⟨u',?_,hv⟩;have e':a.tmps.getD ad undef= .pointer (some ⟨b,off,none⟩):=e;rw[e]at ao;simp only[abF,e',asAddr,Sem.run_bind,Sem.run_pure,Result.andThen_ok];exact ao;cases hc
def yt (s:SR Γ M0 base Z a w J):∀{aQ:List ResultVar}{rs:List Z9}{xs:List V},j5 (VN P) aQ=some rs->cu Z rs=some xs->
 ∃us:List Value,(aQ.mapM (abF a)).run P w= .ok us w/\ us.length=xs.length/\
  ∀(i:Nat)(x:V)(u:Value),xs[i]? =some x->us[i]? =some u->VR (Mu M0 J Z.h) w J Z.h x u
 |[],rs,xs,h1,h2=>by simp[j5]at h1;subst h1;simp[cu]at h2;subst h2;exact⟨[],by simp,rfl,fun i x u hx=>by simp at hx⟩
 |rv::aQ,rs,xs,h1,h2=>by
  unfold j5 at h1;split at h1;rename_i r bu e1 e2;cases h1;unfold cu at h2;split at h2;rename_i x ai e3 e4;cases h2;obtain⟨u,hu,hv⟩:=Kh s e1 e3;obtain⟨us,i1,i2,i3⟩:=yt s e2 e4;refine⟨u::us,?_,by simp[i2],fun i x' u' hx ao=> ?_⟩;rw[List.mapM_cons,Sem.run_bind,hu,Result.andThen_ok,Sem.run_bind,i1];simp;cases i with
  |zero=>simp at hx ao;subst hx;subst ao;exact hv
  |succ i=>exact i3 i x' u' (by simpa using hx) (by simpa using ao)
  cases h2;cases h1
def Dt (s:SR Γ M0 base Z a w J){fn:Func}{rs:List Z9}{r:V}(hc:j5 (VN P) fn.results.toList=some rs)(hf:dd Z rs=some r):
 r.clean=true/\ ∃v,(results fn a.tmps).run P w= .ok v w/\ AU M0 base w r v:=by
 unfold dd at hf;split at hf;cases hf;rename_i xs bb;split at hf;rename_i bc;obtain⟨us,bd,aR,bf⟩:=yt s hc bb;have au:(results fn a.tmps).run P w= .ok (if h:us.toArray.size=1 then us.toArray[0]else .tuple us.toArray) w:=by rw[Ki,QT];simp only[Sem.run_bind,Sem.run_map,bd,Result.andThen_ok,Sem.run_pure]
 have aO:∀{ys},eh Z.h xs=some ys->HR M0 base w ((jS Z.h (xs.flatMap V.cells)).map (nk J)) ((jS Z.h (xs.flatMap V.cells)).map (jA Z.h))/\
  (∀b,Mu M0 ((jS Z.h (xs.flatMap V.cells)).map (nk J)) ((jS Z.h (xs.flatMap V.cells)).map (jA Z.h)) b->Mu M0 J Z.h b):=fun _=>s.hr.sub abv (abw.nodup bc)
 have main:∀{ys:List (Bool×List L)},eh Z.h xs=some ys->(ys.all fun x=>x.2.all L.clean)=true/\ (thawT [] ys).2=(jS Z.h (xs.flatMap V.cells)).map (jA Z.h)/\ (thawT [] ys).1.length=xs.length/\
  ∀(i:Nat)(x:V)(u:Value),xs[i]? =some x->us[i]? =some u->∃ls',(thawT [] ys).1[i]? =some (x.isAgg,ls')/\
   (match(x.isAgg,ls')with
    |(true,ls)=>∃cs,u= .agg cs/\ xc (Mu M0 ((jS Z.h (xs.flatMap V.cells)).map (nk J)) ((jS Z.h (xs.flatMap V.cells)).map (jA Z.h))) w ((jS Z.h (xs.flatMap V.cells)).map (nk J)) ((jS Z.h (xs.flatMap V.cells)).map (jA Z.h)) ls cs.toList
    |(false,[l])=>LR (Mu M0 ((jS Z.h (xs.flatMap V.cells)).map (nk J)) ((jS Z.h (xs.flatMap V.cells)).map (jA Z.h))) w ((jS Z.h (xs.flatMap V.cells)).map (nk J)) ((jS Z.h (xs.flatMap V.cells)).map (jA Z.h)) l u
    |_=>False):=by
  intro ys ag;obtain⟨c1,c2,c3,c4⟩:=xX xs ys [] ag;simp only[Zy,Zk]at c2 c3 c4;obtain⟨_,mu⟩:=aO ag;refine⟨c1,c2,c3,fun i x u hx hu=> ?_⟩;obtain⟨ls',d1,d2,d3,d4⟩:=c4 i x hx;refine⟨ls',d1,?_⟩;have r:=bf i x u hx hu;cases x with
  |one l=>
   simp only[V.isAgg,V.cells]at d3 d4⊢;match ls',d3,d4 with
   |[l'],_,d4=>obtain⟨l2,e1,e2⟩:=d4 0 l rfl;simp at e1;subst e1;exact e2.lr s.hr mu r
  |agg ls=>
   obtain⟨cs,rfl,hl⟩:=r;simp only[V.isAgg,V.cells]at d3 d4⊢;refine⟨cs,rfl,by rw[d3];exact hl.1,fun j l' c b1 bg=> ?_⟩;have hj:j<ls.length:=by rw[<-d3];exact(Zb.1 b1).1
   obtain⟨l2,e1,e2⟩:=d4 j ls[j] (by simp[hj]);rw[b1]at e1;cases e1;exact e2.lr s.hr mu (hl.2 j _ c (by simp[hj]) bg)
  |b8 t=>exact absurd rfl (d2 t)
 split at hf;rename_i ls ag;cases hf;obtain⟨c1,c2,c3,c4⟩:=main ag;obtain⟨a7,_⟩:=aO ag;have aF:xs.length=1:=by rw[<-c3];simp[thawT]
 obtain⟨x,hx⟩:=ZN.1 aF;obtain⟨u,hu⟩:=ZN.1 (aR.trans aF);obtain⟨ls',d1,d2⟩:=c4 0 x u (by rw[hx];rfl) (by rw[hu];rfl);have aG:some (true,(thawL [] ls).1)=some (x.isAgg,ls'):=d1;simp only[Option.some.injEq,Prod.mk.injEq]at aG;obtain⟨d0,rfl⟩:=aG;rw[<-d0]at d2;have e2:(thaw [] (V.agg ls)).2=(jS Z.h (xs.flatMap V.cells)).map (jA Z.h):=c2;refine⟨by simpa[V.clean]using c1,u,by rw[au,hu];rfl,(jS Z.h (xs.flatMap V.cells)).map (nk J),?_,?_⟩;rw[e2];exact a7;rw[e2];exact d2;rename_i l ag;cases hf;obtain⟨c1,c2,c3,c4⟩:=main ag;obtain⟨a7,_⟩:=aO ag;have aF:xs.length=1:=by rw[<-c3];simp[thawT]
 obtain⟨x,hx⟩:=ZN.1 aF;obtain⟨u,hu⟩:=ZN.1 (aR.trans aF);obtain⟨ls',d1,d2⟩:=c4 0 x u (by rw[hx];rfl) (by rw[hu];rfl);have aG:some (false,(thawL [] [l]).1)=some (x.isAgg,ls'):=d1;simp only[Option.some.injEq,Prod.mk.injEq]at aG;obtain⟨d0,rfl⟩:=aG;rw[<-d0]at d2;obtain⟨l',h',e'⟩:=mp [] l;have e2:(thaw [] (V.one l)).2=(jS Z.h (xs.flatMap V.cells)).map (jA Z.h):=by rw[<-c2];simp only[thaw,e',thawT]
 have e3:(thaw [] (V.one l)).1= .one l':=by simp only[thaw,e']
 refine⟨by simpa[V.clean]using c1,u,by rw[au,hu];rfl,(jS Z.h (xs.flatMap V.cells)).map (nk J),?_,?_⟩;rw[e2];exact a7;rw[e2,e3];rw[e']at d2;exact d2;rename_i ys bh bj ag;split at hf;cases hf;rename_i hlen;cases hf;obtain⟨c1,c2,c3,c4⟩:=main ag;obtain⟨a7,_⟩:=aO ag;have bw:ys.length=xs.length:=by rw[<-c3,(KQ ys [] c1).1]
 have bk:¬us.toArray.size=1:=by simp;omega
 refine⟨by simpa[V.clean]using c1, .tuple us.toArray,by rw[au,dif_neg bk],(jS Z.h (xs.flatMap V.cells)).map (nk J),?_,?_⟩;show HR M0 base w _ (thawT [] ys).2;rw[c2];exact a7;show VR (Mu M0 _ (thawT [] ys).2) w _ (thawT [] ys).2 (.b8 (thawT [] ys).1) _;rw[c2];refine⟨us.toArray,rfl,by rw[c3,<-aR];simp,fun i x' u' b2 ao=> ?_⟩;have hi:i<xs.length:=by rw[<-c3];exact(Zb.1 b2).1
 obtain⟨ls',d1,d2⟩:=c4 i xs[i] u' (by simp[hi]) (by simpa using ao);rw[b2]at d1;cases d1;exact d2;cases hf;cases hf
end
end Gi
namespace Gi
open Go Go.RowKit
variable {KI:KF}
def CN (P:Program)(f z bytes:Nat):Prop:=
 ∀(w:World)(r:Option Nat)(bs:Option Addr)(n c i vb m vc:Nat)(cs vs:List Value)(cur ae:Array Value),
  0<m->i<=n->n<=c->c<=maxLen->n+m<=maxLen->(n+m)*bytes<=140737488355328->cs.length=n*z->vs.length=m*z->(∀v∈cs,v.oneCell'=true)->(∀v∈vs,v.oneCell'=true)->
  (match r with
   |none=>n=0/\ c=0
   |some b=>bs=some ⟨b,0,none⟩/\ jb w b cur/\ cur.size=c*z/\ vb≠b/\ ∀(j:Nat)v,cs[j]? =some v->cur[j]? =some v)->
  jb w vb ae->(∀(j:Nat)v,vs[j]? =some v->ae[j]? =some v)->
  Calls P f #[.slice bs n c, .int .i64 i, .slice (some ⟨vb,0,none⟩) m vc] w fun e w'=>
   ∃b' c' cur',e= .returned (.slice (some ⟨b',0,none⟩) (n+m) c')/\ jb w' b' cur'/\ cur'.size=c'*z/\ n+m<=c'/\ c'<=maxLen/\
    (∀(j:Nat)v,(cs.take (i*z)++vs++cs.drop (i*z))[j]? =some v->cur'[j]? =some v)/\
    (r=some b'/\ cur'.size=cur.size/\ w'.heap.size=w.heap.size \/b'=w.heap.size/\ w.heap.size<w'.heap.size)/\ w'.os=w.os/\ w'.tape=w.tape/\ w'.output=w.output/\ ∀k,k<w.heap.size->k≠b'->w'.heap[k]? =w.heap[k]?
section
variable {Γ:Ctx}{P:Program}{M0:Nat->Prop}{base:Nat}{Z:St}{a:Act}{w:World}{J:List (Option Nat)}
def Py {z i n j:Nat}(h:i<n)(hj:j<z):i*z+j<n*z:=by
 calc i*z+j<i*z+z:=by omega
  _=(i+1)*z:=by rw[Nat.add_mul,Yl]
  _<=n*z:=ZE _ h
def aek {z i:Nat}{es vs:List (List PV)}{cs vcs:List Value}(ab:∀e∈es,e.length=z)(aC:∀e∈vs,e.length=z)(aH:cs.length=es.length*z)(aS:vcs.length=vs.length*z)(hi:i<=es.length){a j:Nat}{e:List PV}{p:PV}
 (he:(es.take i++vs++es.drop i)[a]? =some e) (hp:e[j]? =some p):
 (∃i0,es[i0]? =some e/\ (cs.take (i*z)++vcs++cs.drop (i*z))[a*z+j]? =cs[i0*z+j]? /\ (if i0*z+j<i*z then i0*z+j else i0*z+j+vs.length*z)=a*z+j) \/
  ∃i0,vs[i0]? =some e/\ (cs.take (i*z)++vcs++cs.drop (i*z))[a*z+j]? =vcs[i0*z+j]? /\ i*z+(i0*z+j)=a*z+j:=by
 have bx:i*z<=cs.length:=by rw[aH];exact ZE _ hi
 have aI:(cs.take (i*z)).length=i*z:=by rw[ZI];omega
 have aJ:(es.take i).length=i:=by rw[ZI];omega
 have hj:=(Zb.1 hp).1;by_cases ha:a<i;rw[List.append_assoc,Ze (by rw[aJ];exact ha),ZL,if_pos ha]at he;rw[ab e (Zn he)]at hj;have hlt:=Py ha hj;exact .inl ⟨a,he,by rw[List.append_assoc,Ze (by rw[aI];exact hlt),ZL,if_pos hlt],if_pos hlt⟩;by_cases hb:a<i+vs.length;rw[List.append_assoc,Zm (by rw[aJ];omega),aJ,Ze (by omega)]at he;rw[aC e (Zn he)]at hj;have hlt:=Py (show a-i<vs.length by omega) hj;have hle:i*z<=a*z:=ZE _ (by omega);have a7:a*z+j-i*z=(a-i)*z+j:=by rw[Nat.sub_mul];omega
 refine .inr ⟨a-i,he,?_,by rw[<-a7];omega⟩;rw[List.append_assoc,Zm (by rw[aI];omega),aI,a7,Ze (by rw[aS];exact hlt)];rw[Zm (by rw[Zv,aJ];omega),Zv,aJ,YO]at he;rw[ab e (Zn he)]at hj;have b3:(i+vs.length)*z<=a*z:=ZE _ (by omega);have a7:i*z+(a*z+j-(i*z+vs.length*z))=(i+(a-(i+vs.length)))*z+j:=by rw[Nat.add_mul]at b3;rw[Nat.add_mul,Nat.sub_mul,Nat.add_mul];omega
 rw[Nat.add_mul]at b3;refine .inl ⟨_,he,?_,?_⟩;rw[Zm (by rw[Zv,aI,aS];omega),Zv,aI,aS,YO,a7];rw[<-a7,if_neg (by omega)];omega
def RY {M:Nat->Prop}{z:Nat}{es:List (List PV)}{cs:List Value}(hz:0<z)(ab:∀e∈es,e.length=z)(aH:cs.length=es.length*z)
 (h1:∀(a:Nat)(e:List PV)(j:Nat)(p:PV),es[a]? =some e->e[j]? =some p->∃v,cs[a*z+j]? =some v/\ cG M w p v):∀v∈cs,v.oneCell'=true:=by
 intro v hv;obtain⟨k,hk,rfl⟩:=Yb.1 hv;have ha:k/z<es.length:=by rw[YY hz,<-aH];exact hk
 have hj:k%z<es[k/z].length:=by rw[ab _ (Zf ha)];exact Qh _ hz
 obtain⟨u,hu,hr⟩:=h1 (k/z) es[k/z] (k%z) es[k/z][k%z] (by simp[ha]) (by simp[hj]);rw[show k/z*z+k%z=k by rw[YH];exact Qz k z,Zj hk]at hu;cases hu;exact hr.one
def Kj {M:Nat->Prop}{z cap:Nat}{es:List (List PV)}{cur:Array Value}(ab:∀e∈es,e.length=z)(a2:cur.size=cap*z)(av:es.length<=cap)
 (h1:∀(a:Nat)(e:List PV)(j:Nat)(p:PV),es[a]? =some e->e[j]? =some p->∃v,cur[a*z+j]? =some v/\ cG M w p v):
 (cur.toList.take (es.length*z)).length=es.length*z/\ (∀(j:Nat)v,(cur.toList.take (es.length*z))[j]? =some v->cur[j]? =some v)/\
 ∀(a:Nat)(e:List PV)(j:Nat)(p:PV),es[a]? =some e->e[j]? =some p->∃v,(cur.toList.take (es.length*z))[a*z+j]? =some v/\ cG M w p v:=by
 have hle:es.length*z<=cur.size:=by rw[a2];exact ZE _ av
 refine⟨by simp;omega,fun j v hv=> ?_,fun a e j p he hp=> ?_⟩;rw[ZL]at hv;split at hv;simpa using hv;cases hv;obtain⟨v,hv,hr⟩:=h1 a e j p he hp;have hj:=(Zb.1 hp).1;rw[ab e (Zn he)]at hj;refine⟨v,?_,hr⟩;rw[ZL,if_pos (Py (Zb.1 he).1 hj)];simpa using hv
def KP {i:Nat}{es vs:List (List PV)}(hi:i<=es.length):(es.take i++vs++es.drop i).length=es.length+vs.length:=by simp;omega
def MZ (w:World)(J:List (Option Nat))(src:Option (Nat×List (List PV)))(o2 z i:Nat)(vs:List (List PV))(e:List PV)(j c:Nat)(v:Value):Prop:=
 (∃o es i0 b,src=some (o,es)/\ J[o]? =some (some b)/\ es[i0]? =some e/\ w.cell? ⟨b,i0*z+j,none⟩=some v/\ (if i0*z+j<i*z then i0*z+j else i0*z+j+vs.length*z)=c) \/
  ∃i0 b,J[o2]? =some (some b)/\ vs[i0]? =some e/\ w.cell? ⟨b,i0*z+j,none⟩=some v/\ i*z+(i0*z+j)=c
def Mf [KF](M0:Nat->Prop)(base:Nat)(w:World)(J:List (Option Nat))(h:List Q0)(src:Option (Nat×List (List PV)))(o2 z i:Nat)(vs:List (List PV))(e:Ending)(w':World):Prop:=
 ∃b' c' cur',e= .returned (.slice (some ⟨b',0,none⟩) ((cq src).length+vs.length) c')/\ Below base w w'/\
  HR M0 base w' (J++[some b']) (cJ src h++[.arr z ((cq src).take i++vs++(cq src).drop i)])/\
  Ch (Mu M0 J h) (Mu M0 (J++[some b']) (cJ src h++[.arr z ((cq src).take i++vs++(cq src).drop i)])) w w' J (J++[some b']) h (cJ src h++[.arr z ((cq src).take i++vs++(cq src).drop i)])/\
  jb w' b' cur'/\ cur'.size=c'*z/\ (cq src).length+vs.length<=c'/\ c'<=maxLen/\ ((∃o es,src=some (o,es)/\ J[o]? =some (some b')) \/w.heap.size<=b')/\
  w.heap.size<=w'.heap.size/\ (∀q,q<w.heap.size->q≠b'->w'.heap[q]? =w.heap[q]?)/\
  ∀(a:Nat)(e:List PV)(j:Nat)(p:PV),((cq src).take i++vs++(cq src).drop i)[a]? =some e->e[j]? =some p->∃v,cur'[a*z+j]? =some v/\ MZ w J src o2 z i vs e j (a*z+j) v
def Ck {h:List Q0}(k:HR M0 base w J h){f z bytes:Nat}(ok:CN P f z bytes){src:Option (Nat×List (List PV))}{o2:Nat}{vs:List (List PV)}(aT:h[o2]? =some (.arr z vs))(hm:0<vs.length){i:Nat}(hi:i<=(cq src).length)
 (aw:((cq src).length+vs.length)*bytes<=140737488355328) (aU:(cq src).length+vs.length<=maxLen) {ux uv:Value}
 (rx:(src=none/\ ∃ad,ux= .slice ad 0 0) \/∃o es,src=some (o,es)/\ h[o]? =some (.arr z es)/\ o≠o2/\ LR (Mu M0 J h) w J h (.arr o) ux) (rv:LR (Mu M0 J h) w J h (.arr o2) uv):
 Calls P f #[ux, .int .i64 i,uv] w (Mf M0 base w J h src o2 z i vs):=by
 obtain⟨r2,bz,aV,aK,aW⟩:=rv;rw[aT]at aK;cases aK;obtain⟨ax,aC,kv⟩:=k.objs o2 _ r2 aT aV;cases r2 with
 |none=>obtain rfl:vs=[]:=kv;simp at hm
 |some vb=>
 obtain⟨_,ae,bl,ah,v1,v2,v3,v4⟩:=kv;obtain⟨b4,ak,aX,bB,bD,bE,ev⟩:=aW;subst ev;obtain⟨q1,q2,q3⟩:=Kj aC v1 v2 v4;have qo:=RY ax aC q1 q3;have aL:=KP (vs:=vs) hi;have rows:∀{cs:List Value}{cur':Array Value},(∀e∈cq src,e.length=z)->cs.length=(cq src).length*z->
  (∀(i0:Nat)(e:List PV)(j:Nat)(p:PV),(cq src)[i0]? =some e->e[j]? =some p->∃v,cs[i0*z+j]? =some v/\ cG (Mu M0 J h) w p v/\ ∃o es b,src=some (o,es)/\ J[o]? =some (some b)/\ w.cell? ⟨b,i0*z+j,none⟩=some v)->
  (∀(j:Nat)v,(cs.take (i*z)++ae.toList.take (vs.length*z)++cs.drop (i*z))[j]? =some v->cur'[j]? =some v)->
  ∀(a:Nat)(e:List PV)(j:Nat)(p:PV),((cq src).take i++vs++(cq src).drop i)[a]? =some e->e[j]? =some p->∃v,cur'[a*z+j]? =some v/\ cG (Mu M0 J h) w p v/\ MZ w J src o2 z i vs e j (a*z+j) v:=by intro cs cur' ab aH hold a5 a e j p he hp;rcases aek ab aC aH q1 hi he hp with⟨i0,g1,g2,g3⟩|⟨i0,g1,g2,g3⟩;obtain⟨v,hv,hr,o,es,b,e1,e2,e3⟩:=hold i0 e j p g1 hp;refine⟨v,a5 _ v (g2.trans hv),hr, .inl ⟨o,es,i0,b,e1,e2,?_,e3,g3⟩⟩;rw[e1]at g1;exact g1;obtain⟨v,hv,hr⟩:=q3 i0 e j p g1 hp;exact⟨v,a5 _ v (g2.trans hv),hr, .inr ⟨i0,vb,aV,g1,by rw[ah.cell];exact q2 _ v hv,g3⟩⟩
 have ay:(∀e∈cq src,e.length=z)->∀e∈(cq src).take i++vs++(cq src).drop i,e.length=z:=fun ab e he=>by simp only[Ye]at he;rcases he with(h|h)|h;exact ab e (ZB h);exact aC e h;exact ab e (Yc h)
 have fresh:∀{w':World}{c':Nat}{cur':Array Value},(∀e∈cq src,e.length=z)->HR M0 base w J (cJ src h)->Ch (Mu M0 J h) (Mu M0 J (cJ src h)) w w J J h (cJ src h)->
  (∀(a:Nat)(e:List PV)(j:Nat)(p:PV),((cq src).take i++vs++(cq src).drop i)[a]? =some e->e[j]? =some p->∃v,cur'[a*z+j]? =some v/\ cG (Mu M0 J h) w p v/\ MZ w J src o2 z i vs e j (a*z+j) v)->
  jb w' w.heap.size cur'->cur'.size=c'*z->(cq src).length+vs.length<=c'->c'<=maxLen->w.heap.size<w'.heap.size->w'.os=w.os->w'.tape=w.tape->w'.output=w.output->(∀k,k<w.heap.size->k≠w.heap.size->w'.heap[k]? =w.heap[k]?)->
  Mf M0 base w J h src o2 z i vs (.returned (.slice (some ⟨w.heap.size,0,none⟩) ((cq src).length+vs.length) c')) w':=by
  intro w' c' cur' ab k2 c2 a8 a6 a2 hn hc hlt e1 e2 e3 al;obtain⟨g1,g2,_⟩:=Ic k2 hlt (fun b hb=>al b hb (by omega)) ax (ay ab) a6 a2 (by rw[aL];exact hn) hc (fun a e j p he hp=>by
   obtain⟨v,hv,hr,_⟩:=a8 a e j p he hp
   exact⟨v,hv,cG.go c2.go p v hr⟩)
  exact⟨_,c',cur',rfl,⟨e1,e2,e3,Yy hlt,fun q hq=>al q (ZD hq k.le) (by have:=k.le;omega)⟩,g1,c2.trans g2,a6,a2,hn,hc, .inr (Zi _),Yy hlt,al,fun a e j p he hp=>by
   obtain⟨v,hv,_,hf⟩:=a8 a e j p he hp
   exact⟨v,hv,hf⟩⟩
 rcases rx with⟨rfl,ad,rfl⟩|⟨o,es,rfl,ho,bm,rx⟩;obtain rfl:i=0:=by simpa[cq]using hi
 refine(ok w none ad 0 0 0 vb vs.length ak [] (ae.toList.take (vs.length*z)) #[] ae hm (Zi _) (Zi _) (YB _) (by simpa[cq]using aU) (by simpa[cq]using aw) (by simp) q1 (by simp) qo ⟨rfl,rfl⟩ ah q2).mono fun e w'⟨b',c',cur',he,a6,a2,hn,hc,a5,aa,e1,e2,e3,al⟩=> ?_;rcases aa with⟨h,_⟩|⟨rfl,hlt⟩;cases h;subst he;exact fresh (by simp[cq]) k (Ch.refl _ _ _ _) (rows (cs:=[]) (by simp[cq]) (by simp[cq]) (fun a e j p he=>by simp[cq]at he) a5) a6 a2 hn hc hlt e1 e2 e3 al;obtain⟨r0,bF,an,aM,b5⟩:=rx;rw[ho]at aM;cases aM;obtain⟨_,ab,kx⟩:=k.objs o _ r0 ho an;obtain⟨kd,cd⟩:=k.c6 (w':=w) (ob':= .dead) ho an rfl trivial rfl (fun _ _=>rfl) (fun b cur _ aY=>⟨cur,aY,rfl⟩) (fun _=>trivial);cases r0 with
 |none=>
  obtain rfl:es=[]:=kx;obtain⟨ad,rfl⟩:∃ad,ux= .slice ad 0 0:=b5;obtain rfl:i=0:=by simpa[cq]using hi
  refine(ok w none ad 0 0 0 vb vs.length ak [] (ae.toList.take (vs.length*z)) #[] ae hm (Zi _) (Zi _) (YB _) (by simpa[cq]using aU) (by simpa[cq]using aw) (by simp) q1 (by simp) qo ⟨rfl,rfl⟩ ah q2).mono fun e w'⟨b',c',cur',he,a6,a2,hn,hc,a5,aa,e1,e2,e3,al⟩=> ?_;rcases aa with⟨h,_⟩|⟨rfl,hlt⟩;cases h;subst he;exact fresh (by simp[cq]) kd cd (rows (cs:=[]) (by simp[cq]) (by simp[cq]) (fun a e j p he=>by simp[cq]at he) a5) a6 a2 hn hc hlt e1 e2 e3 al
 |some b=>
  obtain⟨aq,cur,cap,a6,h1,h2,h3,h4⟩:=kx;obtain⟨bn,az,aN,bo,bG,bH,ex⟩:=b5;cases a6.inj aN;have av:az=cap:=Yr ax (bo.symm.trans h1);subst av ex;have bp:vb≠b:=fun e=>bm (k.apart o o2 _ _ b ho aT rfl rfl an (by rw[aV,e]));obtain⟨p1,p2,p3⟩:=Kj ab h1 h2 h4;have po:=RY ax ab p1 p3;refine(ok w (some b) (some ⟨b,0,none⟩) es.length az i vb vs.length ak (cur.toList.take (es.length*z)) (ae.toList.take (vs.length*z)) cur ae hm hi h2 h3 aU aw p1 q1 po qo ⟨rfl,a6,h1,bp,p2⟩ ah q2).mono fun e w'⟨b',c',cur',he,af,a2,hn,hc,a5,aa,e1,e2,e3,al⟩=> ?_;subst he;have a8:=rows (cs:=cur.toList.take (es.length*z)) ab p1 (fun i0 e j p he hp=>by
   obtain⟨v,hv,hr⟩:=p3 i0 e j p he hp
   exact⟨v,hv,hr,o,es,b,rfl,an,by rw[a6.cell];exact p2 _ v hv⟩) a5
  rcases aa with⟨bq,b6,bt⟩|⟨rfl,hlt⟩;cases bq;have aA:∀k,k≠b->w'.heap[k]? =w.heap[k]? :=fun k hk=>by by_cases hl:k<w.heap.size;exact al k hl hk;rw[Yt (by omega),Yt (by omega)]
  have aB:(es.take i++vs++es.drop i).length=es.length+vs.length:=aL;have bJ:c'=az:=Yr ax (a2.symm.trans (b6.trans h1));obtain⟨k2,c2⟩:=k.c6 (w':=w') (ob':= .arr z ((es.take i++vs++es.drop i).take es.length)) ho an rfl ⟨rfl,by rw[ZI,aB];omega⟩ bt.symm
   (fun k hk=>aA k (fun e=>hk (by rw[e])))
   (fun k c e aY=>by cases e;rw[aY.inj a6];exact⟨cur',af,b6⟩)
   (fun c=>⟨ax,fun e he=>ay ab e (ZB he),aq,cur',c',af,a2,by rw[ZI,aB];omega,hc,fun a1 e1 j1 p1 he1 aD=>by
    rw[ZL]at he1
    split at he1
    ·obtain⟨v,hv,aE,_⟩:=a8 a1 e1 j1 p1 he1 aD
     exact⟨v,hv,cG.go c.go p1 v aE⟩
    ·cases he1⟩)
  have aZ:o<h.length:=(Zb.1 ho).1;obtain⟨g1,g2⟩:=k2.rename (z:=z) (es:=(es.take i++vs++es.drop i).take es.length) (es':=es.take i++vs++es.drop i) (Zd aZ) an (fun mu=>by
   refine⟨ax,ay ab,aq,cur',c',af,a2,by rw[aB];exact hn,hc,fun a1 e1 j1 p1 he1 aD=> ?_⟩
   obtain⟨v,hv,aE,_⟩:=a8 a1 e1 j1 p1 he1 aD
   exact⟨v,hv,(cG.go c2.go p1 v aE).weak mu⟩)
  rw[List.set_set]at g1 g2;exact⟨b,c',cur',rfl,⟨e1,e2,e3,by omega,fun q hq=>aA q (by omega)⟩,g1,c2.trans g2,af,a2,hn,hc, .inl ⟨o,es,rfl,an⟩,by omega,fun q _ hq=>aA q hq,fun a e j p he hp=>by
   obtain⟨v,hv,_,hf⟩:=a8 a e j p he hp
   exact⟨v,hv,hf⟩⟩
  exact fresh ab kd cd a8 af a2 hn hc hlt e1 e2 e3 al
def Mf.turn {h:List Q0}(k:HR M0 base w J h){src:Option (Nat×List (List PV))}{o2 z i:Nat}{vs:List (List PV)}{e:Ending}{w':World}(hi:i<=(cq src).length)(q:Mf M0 base w J h src o2 z i vs e w'):
 ∃u J',e= .returned u/\ Below base w w'/\ HR M0 base w' J' (cJ src h++[.arr z ((cq src).take i++vs++(cq src).drop i)])/\
  Ch (Mu M0 J h) (Mu M0 J' (cJ src h++[.arr z ((cq src).take i++vs++(cq src).drop i)])) w w' J J' h (cJ src h++[.arr z ((cq src).take i++vs++(cq src).drop i)])/\
  VR (Mu M0 J' (cJ src h++[.arr z ((cq src).take i++vs++(cq src).drop i)])) w' J' (cJ src h++[.arr z ((cq src).take i++vs++(cq src).drop i)]) (.one (.arr h.length)) u:=by
 obtain⟨b',c',cur',he,hb,g1,g2,a6,hs,hn,hc,_⟩:=q;have hl:(cJ src h).length=h.length:=by cases src<;>simp[cJ]
 have aL:=KP (vs:=vs) hi;refine⟨_,_,he,hb,g1,g2,some b', .arr z ((cq src).take i++vs++(cq src).drop i),?_,?_,cur',c',a6,hs,by rw[aL];exact hn,hc,by rw[aL]⟩;rw[<-k.len];simp;rw[<-hl];simp
def Mf.ct {h:List Q0}(k:HR M0 base w J h){o2 z:Nat}{vs:List (List PV)}{e:Ending}{w':World}(q:Mf M0 base w J h none o2 z 0 vs e w'):
 ∃u J',e= .returned u/\ Below base w w'/\ HR M0 base w' J' (h++[.arr z vs])/\ Ch (Mu M0 J h) (Mu M0 J' (h++[.arr z vs])) w w' J J' h (h++[.arr z vs])/\ VR (Mu M0 J' (h++[.arr z vs])) w' J' (h++[.arr z vs]) (.one (.arr h.length)) u:=by have:=q.turn k (YB _);simpa only[cq,cJ,Qc,QX,Zw,Zk]using this
end
end Gi
