/- A part. -/
import Derived.Test.YtndiampmpmbfoaaGreatGild
import Derived.Test.YtndiampmpmbfoaaGreatGilg
import Derived.Test.YtndiampmpmbfoaaGreatGilh
set_option linter.all false
namespace Gi
open Go Go.RowKit
variable {KI:KF}
section
variable {Γ:Ctx}{P:Program}{M0:Nat->Prop}{base:Nat}{Z:St}{a:Act}{w:World}{J:List (Option Nat)}{h:List Y0}{κ:Nat->List Nat}
def inM (κ:Nat->List Nat)(os:List Nat)(b:Nat):Prop:=∃(q o c:Nat)(X:List Nat),os[q]? =some o/\ κ b=o::c::X
def TC {os:List Nat}(hn:os.Nodup){i o:Nat}(hi:os[i]? =some o):os.findIdx? (· ==o)=some i:=by
 obtain⟨a5,e⟩:=Zb.1 hi
 rw[ZV]
 refine⟨a5,by simp[e],fun j hj=> ?_⟩
 simp only[beq_iff_eq,ne_eq,Bool.not_eq_true,beq_eq_false_iff_ne]
 intro e2
 have h1:os[j]? =some o:=Zb.2 ⟨by omega,e2⟩
 have:=(List.getElem?_inj (by omega) hn).1 (h1.trans hi.symm)
 omega
def TD {os:List Nat}{i o:Nat}(h:os.findIdx? (· ==o)=some i):os[i]? =some o:=by
 rw[ZV]at h
 obtain⟨a5,h1,_⟩:=h
 simp only[beq_iff_eq]at h1
 simp[a5,h1]
def HR.ck (k:HR0 M0 base w J h)(d:Deep κ base w J h)(n:Zon κ M0 w h){os:List Nat}(ho:∀o∈os,∃z es,h[o]? =some (.bB z es))(hn:os.Nodup):
 HR (inM κ os) base w (os.map (j9 J)) (os.map (gl h)):=by
 have get:∀{i:Nat}{x:Y0}{r:Option Nat},(os.map (gl h))[i]? =some x->(os.map (j9 J))[i]? =some r->∃o,os[i]? =some o/\ h[o]? =some x/\ (∃z es,x= .bB z es)/\ J[o]? =some r:=by
  intro i x r hx hr
  simp only[Zp,Zj]at hx hr
  obtain⟨o,h1,rfl⟩:=hx
  obtain⟨o',h2,rfl⟩:=hr
  rw[h1]at h2;cases h2
  obtain⟨z,es,hz⟩:=ho o (Zl h1)
  obtain⟨r,hr⟩:=k.mem hz
  have e:gl h o= .bB z es:=by simp[gl,hz]
  exact⟨o,h1,by rw[e];exact hz,⟨z,es,e⟩,by simp[j9,hr]⟩
 refine⟨⟨by simp,fun b hm=>⟨?_,fun i x hi hx a7=> ?_⟩,k.le,fun i x r hi hr=> ?_,fun i i' x x' b h1 h2 m1 m2 r1 r2=> ?_⟩,fun b=>match κ b with
  |o::X=>(match os.findIdx? (· ==o)with
   |some q=>q::X
   |none=>[])
  |[]=>[],⟨fun i x b hi hx a7=> ?_,fun i x z es b hi hd a7=> ?_⟩,fun b hb=>by simp only[n.new b hb],fun b q c X z es e hi=> ?_⟩
 ·obtain⟨q,o,c,X,_,e⟩:=hm
  by_cases a5:b<w.heap.size
  ·exact a5
  ·rw[n.new b (by omega)]at e;cases e
 ·obtain⟨q,o,c,X,_,e⟩:=hm
  obtain⟨o',_,h1,_,h2⟩:=get hi a7
  rw[d.root o' x b h1 hx h2]at e
  cases e
 ·obtain⟨o,_,h1,⟨z,es,rfl⟩,h2⟩:=get hi hr
  exact k.objs o _ r h1 h2
 ·obtain⟨o,p1,q1,_,s1⟩:=get h1 r1
  obtain⟨o',p2,q2,_,s2⟩:=get h2 r2
  have e:=k.apart o o' x x' b q1 q2 m1 m2 s1 s2
  subst e
  exact(List.getElem?_inj (Zb.1 p1).1 hn).1 (p1.trans p2.symm)
 ·obtain⟨o,h0,h1,_,h2⟩:=get hi a7
  simp only[d.root o x b h1 hx h2,TC hn h0]
 ·obtain⟨o,h0,h1,_,h2⟩:=get hi a7
  exact(d.tree o x z es b h1 hd h2).go (Zn _) (fun _ _=>rfl) ((k.objs o x _ h1 h2).rows hd).2 (fun c b' X _ e=>⟨by simp only[e,Zg,Zi,TC hn h0],rfl⟩)
 ·split at e
  ·rename_i o τ0 hκ
   split at e
   ·rename_i q' hq
    cases e
    exact⟨q,o,c,X,TD hq,hκ⟩
   ·cases e
  ·cases e
def HR.cc (k:HR0 M0 base w J h)(d:Deep κ base w J h)(n:Zon κ M0 w h){os:List Nat}(ho:∀o∈os,∃z es,h[o]? =some (.bB z es))(hn:os.Nodup){w':World}{h1 h':List Y0}
 (k1:HR (inM κ os) base w' (os.map (j9 J)) h1) (c:Ch (Mu (inM κ os) (os.map (j9 J)) (os.map (gl h))) (Mu (inM κ os) (os.map (j9 J)) h1) w w' (os.map (j9 J)) (os.map (j9 J)) (os.map (gl h)) h1)
 (hlen:h'.length=h.length) (aV:∀(q o:Nat),os[q]? =some o->h'[o]? =h1[q]?) (a2:∀(i:Nat),¬i∈os->h'[i]? =h[i]?):
 HR M0 base w' J h'/\ Ch (Mu M0 J h) (Mu M0 J h') w w' J J h h':=by
 have one:∀{q o:Nat},os[q]? =some o->∃z es es' r,h[o]? =some (.bB z es)/\ J[o]? =some r/\ (os.map (gl h))[q]? =some (.bB z es)/\ (os.map (j9 J))[q]? =some r/\ h1[q]? =some (.bB z es')/\ es.length=es'.length/\ ∀p,xA z es p->xA z es' p:=by
  intro q o hq
  obtain⟨z,es,hz⟩:=ho o (Zl hq)
  obtain⟨r,hr⟩:=k.mem hz
  have e1:(os.map (gl h))[q]? =some (.bB z es):=by simp[hq,gl,hz]
  have e2:(os.map (j9 J))[q]? =some r:=by simp[hq,j9,hr]
  obtain⟨ob',_,h2,s⟩:=c.obj q r _ e2 e1 (by simp)
  obtain⟨es',rfl,s1,s2⟩:=s.bB
  exact⟨z,es,es',r,hz,hr,e1,e2,h2,s1,s2⟩
 have mem:∀{i:Nat},i∈os->∃q:Nat,os[q]? =some i:=fun hi=>by
  obtain⟨q,hq,e⟩:=T' hi
  exact⟨q,by simp[hq,e]⟩
 have aI:∀b,inM κ os b->M0 b:=fun b⟨q,o,c,X,hq,e⟩=>by
  obtain⟨z,es,_,_,hz,_⟩:=one hq
  exact n.zone b o c X z es e hz
 have aJ:∀b,Mu (inM κ os) (os.map (j9 J)) (os.map (gl h)) b->Mu M0 J h b:=fun b hm=>by
  rcases hm with hm|⟨q,x,hx,a6,hr⟩
  ·exact .inl (aI b hm)
  ·simp only[Zp,Zj]at hx hr
   obtain⟨o,hq,rfl⟩:=hx
   obtain⟨o',bc,e⟩:=hr
   rw[hq]at bc;cases bc
   obtain⟨z,es,_,r,hz,hr,_⟩:=one hq
   refine .inr ⟨o,_,hz,rfl,?_⟩
   simp only[j9,hr,Za3]at e
   rw[hr,e]
 have frame:∀b,b<w.heap.size->¬inM κ os b->(∀o∈os,J[o]? ≠some (some b))->w'.heap[b]? =w.heap[b]? :=fun b hb hm hr=>c.go.block b hb fun ai=>by
  rcases ai with aK|⟨q,x,hx,a6,a1⟩
  ·exact hm aK
  ·simp only[Zp,Zj]at a1
   obtain⟨o,hq,e⟩:=a1
   obtain⟨z,es,_,r,hz,ak,_⟩:=one hq
   refine hr o (Zl hq) ?_
   simp only[j9,ak,Za3]at e
   rw[ak,e]
 have other:∀{i:Nat}{x:Y0}{b:Nat},¬i∈os->h[i]? =some x->x.mut=true->J[i]? =some (some b)->w'.heap[b]? =w.heap[b]? :=fun{i x b}hi hx hm hr=>by
  refine frame b ((k.objs i x _ hx hr).lt (Y0.bE hm)) (fun⟨q,o,c,X,_,e⟩=> ?_) (fun o ho' a1=> ?_)
  ·rw[d.root i x b hx hm hr]at e;cases e
  ·obtain⟨q,hq⟩:=mem ho'
   obtain⟨z,es,_,_,hz,_⟩:=one hq
   exact hi (k.apart i o x _ b hx hz hm rfl hr a1▸ho')
 have lift:∀{i:Nat}{x:Y0},h'[i]? =some x->x.mut=true->∃y,h[i]? =some y/\ y.mut=true:=fun{i x}hx hm=>by
  by_cases hi:i∈os
  ·obtain⟨q,hq⟩:=mem hi
   obtain⟨z,es,_,_,hz,_⟩:=one hq
   exact⟨_,hz,rfl⟩
  ·exact⟨x,by rw[<-a2 i hi];exact hx,hm⟩
 have aW:∀b,Mu M0 J h' b->Mu M0 J h b:=fun b hm=>by
  rcases hm with hm|⟨i,x,hx,a6,hr⟩
  ·exact .inl hm
  ·obtain⟨y,hy,ab⟩:=lift hx a6
   exact .inr ⟨i,y,hy,ab,hr⟩
 have C:Ch (Mu M0 J h) (Mu M0 J h') w w' J J h h':=by
  refine⟨⟨c.go.size,fun b _ hm=>aW b hm,fun b hb hm=>c.go.block b hb fun ai=>hm (aJ b ai)⟩,c.row,fun i r x hr hx _=> ?_,fun i b z es p v hr hx hl hv=> ?_⟩
  ·by_cases hi:i∈os
   ·obtain⟨q,hq⟩:=mem hi
    obtain⟨z,es,es',_,hz,_,_,_,h2,s1,s2⟩:=one hq
    rw[hz]at hx;cases hx
    exact⟨.bB z es',hr,by rw[aV q i hq];exact h2,rfl,s1,s2⟩
   ·exact⟨x,hr,by rw[a2 i hi];exact hx,sI.refl x⟩
  ·by_cases hi:i∈os
   ·obtain⟨q,hq⟩:=mem hi
    obtain⟨z0,aR,_,r,hz,ak,e1,e2,_⟩:=one hq
    rw[hz]at hx;cases hx
    rw[hr]at ak;cases ak
    exact c.zar q b z es p v e2 e1 hl hv
   ·unfold World.cell? at hv⊢
    rw[other hi hx rfl hr]
    exact hv
 obtain⟨κ',d',n'⟩:=k1.deep
 have own:∀{q c b:Nat}{X:List Nat},κ' b=q::c::X->b<w'.heap.size->∀o,os[q]? =some o->inM κ os b:=fun{q c b X}e _ o hq=>by
  obtain⟨z,es,es',_,_,_,_,_,h2,_⟩:=one hq
  exact n'.zone b q c X z es' e h2
 have lt:∀b,inM κ os b->b<w.heap.size:=fun b⟨q,o,c,X,_,e⟩=>by
  by_cases a5:b<w.heap.size
  ·exact a5
  ·rw[n.new b (by omega)]at e;cases e
 classical
 refine⟨⟨⟨by rw[hlen];exact k.len,fun b hm=>⟨ZG (k.old b hm).1 c.go.size,fun i x hx a6 hr=> ?_⟩,k1.le,fun i x r hx hr=> ?_,fun i i' x x' b h1 h2 m1 m2 r1 r2=> ?_⟩,
  fun b=>if inM κ os b \/(∃o∈os,J[o]? =some (some b))then(match κ' b with
   |q::X=>(match os[q]? with
    |some o=>o::X
    |none=>[])
   |[]=>[])else κ b,⟨fun i x b hx a6 hr=> ?_,fun i x z es b hx hd hr=> ?_⟩,fun b hb=> ?_,fun b i c' X z es e hx=> ?_⟩,C⟩
 ·obtain⟨y,hy,ab⟩:=lift hx a6
  exact(k.old b hm).2 i y hy ab hr
 ·by_cases hi:i∈os
  ·obtain⟨q,hq⟩:=mem hi
   obtain⟨z,es,es',r0,hz,ak,_,e2,h2,_⟩:=one hq
   rw[aV q i hq,h2]at hx;cases hx
   rw[ak]at hr;cases hr
   exact k1.objs q _ _ h2 e2
  ·rw[a2 i hi]at hx
   have kx:=k.objs i x r hx hr
   refine kx.keep C (fun b e hd=> ?_)
   subst e
   by_cases hm:x.mut=true
   ·exact other hi hx hm hr
   ·have aX:¬Mu M0 J h b:=by
     cases x with
     |bH z es=>exact kx.2.2.1
     |bL ps=>obtain⟨b1,bp,e1,aK,_⟩:=kx;cases e1;exact aK
     |dead=>exact absurd rfl hd
     |res=>cases kx
     |_=>exact absurd rfl hm
    exact c.go.block b (kx.lt hd) fun ai=>aX (aJ b ai)
 ·obtain⟨y,hy,ab⟩:=lift h1 m1
  obtain⟨y',aY,az⟩:=lift h2 m2
  exact k.apart i i' y y' b hy aY ab az r1 r2
 ·by_cases hi:i∈os
  ·obtain⟨q,hq⟩:=mem hi
   obtain⟨z,es,es',r0,hz,ak,_,e2,h2,_⟩:=one hq
   rw[hr]at ak;cases ak
   rw[if_pos (.inr ⟨i,hi,hr⟩),d'.root q _ b h2 rfl e2]
   simp only[hq]
  ·rw[a2 i hi]at hx
   rw[if_neg,d.root i x b hx a6 hr]
   rintro(⟨q,o,c0,X,_,e⟩|⟨o,ho',a1⟩)
   ·rw[d.root i x b hx a6 hr]at e;cases e
   ·obtain⟨q,hq⟩:=mem ho'
    obtain⟨z,es,_,_,hz,_⟩:=one hq
    exact hi (k.apart i o x _ b hx hz a6 rfl hr a1▸ho')
 ·by_cases hi:i∈os
  ·obtain⟨q,hq⟩:=mem hi
   obtain⟨z0,aR,es',r0,hz,ak,_,e2,h2,_⟩:=one hq
   rw[hr]at ak;cases ak
   rw[aV q i hq,h2]at hx;cases hx
   cases hd
   exact(d'.tree q _ z es b h2 rfl e2).go (Zn _) (fun _ _=>rfl) ((k1.objs q _ _ h2 e2).rows rfl).2 (fun c0 b' X aE e=>by
    refine⟨?_,rfl⟩
    rw[if_pos (.inl (own e aE i hq)),e]
    simp only[Zg,Zi,hq])
  ·rw[a2 i hi]at hx
   have a6:=Y0.bP hd
   refine(d.tree i x z es b hx hd hr).go (Zn _) (fun o _=>by unfold World.cell?;rw[other hi hx a6 hr]) ((k.objs i x _ hx hr).rows hd).2 (fun c0 b' X aE e=> ?_)
   have h3:¬inM κ os b':=fun⟨q,o,c1,τ1,hq,e1⟩=>by
    rw[e]at e1;cases e1
    exact hi (Zl hq)
   have h4:∀o∈os,J[o]? ≠some (some b'):=fun o ho' a1=>by
    obtain⟨q,hq⟩:=mem ho'
    obtain⟨z,es,_,_,hz,_⟩:=one hq
    rw[d.root o _ b' hz rfl a1]at e;cases e
   refine⟨?_,frame b' aE h3 h4⟩
   rw[if_neg]
   ·exact e
   ·rintro(h5|⟨o,ho',a1⟩)
    ·exact h3 h5
    ·exact h4 o ho' a1
 ·rw[if_neg,n.new b (Zc c.go.size hb)]
  rintro(h5|⟨o,ho',a1⟩)
  ·have:=lt b h5;have:=c.go.size;omega
  ·obtain⟨q,hq⟩:=mem ho'
   obtain⟨z,es,_,_,hz,_⟩:=one hq
   have:=(k.objs o _ _ hz a1).lt (by simp)
   have:=c.go.size
   omega
 ·split at e
  ·rename_i au
   split at e
   ·rename_i q τ0 hκ
    split at e
    ·rename_i o hq
     cases e
     obtain⟨z0,aR,es',_,hz,_,_,_,h2,_⟩:=one hq
     exact aI b (n'.zone b q c' X z0 es' hκ h2)
    ·cases e
   ·cases e
  ·by_cases hi:i∈os
   ·obtain⟨q,hq⟩:=mem hi
    obtain⟨z0,aR,_,_,hz,_⟩:=one hq
    exact n.zone b i c' X z0 aR e hz
   ·rw[a2 i hi]at hx
    exact n.zone b i c' X z es e hx
def LH (OS:List Nat):L->L->Prop
 | .pv p,l'=>p.bare=true/\ l'= .pv p
 | .nil,l'=>l'= .pv (.lst [])
 | .arr o,l'=>∃q,l'= .arr q/\ OS[q]? =some o
 |_,_=>False
def LH.mono {OS t:List Nat}{l l':L}(r:LH OS l l'):LH (OS++t) l l':=by
 cases l with
 |arr o=>obtain⟨q,rfl,h⟩:=r;exact⟨q,rfl,by rw[Ze (Zb.1 h).1];exact h⟩
 |_=>exact r
def Uz (h:List Y0)(o:Nat):Y0:=(gl h o).bX
def JB (h:List Y0)(ls xs:List L)(os:List Nat):Prop:=(∀o∈aj ls,∃z es,h[o]? =some (.bB z es))/\ (thawL (os.map (Uz h)) xs).2=(os++aj ls).map (Uz h)/\ (thawL (os.map (Uz h)) xs).1.length=ls.length/\
 ∀(i:Nat)(l:L),ls[i]? =some l->∃l',(thawL (os.map (Uz h)) xs).1[i]? =some l'/\ LH (os++aj ls) l l'
def wS :∀(ls xs:List L)(os:List Nat),lW h ls=some xs->JB h ls xs os
 |[],xs,os,e=>by
  simp[lW]at e;subst e
  exact⟨fun o ho=>by simp[aj]at ho,by simp[aj,thawL],rfl,fun i l hl=>by simp at hl⟩
 |l::ls,xs,os,e=>by
  unfold lW at e
  split at e
  ·rename_i x aF h1 h2
   cases e
   have other:aj (l::ls)=aj ls->(∀g,thawL g (x::aF)=(x::(thawL g aF).1,(thawL g aF).2))->(∀OS,LH OS l x)->JB h (l::ls) (x::aF) os:=fun ea et er=>by
    obtain⟨i0,i1,i2,i3⟩:=wS ls aF os h2
    unfold JB
    rw[ea,et]
    refine⟨i0,i1,by simp[i2],fun i l1 aA=> ?_⟩
    cases i with
    |zero=>simp at aA;subst aA;exact⟨x,rfl,er _⟩
    |succ i=>simpa using i3 i l1 (by simpa using aA)
   cases l with
   |pv p=>
    simp only[xK]at h1
    split at h1
    ·rename_i hp;cases h1
     exact other rfl (fun _=>rfl) (fun _=>⟨hp,rfl⟩)
    ·cases h1
   |nil=>cases h1;exact other rfl (fun _=>rfl) (fun _=>rfl)
   |arr o=>
    simp only[xK]at h1
    split at h1
    ·rename_i z es ho
     cases h1
     obtain⟨i0,i1,i2,i3⟩:=wS ls aF (os++[o]) h2
     have em:aj (.arr o::ls)=o::aj ls:=by simp[aj]
     have eg:os.map (Uz h)++[Y0.bA z es]=(os++[o]).map (Uz h):=by simp[Uz,gl,ho,Y0.bX]
     have eo:os++o::aj ls=os++[o]++aj ls:=by simp
     unfold JB
     rw[em,eo]
     simp only[thawL]
     rw[eg]
     refine⟨fun o' h'=> ?_,i1,by rw[Zo,Zo,i2],fun i l1 aA=> ?_⟩
     ·rcases ZL.1 h' with rfl|h'
      ·exact⟨z,es,ho⟩
      ·exact i0 o' h'
     ·cases i with
      |zero=>
       simp at aA;subst aA
       exact⟨_,rfl,os.length,by simp,by simp⟩
      |succ i=>
       obtain⟨l',h3,h4⟩:=i3 i l1 (by simpa using aA)
       exact⟨l',by rw[P'];exact h3,h4⟩
    ·cases h1
   |_=>cases h1
  ·cases e
def AG :∀{os:List Nat}{outs:List (Bool×List L)}{h1 h h':List Y0},os.Nodup->(∀o∈os,o<h.length)->iv h1=some outs->kG h os outs=some h'->
 h'.length=h.length/\ (∀(q o:Nat),os[q]? =some o->h'[o]? =h1[q]?)/\ ∀(i:Nat),¬i∈os->h'[i]? =h[i]?
 |[],outs,h1,h,h',hn,a5,e1,e2=>by
  cases outs with
  |nil=>simp[kG]at e2;subst e2;exact⟨rfl,fun q o hq=>by simp at hq,fun _ _=>rfl⟩
  |cons x outs=>simp[kG]at e2
 |o::os,outs,h1,h,h',hn,a5,e1,e2=>by
  obtain⟨bq,br⟩:=L'.1 hn
  unfold kG at e2
  split at e2
  ·rename_i h0;cases h0
  ·rename_i o' bI z es bd h0
   cases h0
   cases h1 with
   |nil=>simp[iv]at e1
   |cons x h1=>
    unfold iv at e1
    split at e1
    ·rename_i h3;cases h3
    ·rename_i z' es' h4 h3
     cases h3
     split at e1
     ·rename_i xs aB
      cases e1
      obtain⟨i1,i2,i3⟩:=AG (h1:=h1) br (fun o1 h5=>by rw[ZK];exact a5 o1 (by simp[h5])) aB e2
      refine⟨by rw[i1,ZK],fun q o1 hq=> ?_,fun i hi=> ?_⟩
      ·cases q with
       |zero=>
        simp at hq;subst hq
        rw[i3 _ bq,Zd (a5 _ (by simp))];rfl
       |succ q=>simpa using i2 q o1 (by simpa using hq)
      ·rw[i3 i (fun h5=>hi (by simp[h5])),Za (fun h5=>hi (by simp[h5]))]
     ·cases e1
    ·cases e1
  ·cases e2
def N6 [KF](Γ:Ctx)(P:Program)(f:FuncId)(xz:List V)(r:V):Prop:=
 ∃h aZ e ps h' ls,P3 xz=some (h,aZ)/\ r= .b9 [(false,[.pv (.lst e)]),(false,[.pv (.lst [ps])])]/\ JU e=some h'/\ CW ps=some ls/\
  ∀(M0:Nat->Prop)(base:Nat)(w:World)(J:List (Option Nat))(ae:Array Value),Γ.G w->Γ.B0<=base->HR M0 base w J h->aZ.length=ae.toList.length->
   (∀(i:Nat)(x:V)(u:Value),aZ[i]? =some x->ae.toList[i]? =some u->VR (Mu M0 J h) w J h x u)->
   Calls P f ae w fun e w'=>∃v J',e= .returned v/\ Below base w w'/\ HR M0 base w' J' h'/\ Ch (Mu M0 J h) (Mu M0 J' h') w w' J J' h h'/\ VR (Mu M0 J' h') w' J' h' (.agg ls) v
def A8 [KF](Γ:Ctx)(P:Program)(f:FuncId)(xz:List V)(r:V):Prop:=
 ∃l outs,r= .b9 ((false,[l])::outs)/\ l.flat=true/\ ∀(M0:Nat->Prop)(base:Nat)(w:World)(J:List (Option Nat))(ae:Array Value),Γ.G w->Γ.B0<=base->HR M0 base w J ((ed [] xz).2.map Y0.zone)->(ed [] xz).1.length=ae.size->
  (∀(i:Nat)(x:V)(u:Value),(ed [] xz).1[i]? =some x->ae.toList[i]? =some u->VR (Mu M0 J ((ed [] xz).2.map Y0.zone)) w J ((ed [] xz).2.map Y0.zone) x u)->
  Calls P f ae w fun e w'=>∃v h1,e= .returned v/\ Below base w w'/\ (∀M J h,LR M w' J h l v)/\ iv h1=some outs/\ HR M0 base w' J h1/\ Ch (Mu M0 J ((ed [] xz).2.map Y0.zone)) (Mu M0 J h1) w w' J J ((ed [] xz).2.map Y0.zone) h1
def OL {v a':V}{n:Int}(hl:uT h v=some a'):(∀o∈aj v.cells,∃z es,h[o]? =some (.bB z es))/\ ∃v',ed [] [a',aa .i64 n]=([v',aa .i64 n],(aj v.cells).map (Uz h))/\
 (∀xs,v≠ .b9 xs)/\ v'.cells.length=v.cells.length/\ (match v,v' with| .one _, .one _=>True| .agg _, .agg _=>True|_,_=>False)/\ ∀(i:Nat)(l:L),v.cells[i]? =some l->∃l',v'.cells[i]? =some l'/\ LH (aj v.cells) l l':=by
 cases v with
 |b9 xs=>cases hl
 |one l=>
  simp only[uT]at hl
  split at hl
  ·rename_i x hx
   cases hl
   have aS:lW h [l]=some [x]:=by simp[lW,hx]
   obtain⟨i0,i1,i2,i3⟩:=wS [l] [x] [] aS
   simp only[Zz,Zi]at i1 i2 i3
   obtain⟨l',h',e'⟩:=jA [] x
   rw[e']at i1 i2 i3
   refine⟨i0, .one l',?_,by simp,rfl,trivial,i3⟩
   simp only[ed,thaw,e',V.cells]
   rw[<-i1]
   rfl
  ·cases hl
 |agg ls=>
  simp only[uT]at hl
  split at hl
  ·rename_i xs hx
   cases hl
   obtain⟨i0,i1,i2,i3⟩:=wS ls xs [] hx
   simp only[Zz,Zi]at i1 i2 i3
   refine⟨i0, .agg (thawL [] xs).1,?_,by simp,i2,trivial,i3⟩
   simp only[ed,thaw,V.cells]
   rw[<-i1]
   rfl
  ·cases hl
def Uw {os:List Nat}(ho:∀o∈os,∃z es,h[o]? =some (.bB z es)):(os.map (Uz h)).map Y0.zone=os.map (gl h):=by
 rw[List.map_map]
 apply ZS
 intro o hm
 obtain⟨z,es,e⟩:=ho o hm
 simp[Uz,gl,e,Y0.bX,Y0.zone]
def LH.lr {M M':Nat->Prop}{os:List Nat}{l l':L}{u:Value}(r:LH os l l')(hl:LR M w J h l u):LR M' w (os.map (j9 J)) (os.map (gl h)) l' u:=by
 cases l with
 |pv p=>
  obtain⟨hp,rfl⟩:=r
  cases p with
  |lst es=>
   cases es with
   |nil=>
    simp only[LR,aq]at hl⊢
    rcases hl with hl|⟨b,o,c,z,rfl,_⟩
    ·exact .inl hl
    ·exact .inl ⟨trivial,_,_,rfl⟩
   |cons _ _=>cases hp
  |_=>simpa only[LR,aq]using hl
 |nil=>
  obtain rfl:=(show l'= .pv (.lst [])from r)
  obtain⟨ad,rfl⟩:=hl
  simp only[LR,aq]
  exact .inl ⟨trivial,_,_,rfl⟩
 |arr o=>
  obtain⟨q,rfl,hq⟩:=r
  obtain⟨r0,ob,h1,h2,hs⟩:=hl
  exact⟨r0,ob,by simp[hq,j9,h1],by simp[hq,gl,h2],hs⟩
 |_=>exact r.elim
def Xl (s:SR Γ M0 base Z a w J){x a':V}{ux:Value}{n:Int}(rx:VR (Mu M0 J Z.h) w J Z.h x ux)(hn:(aj x.cells).Nodup)(hl:uT Z.h x=some a'){f:FuncId}{outs:List (Bool×List L)}{l:L}{h':List Y0}
 (hs:A8 Γ P f [a',aa .i64 n] (.b9 ((false,[l])::outs))) (hp:kG Z.h (aj x.cells) outs=some h'):
 Calls P f #[ux, .int .i64 n] w fun e w'=>∃v,e= .returned v/\ Below base w w'/\ HR M0 base w' J h'/\ Ch (Mu M0 J Z.h) (Mu M0 J h') w w' J J Z.h h'/\ VR (Mu M0 J h') w' J h' (.one l) v:=by
 obtain⟨ho,v',et,bf,hlen,av,aL⟩:=OL (n:=n) hl
 obtain⟨l0,bg,e0,bh,hs⟩:=hs
 cases e0
 rw[et]at hs
 simp only[Uw ho]at hs
 obtain⟨κ,d,nz⟩:=s.hr.deep
 have b3:=rx.cells bf
 refine(hs (inM κ (aj x.cells)) base w ((aj x.cells).map (j9 J)) #[ux, .int .i64 n] s.inv s.b0 (HR.ck s.hr.toHR0 d nz ho hn) rfl (fun i y u hy hu=> ?_)).mono fun e w'⟨v,h1,he,hb,aM,a2,k1,c1⟩=> ?_
 ·match i,hy,hu with
  |0,hy,hu=>
   simp at hy hu
   subst hy;subst hu
   cases x with
   |b9 xs=>exact absurd rfl (bf xs)
   |one lx=>
    cases v' with
    |one bJ=>
     obtain⟨l',e1,e2⟩:=aL 0 lx rfl
     simp[V.cells]at e1;subst e1
     exact e2.lr rx
    |_=>exact av.elim
   |agg ls=>
    cases v' with
    |agg ls'=>
     obtain⟨cs,rfl,aS⟩:=rx
     refine⟨cs,rfl,by rw[show ls'.length=ls.length from hlen];exact aS.1,fun j lj c bj hc=> ?_⟩
     have hj:j<ls.length:=by rw[<-show ls'.length=ls.length from hlen];exact(Zb.1 bj).1
     obtain⟨l',e1,e2⟩:=aL j ls[j] (by simp[V.cells,hj])
     rw[show(V.agg ls').cells=ls' from rfl,bj]at e1;cases e1
     exact e2.lr (aS.2 j _ c (by simp[hj]) hc)
    |_=>exact av.elim
  |1,hy,hu=>
   simp at hy hu
   subst hy;subst hu
   exact VR.mkInt _ _
  |i+2,hy,hu=>simp at hy
 ·obtain⟨p1,p2,p3⟩:=AG hn (fun o h5=>by obtain⟨z,es,hz⟩:=ho o h5;exact(Zb.1 hz).1) a2 hp
  obtain⟨g1,g2⟩:=HR.cc s.hr.toHR0 d nz ho hn k1 c1 p1 p2 p3
  exact⟨v,he,hb,g1,g2,aM _ _ _⟩
def OU {h1:List Y0}{z:Nat}{l1:List (List PV)}(e:iv h1=some [(false,[.down z l1])]):h1=[.bB z l1]:=by
 unfold iv at e
 split at e
 ·cases e
 ·rename_i z' es' h2
  split at e
  ·rename_i xs aB
   cases e
   unfold iv at aB
   split at aB
   ·rfl
   ·split at aB<;>cases aB
   ·cases aB
  ·cases e
 ·cases e
def CV {z:Nat}{es:List (List PV)}{c:Nat}{p:PV}(h:x5 z es c=some p):∃e,es[c/z]? =some e/\ e[c%z]? =some p:=by
 unfold x5 at h
 split at h
 ·rename_i e he;exact⟨e,he,h⟩
 ·cases h
def vt (c z:Nat):c/z*z+c%z=c:=by rw[Zb5];exact Nat.div_add_mod c z
def M7 {z:Nat}{es:List (List PV)}{c:Nat}{p:PV}{e:List PV}(hz:0<z)(al:∀e∈es,e.length=z)(he:es[c/z]? =some e){i j:Nat}{e1:List PV}{p1:PV}(h1:(fI z es c p)[i]? =some e1)(h2:e1[j]? =some p1):
 (i*z+j=c/\ p1=p) \/(i*z+j≠c/\ ∃e0,es[i]? =some e0/\ e0[j]? =some p1):=by
 unfold fI at h1
 rw[he]at h1
 have a5:c%z<e.length:=by rw[al e (Zl he)];exact Nat.mod_lt _ hz
 have hp:=vt c z
 by_cases hi:c/z=i
 ·subst hi
  rw[Zd (Zb.1 he).1]at h1
  cases h1
  simp only[Za3]at h2
  by_cases hj:c%z=j
  ·subst hj
   rw[Zd a5]at h2
   cases h2
   exact .inl ⟨hp,rfl⟩
  ·rw[Za hj]at h2
   exact .inr ⟨by omega,e,he,h2⟩
 ·rw[Za hi]at h1
  refine .inr ⟨fun e'=>hi ?_,e1,h1,h2⟩
  have hj:j<z:=by rw[<-al e1 (Zl h1)];exact(Zb.1 h2).1
  exact(vD (Nat.mod_lt _ hz) hj (hp.trans e'.symm)).1
def O0 {z:Nat}{es:List (List PV)}{c:Nat}{p:PV}{e:List PV}(hz:0<z)(al:∀e∈es,e.length=z)(he:es[c/z]? =some e):∃e1,(fI z es c p)[c/z]? =some e1/\ e1[c%z]? =some p:=by
 have a5:c%z<e.length:=by rw[al e (Zl he)];exact Nat.mod_lt _ hz
 unfold fI
 rw[he]
 exact⟨_,Zd (Zb.1 he).1,by simp only[Za3];exact Zd a5⟩
def M9 {z:Nat}{es:List (List PV)}{c:Nat}{p:PV}{i j:Nat}{e0:List PV}{p1:PV}(al:∀e∈es,e.length=z)(h1:es[i]? =some e0)(h2:e0[j]? =some p1)(aT:i*z+j≠c):∃e1,(fI z es c p)[i]? =some e1/\ e1[j]? =some p1:=by
 have hp:=vt c z
 unfold fI
 by_cases hi:c/z=i
 ·subst hi
  rw[h1]
  exact⟨_,Zd (Zb.1 h1).1,by simp only[Za3];rw[Za fun e=>aT (by omega)];exact h2⟩
 ·rw[Za hi]
  exact⟨e0,h1,h2⟩
def M8 {z:Nat}{es:List (List PV)}{c:Nat}{p:PV}{e:List PV}(al:∀e∈es,e.length=z)(he:es[c/z]? =some e):(fI z es c p).length=es.length/\ ∀e∈fI z es c p,e.length=z:=by
 unfold fI
 rw[he]
 refine⟨by simp,fun e1 h1=> ?_⟩
 rcases Q' h1 with h2|rfl
 ·exact al e1 h2
 ·simpa using al e (Zl he)
def U2 (s:SR Γ M0 base Z a w J){o c z:Nat}{es l0 l1:List (List PV)}{ux:Value}{n:Int}(rx:LR (Mu M0 J Z.h) w J Z.h (.sub o c) ux)(ag:Z.h[o]? =some (.bB z es))(an:x5 z es c=some (.lst l0))(aT:l0≠[]){f:FuncId}{l:L}
 (hs:A8 Γ P f [.one (.down (wid l0) l0),aa .i64 n] (.b9 [(false,[l]),(false,[.down (wid l0) l1])])):
 Calls P f #[ux, .int .i64 n] w fun e w'=>∃v,e= .returned v/\ Below base w w'/\ HR M0 base w' J (Z.h.set o (.bB z (fI z es c (.lst l1))))/\ Ch (Mu M0 J Z.h) (Mu M0 J (Z.h.set o (.bB z (fI z es c (.lst l1))))) w w' J J Z.h (Z.h.set o (.bB z (fI z es c (.lst l1))))/\
  VR (Mu M0 J (Z.h.set o (.bB z (fI z es c (.lst l1))))) w' J (Z.h.set o (.bB z (fI z es c (.lst l1)))) (.one l) v:=by
 obtain⟨b4,b,z',es',hr,ho',bs,hv⟩:=rx
 rw[ag]at ho';cases ho'
 obtain⟨κ,d,nz⟩:=s.hr.deep
 have k:=s.hr.toHR0
 obtain⟨e,hi,hj⟩:=CV an
 obtain⟨hz,al,aN,b5,b6,b7,q1,q2,q3⟩:=k.objs o _ (some b) ag hr
 have hT:=d.tree o _ z es b ag rfl hr
 obtain⟨v,aC,ht⟩:=hT (c/z) e (c%z) _ hi hj
 rw[vt]at aC ht
 rw[hv]at aC;cases aC
 simp only[eP]at ht
 rcases ht with⟨h0,_⟩|⟨b1,cp,z1,cur,e1,bk,hκ,b8,aD,g1,g2,g3,aU⟩
 ·exact absurd h0 aT
 have hw:wid l0=z1:=by
  cases l0 with
  |nil=>exact absurd rfl aT
  |cons e0 l=>simp only[eD]at aU;exact aU.1
 rw[hw]at hs
 have hκ':κ b1=[o,c]:=hκ
 have lz:∀e∈l0,e.length=z1:=fun e0 h0=>by
  obtain⟨i,hi,rfl⟩:=T' h0
  exact(aU.at (by simp[hi]:l0[i]? =some l0[i])).1
 have ah:∀{i:Nat}{x:Y0},Z.h[i]? =some x->x.mut=true->J[i]? ≠some (some b1):=fun{i x}hx hm a1=>by
  rw[d.root i x b1 hx hm a1]at hκ';cases hκ'
 obtain⟨M1,aw⟩:∃M1:Nat->Prop,∀b,M1 b↔∃c1 X,κ b=o::c::c1::X:=⟨_,fun b=>Iff.rfl⟩
 have lt:∀{b x X},κ b=x::X->b<w.heap.size:=fun{b x X}e=>by
  by_cases a5:b<w.heap.size
  ·exact a5
  ·rw[nz.new b (by omega)]at e;cases e
 have bl:∀b,M1 b->M0 b:=fun b hm=>by
  obtain⟨c1,X,e⟩:=(aw b).1 hm
  exact nz.zone b o c (c1::X) z es e ag
 have bm:M0 b1:=nz.zone b1 o c [] z es hκ' ag
 have K1:HR M1 base w [some b1] [.bB z1 l0]:=by
  refine⟨⟨rfl,fun b hm=> ?_,k.le,fun i x r hi a7=> ?_,fun i i' x x' b h1 h2 m1 m2 r1 r2=> ?_⟩,fun b=>match κ b with
   |o'::c'::X=>if o'=o/\ c'=c then 0::X else []
   |_=>[],⟨fun i x b hi hm a7=> ?_,fun i x z2 ax b hi hd a7=> ?_⟩,fun b hb=>by simp only[nz.new b hb],fun b q c1 X z2 ax e hi=> ?_⟩
  ·obtain⟨c1,X,e⟩:=(aw b).1 hm
   refine⟨lt e,fun i x hi hx a7=> ?_⟩
   cases i with
   |zero=>simp at a7;subst a7;rw[hκ']at e;cases e
   |succ i=>simp at hi
  ·cases i with
   |zero=>simp at hi a7;subst hi;subst a7;exact⟨b8,lz,bk,cur,cp,aD,g1,g2,g3⟩
   |succ i=>simp at hi
  ·cases i<;>cases i'<;>simp at h1 h2⊢
  ·cases i with
   |zero=>simp at hi a7;subst a7;simp[hκ']
   |succ i=>simp at hi
  ·cases i with
   |zero=>
    simp at hi a7;subst hi;subst a7
    cases hd
    exact aU.cells.go (Zn _) (fun _ _=>rfl) lz (fun c1 b' X _ e=>⟨by simp[e],rfl⟩)
   |succ i=>simp at hi
  ·split at e
   ·rename_i o' c' τ0 hk
    split at e
    ·rename_i bt
     obtain⟨rfl,rfl⟩:=bt
     cases e
     exact(aw b).2 ⟨c1,X,hk⟩
    ·cases e
   ·cases e
 obtain⟨l2,outs,e0,bh,hs⟩:=hs
 cases e0
 refine(hs M1 base w [some b1] #[ux, .int .i64 n] s.inv s.b0 K1 rfl (fun i y u hy hu=> ?_)).mono fun e2 w'⟨v2,h1,he,hb,aM,a2,k1,c1⟩=> ?_
 ·match i,hy,hu with
  |0,hy,hu=>
   simp[ed,thaw,thawL]at hy
   simp at hu
   subst hy;subst hu
   exact⟨some b1, .bB z1 l0,rfl,rfl,cur,cp,aD,g1,g2,g3,e1⟩
  |1,hy,hu=>
   simp[ed,thaw,thawL]at hy
   simp at hu
   subst hy;subst hu
   exact VR.mkInt _ _
  |i+2,hy,hu=>simp[ed]at hy
 obtain rfl:=OU a2
 have C0:Ch (Mu M1 [some b1] [.bB z1 l0]) (Mu M1 [some b1] [.bB z1 l1]) w w' [some b1] [some b1] [.bB z1 l0] [.bB z1 l1]:=c1
 obtain⟨ob',_,h2,sm⟩:=C0.obj 0 (some b1) (.bB z1 l0) rfl rfl (by simp)
 obtain⟨ax,e3,bu,bK⟩:=sm.bB
 simp at h2
 rw[<-h2]at e3;cases e3
 obtain⟨κ',d',n'⟩:=k1.deep
 have frame:∀b',b'<w.heap.size->¬M1 b'->b'≠b1->w'.heap[b']? =w.heap[b']? :=fun b' a5 hm af=>C0.go.block b' a5 fun ai=>by
  rcases ai with ai|⟨i,x,hx,a6,a1⟩
  ·exact hm ai
  ·cases i with
   |zero=>simp at a1;exact af a1.symm
   |succ i=>simp at hx
 have a8:∀{i:Nat}{x:Y0}{b':Nat},Z.h[i]? =some x->x.mut=true->J[i]? =some (some b')->w'.heap[b']? =w.heap[b']? :=fun{i x b'}hx hm a1=>by
  refine frame b' ((k.objs i x _ hx a1).lt (Y0.bE hm)) (fun hM=> ?_) (fun e4=> ?_)
  ·obtain⟨c1,X,e4⟩:=(aw b').1 hM
   rw[d.root i x b' hx hm a1]at e4;cases e4
  ·subst e4;exact ah hx hm a1
 have bn:o<Z.h.length:=(Zb.1 ag).1
 have get:∀{i:Nat}{x:Y0},(Z.h.set o (.bB z (fI z es c (.lst l1))))[i]? =some x->(i=o/\ x= .bB z (fI z es c (.lst l1))) \/(i≠o/\ Z.h[i]? =some x):=fun{i x}e4=>by
  by_cases aG:o=i
  ·subst aG
   rw[Zd bn]at e4
   cases e4
   exact .inl ⟨rfl,rfl⟩
  ·rw[Za aG]at e4
   exact .inr ⟨fun e5=>aG e5.symm,e4⟩
 have lift:∀{i:Nat}{x:Y0},(Z.h.set o (.bB z (fI z es c (.lst l1))))[i]? =some x->x.mut=true->∃y,Z.h[i]? =some y/\ y.mut=true:=fun{i x}hx hm=>by
  rcases get hx with⟨rfl,rfl⟩|⟨_,ar⟩
  ·exact⟨_,ag,rfl⟩
  ·exact⟨x,ar,hm⟩
 have aJ:∀b',Mu M1 [some b1] [.bB z1 l0] b'->M0 b':=fun b' hm=>by
  rcases hm with hm|⟨i,x,hx,a6,a1⟩
  ·exact bl b' hm
  ·cases i with
   |zero=>simp at a1;subst a1;exact bm
   |succ i=>simp at hx
 have aW:∀b',Mu M0 J (Z.h.set o (.bB z (fI z es c (.lst l1)))) b'->Mu M0 J Z.h b':=fun b' hm=>by
  rcases hm with hm|⟨i,x,hx,a6,a1⟩
  ·exact .inl hm
  ·obtain⟨y,hy,ab⟩:=lift hx a6
   exact .inr ⟨i,y,hy,ab,a1⟩
 have ba:=M8 (p:= .lst l1) al hi
 have C:Ch (Mu M0 J Z.h) (Mu M0 J (Z.h.set o (.bB z (fI z es c (.lst l1))))) w w' J J Z.h (Z.h.set o (.bB z (fI z es c (.lst l1)))):=by
  refine⟨⟨C0.go.size,fun b' _ hm=>aW b' hm,fun b' aE hm=>C0.go.block b' aE fun ai=>hm (.inl (aJ b' ai))⟩,C0.row,fun i r x a1 hx _=> ?_,fun i b' z2 ax p v3 a1 hx hl bo=> ?_⟩
  ·by_cases aG:o=i
   ·subst aG
    rw[ag]at hx;cases hx
    refine⟨_,a1,Zd bn,rfl,ba.1.symm,fun p⟨i1,e1,j1,ll,h4,h5,h6⟩=> ?_⟩
    by_cases hp:i1*z+j1=c
    ·obtain⟨e4,q4,q5⟩:=O0 (p:= .lst l1) hz al hi
     exact⟨c/z,e4,c%z,l1,q4,q5,by rw[vt];omega⟩
    ·obtain⟨e4,q4,q5⟩:=M9 (p:= .lst l1) al h4 h5 hp
     exact⟨i1,e4,j1,ll,q4,q5,h6⟩
   ·exact⟨x,a1,by rw[Za aG];exact hx,sI.refl x⟩
  ·unfold World.cell? at bo⊢
   rw[a8 hx rfl a1]
   exact bo
 have bM:∀b',M1 b'->b'≠b1:=fun b' hm e4=>by
  subst e4
  obtain⟨c1,X,e5⟩:=(aw b').1 hm
  rw[hκ']at e5;cases e5
 classical
 refine⟨v2,he,hb,⟨⟨by rw[ZK];exact k.len,fun b' hm=>⟨ZG (k.old b' hm).1 C0.go.size,fun i x hx a6 a1=> ?_⟩,k1.le,fun i x r hx a1=> ?_,fun i i' x x' b' x1 x2 m1 m2 r1 r2=> ?_⟩,
  fun b'=>if M1 b' \/b'=b1 then(match κ' b' with
   |_::X=>o::c::X
   |[]=>[])else κ b',⟨fun i x b' hx a6 a1=> ?_,fun i x z2 ax b' hx hd a1=> ?_⟩,fun b' aE=> ?_,fun b' i c' X z2 ax e4 hx=> ?_⟩,C,aM _ _ _⟩
 ·obtain⟨y,hy,ab⟩:=lift hx a6
  exact(k.old b' hm).2 i y hy ab a1
 ·rcases get hx with⟨rfl,rfl⟩|⟨af,ar⟩
  ·rw[hr]at a1;cases a1
   refine⟨hz,ba.2,aN,b5,b6,?_,q1,by rw[ba.1];exact q2,q3⟩
   obtain⟨T,bw⟩:=b7
   exact⟨T,(a8 ag rfl hr).trans bw⟩
  ·have kx:=k.objs i x r ar a1
   refine kx.keep C (fun b' e4 hd=> ?_)
   subst e4
   by_cases hm:x.mut=true
   ·exact a8 ar hm a1
   ·have aX:¬Mu M0 J Z.h b':=by
     cases x with
     |bH z es=>exact kx.2.2.1
     |bL ps=>obtain⟨b2,aO,e5,aK,_⟩:=kx;cases e5;exact aK
     |dead=>exact absurd rfl hd
     |res=>cases kx
     |_=>exact absurd rfl hm
    exact C0.go.block b' (kx.lt hd) fun ai=>aX (.inl (aJ b' ai))
 ·obtain⟨y,hy,ab⟩:=lift x1 m1
  obtain⟨y',aY,az⟩:=lift x2 m2
  exact k.apart i i' y y' b' hy aY ab az r1 r2
 ·obtain⟨y,hy,ab⟩:=lift hx a6
  rw[if_neg,d.root i y b' hy ab a1]
  rintro(hM|rfl)
  ·obtain⟨c1,X,e4⟩:=(aw b').1 hM
   rw[d.root i y b' hy ab a1]at e4;cases e4
  ·exact ah hy ab a1
 ·
  have stay:∀{b2 i2 c2:Nat}{X:List Nat},b2<w.heap.size->κ b2=i2::c2::X->¬(i2=o/\ c2=c)->¬M1 b2/\ b2≠b1:=fun{b2 i2 c2 X}_ e4 af=>⟨fun hM=>by
   obtain⟨c3,τ3,e5⟩:=(aw b2).1 hM
   rw[e4]at e5;cases e5
   exact af ⟨rfl,rfl⟩,fun e5=>by
   subst e5
   rw[hκ']at e4;cases e4
   exact af ⟨rfl,rfl⟩⟩
  rcases get hx with⟨rfl,rfl⟩|⟨af,ar⟩
  ·rw[hr]at a1;cases a1
   cases hd
   intro i1 e4 j1 p1 hi1 bx
   have ao:∀p,w'.cell? ⟨b,p,none⟩=w.cell? ⟨b,p,none⟩:=fun p=>by unfold World.cell?;rw[a8 ag rfl hr]
   rcases M7 hz al hi hi1 bx with⟨hp,rfl⟩|⟨hp,e5,q4,q5⟩
   ·rw[hp]
    refine⟨ux,(ao c).trans hv,?_⟩
    simp only[eP]
    obtain⟨_,_,_,aO,aP,ay,r1,r2,r3⟩:=k1.objs 0 _ (some b1) rfl rfl
    obtain⟨bz,aQ,bC⟩:=C0.row b1 cur aD
    cases ay.inj aQ
    have bb:aP=cp:=S' b8 (by rw[<-r1,bC,g1])
    subst bb
    refine .inr ⟨b1,aP,z1,aO,by rw[e1,bu],bk,?_,b8,ay,r1,r2,r3,?_⟩
    ·rw[if_pos (.inr rfl),d'.root 0 _ b1 rfl rfl rfl];rfl
    ·have T:=d'.tree 0 _ z1 l1 b1 rfl rfl rfl
     refine rU.ll ((k1.objs 0 _ (some b1) rfl rfl).rows rfl).2 (T.go (Zn _) (fun _ _=>rfl) ((k1.objs 0 _ (some b1) rfl rfl).rows rfl).2 (fun c2 b2 X aH e6=>⟨?_,rfl⟩))
     rw[if_pos (.inl (n'.zone b2 0 c2 X z1 l1 e6 rfl)),e6]
     rfl
   ·obtain⟨v4,bD,bF⟩:=hT i1 e5 j1 p1 q4 q5
    refine⟨v4,(ao _).trans bD,eP.go (Zn _) p1 _ _ v4 (fun b2 X aH e6=> ?_) bF⟩
    obtain⟨h7,h8⟩:=stay aH e6 (fun h=>hp h.2)
    exact⟨by rw[if_neg (fun h=>h.elim h7 h8)];exact e6,frame b2 aH h7 h8⟩
  ·have a6:=Y0.bP hd
   refine(d.tree i x z2 ax b' ar hd a1).go (Zn _) (fun p _=>by unfold World.cell?;rw[a8 ar a6 a1]) ((k.objs i x _ ar a1).rows hd).2 (fun c2 b2 X aH e6=> ?_)
   obtain⟨h7,h8⟩:=stay aH e6 (fun h=>af h.1)
   exact⟨by rw[if_neg (fun h=>h.elim h7 h8)];exact e6,frame b2 aH h7 h8⟩
 ·have:=C0.go.size
  rw[if_neg,nz.new b' (by omega)]
  rintro(hM|rfl)
  ·obtain⟨c1,X,e4⟩:=(aw b').1 hM
   have:=lt e4;omega
  ·have:=lt hκ';omega
 ·split at e4
  ·rename_i au
   split at e4
   ·rename_i q0 τ0 hk
    cases e4
    rcases au with hM|e5
    ·exact bl b' hM
    ·rw[e5];exact bm
   ·cases e4
  ·rcases get hx with⟨rfl,_⟩|⟨_,ar⟩
   ·exact nz.zone b' i c' X z es e4 ag
   ·exact nz.zone b' i c' X z2 ax e4 ar
def U1 (s:SR Γ M0 base Z a w J){o c z:Nat}{es:List (List PV)}{ux:Value}{n:Int}(rx:LR (Mu M0 J Z.h) w J Z.h (.sub o c) ux)(ag:Z.h[o]? =some (.bB z es))(an:x5 z es c=some (.lst [])){f:FuncId}{l:L}
 (hs:A8 Γ P f [bY [],aa .i64 n] (.b9 [(false,[l])])):
 Calls P f #[ux, .int .i64 n] w fun e w'=>∃v,e= .returned v/\ Below base w w'/\ HR M0 base w' J Z.h/\ Ch (Mu M0 J Z.h) (Mu M0 J Z.h) w w' J J Z.h Z.h/\ VR (Mu M0 J Z.h) w' J Z.h (.one l) v:=by
 obtain⟨b4,b,z',es',hr,ho',bs,hv⟩:=rx
 rw[ag]at ho';cases ho'
 obtain⟨κ,d,nz⟩:=s.hr.deep
 obtain⟨e,hi,hj⟩:=CV an
 obtain⟨v,aC,ht⟩:=d.tree o _ z es b ag rfl hr (c/z) e (c%z) _ hi hj
 rw[vt]at aC ht
 rw[hv]at aC;cases aC
 have bG:∃a' c',ux= .slice a' 0 c':=by
  simp only[eP]at ht
  rcases ht with⟨_,h⟩|⟨b1,cp,z1,cur,e1,_⟩
  ·exact h
  ·exact⟨_,_,e1⟩
 obtain⟨l2,outs,e0,bh,hs⟩:=hs
 cases e0
 have K1:HR (fun _=>False) base w [] []:=⟨⟨rfl,fun b h=>h.elim,s.hr.le,fun i x r hi=>by simp at hi,fun i i' x x' b h1=>by simp at h1⟩,fun _=>[],⟨fun i x b hi=>by simp at hi,fun i x z2 ax b hi=>by simp at hi⟩,fun _ _=>rfl,nofun⟩
 refine(hs (fun _=>False) base w [] #[ux, .int .i64 n] s.inv s.b0 K1 rfl (fun i y u hy hu=> ?_)).mono fun e2 w'⟨v2,h1,he,hb,aM,a2,k1,c1⟩=> ?_
 ·match i,hy,hu with
  |0,hy,hu=>
   simp[ed,thaw,thawL]at hy
   simp at hu
   subst hy;subst hu
   obtain⟨a',c',rfl⟩:=bG
   simp only[VR,LR,aq]
   exact .inl ⟨by trivial,_,_,rfl⟩
  |1,hy,hu=>
   simp[ed,thaw,thawL]at hy
   simp at hu
   subst hy;subst hu
   exact VR.mkInt _ _
  |i+2,hy,hu=>simp[ed]at hy
 ·obtain⟨g1,g2⟩:=s.hr.world c1.go.size (fun b a5=>c1.go.block b a5 fun hm=>by
   rcases hm with hm|⟨i,x,hx,_⟩
   ·exact hm
   ·simp[ed,thaw,thawL]at hx)
  exact⟨v2,he,hb,g1,g2,aM _ _ _⟩
end
end Gi
