/- A part. -/
import Derived.Test.YtndiampmpmbfoaaGreatGile
set_option linter.all false
namespace Gi
open Go Go.RowKit
variable {KI:KF}
section
variable {Γ:Ctx}{P:Program}{M0:Nat->Prop}{base:Nat}{Z:St}{a:Act}{w:World}{J:List (Option Nat)}
def QP (xo yo:Option Nat)(N m:Nat):List Nat->List Nat
 |[]=>[]
 |x::X=>if xo=some x then N::X else if yo=some x then(match X with
  |[]=>[]
  |c::X'=>N::(m+c)::X')else x::X
def Jo {h:List Y0}{z:Nat}{x:V}{src:Option (Nat×List (List PV))}(h0:fm h z x=some src):(x= .one .nil/\ src=none) \/∃o es,x= .one (.arr o)/\ src=some (o,es)/\ bf h o=some (z,es):=by
 unfold fm at h0
 split at h0
 ·cases h0;exact .inl ⟨rfl,rfl⟩
 ·rename_i o
  split at h0
  ·rename_i z' es hd
   split at h0
   ·rename_i e;subst e;cases h0
    exact .inr ⟨o,es,rfl,rfl,hd⟩
   ·cases h0
  ·cases h0
 ·cases h0
def Uu {h:List Y0}{z:Nat}{src:Option (Nat×List (List PV))}{y:V}{ys:List (List PV)}(h0:nq h z src y=some ys):
 (∃o,y= .one (.arr o)/\ bf h o=some (z,ys)/\ ct src o=true) \/(y= .one (.pv (.lst ys))/\ nY ys=true) \/(y= .one .nil/\ ys=[]):=by
 unfold nq at h0
 split at h0
 ·rename_i o
  split at h0
  ·rename_i z' cf hd
   split at h0
   ·rename_i e;obtain⟨rfl,e⟩:=e;cases h0
    exact .inl ⟨o,rfl,hd,e⟩
   ·cases h0
  ·cases h0
 ·split at h0
  ·rename_i hf;cases h0;exact .inr (.inl ⟨rfl,hf⟩)
  ·cases h0
 ·cases h0;exact .inr (.inr ⟨rfl,rfl⟩)
 ·cases h0
def L4 {h:List Y0}{o z:Nat}{es:List (List PV)}(hd:bf h o=some (z,es)):L.view h (.arr o)=some (.lst es):=by
 unfold bf at hd
 split at hd
 ·rename_i ho
  split at hd
  ·cases hd;simp[L.view,ho]
  ·cases hd
 ·rename_i ho;cases hd;simp[L.view,ho]
 ·cases hd
def Oo {h:List Y0}{o z:Nat}{es:List (List PV)}(hd:bf h o=some (z,es)):L.bG h (.arr o)=true:=by
 unfold bf at hd
 split at hd
 ·rename_i ho
  split at hd
  ·rename_i hb;cases hd;simp[L.bG,ho,hb]
  ·cases hd
 ·rename_i ho;cases hd;simp[L.bG,ho]
 ·cases hd
def HR.cI {h:List Y0}{z:Nat}{es:List (List PV)}{κ:Nat->List Nat}(k:HR M0 base w J (h++[.arr z es]))(d:Deep κ base w J (h++[.bA z es])/\ Zon κ M0 w (h++[.bA z es])):
 HR M0 base w J (h++[.bA z es])/\ Ch (Mu M0 J (h++[.arr z es])) (Mu M0 J (h++[.bA z es])) w w J J (h++[.arr z es]) (h++[.bA z es]):=by
 have ho:(h++[Y0.arr z es])[h.length]? =some (.arr z es):=by simp
 obtain⟨r,hr⟩:=k.mem ho
 have b8:(h++[Y0.arr z es]).set h.length (.bA z es)=h++[.bA z es]:=by simp
 obtain⟨g1,g2⟩:=k.toHR0.c0 (w':=w) (ob':= .bA z es) ho hr rfl ⟨rfl,rfl⟩ rfl (fun _ _=>rfl) (fun b cur _ hr=>⟨cur,hr,rfl⟩) (fun c=>by
  obtain⟨hz,aj,kx⟩:=k.objs _ _ r ho hr
  refine⟨hz,aj,?_⟩
  cases r with
  |none=>exact kx
  |some b=>
   obtain⟨a1,cur,cap,g1,g2,g3,g4,g5⟩:=kx
   exact⟨a1,cur,cap,g1,g2,g3,g4,fun i e j p he hp=>by
    obtain⟨v,hv,aC⟩:=g5 i e j p he hp
    exact⟨v,hv,aq.go c.go p v aC⟩⟩)
 rw[b8]at g1 g2
 exact⟨⟨g1,κ,d⟩,g2⟩
def Deep.append {κ:Nat->List Nat}{h h1:List Y0}(k:HR0 M0 base w J h)(k1:HR0 M0 base w J h1)(d:Deep κ base w J h){xo yo:Option Nat}{r0 r':Option Nat}{z:Nat}{es ys:List (List PV)}{news:List Value}{w':World}{N:Nat}
 (hlen:h1.length=N) (stay:∀(i:Nat)(x:Y0),(match xo with|some o=>h1.set o .dead|none=>h1)[i]? =some x->x.mut=true->h[i]? =some x/\ h1[i]? =some x/\ xo≠some i/\ yo≠some i)
 (hx:∀o,xo=some o->J[o]? =some r0/\ ∃ob,h1[o]? =some ob/\ ob.mut=true) (cg:xo=none->r0=none) (hρ:J.length=N)
 (hz:0<z) (aj:∀e∈es,e.length=z) (b3:∀e∈ys,e.length=z)
 (hold:∀b,r0=some b->∃o,xo=some o/\ κ b=[o]/\ rU κ base w z es [o] b) (bS:r0=none->es=[])
 (av:∀(i:Nat)(e:List PV)(j:Nat)(p:PV),ys[i]? =some e->e[j]? =some p->∃v,news[i*z+j]? =some v/\ ((∃o,yo=some o/\ eP κ base w p ([o]++[i*z+j]) v) \/∀κ' π w',eP κ' base w' p π v))
 (aL:∀o,xo=some o->yo≠some o)
 (aw:∀b',r'=some b'->(r0=some b' \/w.heap.size<=b')/\ (∀c,c<es.length*z->∀b0,r0=some b0->w'.cell? ⟨b',c,none⟩=w.cell? ⟨b0,c,none⟩)/\
  (∀(c:Nat)v,news[c]? =some v->w'.cell? ⟨b',es.length*z+c,none⟩=some v)) (ae:∀b,b<w.heap.size->r0≠some b->w'.heap[b]? =w.heap[b]?) (nz:Zon κ M0 w h) (aI:w.heap.size<=w'.heap.size) (bU:∀b,r'=some b->b<w'.heap.size):
 ∃κ',Deep κ' base w' (J++[r']) ((match xo with|some o=>h1.set o .dead|none=>h1)++[.bA z (es++ys)])/\ Zon κ' M0 w' ((match xo with|some o=>h1.set o .dead|none=>h1)++[.bA z (es++ys)]):=by
 have a2:(match xo with|some o=>h1.set o .dead|none=>h1).length=N:=by
  cases xo<;>simp[hlen]
 generalize hH:(match xo with|some o=>h1.set o .dead|none=>h1)=H at stay a2⊢
 have ak:∀{b:Nat}{i c:Nat}{X:List Nat},b<w.heap.size->κ b=i::c::X->r0≠some b/\ r'≠some b:=by
  intro b i c X hb e
  have h0:r0≠some b:=fun e0=>by
   obtain⟨o,_,e1,_⟩:=hold b e0
   rw[e]at e1;cases e1
  refine⟨h0,fun e0=> ?_⟩
  rcases(aw b e0).1 with h1|h1
  ·exact h0 h1
  ·omega
 refine⟨fun b=>if r'=some b then [N]else QP xo yo N (es.length*z) (κ b),⟨fun i x b hi hm a8=> ?_,fun i x z1 aE b hi hd a8=> ?_⟩,fun b hb=> ?_,fun b i c X z1 aE e hi=> ?_⟩
 ·by_cases aM:i<N
  ·rw[Ze (by omega)]at hi
   rw[Ze (by omega)]at a8
   obtain⟨g1,g2,g3,g4⟩:=stay i x hi hm
   have hb:=(k.objs i x _ g1 a8).lt (Y0.bE hm)
   have hr:r'≠some b:=fun e=>by
    rcases(aw b e).1 with h2|h2
    ·obtain⟨o,e1,_,_⟩:=hold b h2
     obtain⟨e3,ob,e4,e5⟩:=hx o e1
     have:=k1.apart i o x ob b g2 e4 hm e5 a8 (by rw[e3,h2])
     subst this
     exact g3 e1
    ·omega
   rw[if_neg hr,d.root i x b g1 hm a8]
   simp only[QP,g3,g4,if_false]
  ·have h1:=(Zb.1 hi).1
   simp[a2]at h1
   obtain rfl:i=N:=by omega
   rw[<-hρ]at a8
   simp at a8
   exact if_pos a8
 ·by_cases aM:i<N
  ·rw[Ze (by omega)]at hi
   rw[Ze (by omega)]at a8
   have hm:=Y0.bP hd
   obtain⟨g1,g2,g3,g4⟩:=stay i x hi hm
   have hb:=(k.objs i x _ g1 a8).lt (Y0.bE hm)
   have a6:r0≠some b:=fun h2=>by
    obtain⟨o,e1,_,_⟩:=hold b h2
    obtain⟨e3,ob,e4,e5⟩:=hx o e1
    have:=k1.apart i o x ob b g2 e4 hm e5 a8 (by rw[e3,h2])
    subst this
    exact g3 e1
   exact(d.tree i x z1 aE b g1 hd a8).go (Zn _) (fun o _=>by unfold World.cell?;rw[ae b hb a6]) ((k.objs i x _ g1 a8).rows hd).2 (fun c b2 X ax e=>by
    obtain⟨q1,q2⟩:=ak ax e
    refine⟨?_,ae b2 ax q1⟩
    rw[if_neg q2,e]
    simp only[Zg,Zi,QP,g3,g4,if_false])
  ·have h1:=(Zb.1 hi).1
   simp[a2]at h1
   obtain rfl:i=N:=by omega
   rw[<-hρ]at a8
   simp at a8
   have b4:x= .bA z (es++ys):=by
    have:(H++[Y0.bA z (es++ys)])[H.length]? =some (.bA z (es++ys)):=by simp
    rw[a2,hi]at this
    cases this;rfl
   subst b4
   cases hd
   obtain⟨c1,c2,c3⟩:=aw b a8
   intro i1 e1 j1 p1 he1 ba
   by_cases hi1:i1<es.length
   ·rw[Ze hi1]at he1
    have au:=(Zb.1 ba).1
    rw[aj e1 (Zl he1)]at au
    have hc:i1*z+j1<es.length*z:=by
     calc i1*z+j1<i1*z+z:=by omega
      _=(i1+1)*z:=by rw[Nat.add_mul,D']
      _<=es.length*z:=ZH _ hi1
    cases a6:r0 with
    |none=>rw[bS a6]at hi1;cases hi1
    |some b0=>
     obtain⟨o,ex,ek,bV⟩:=hold b0 a6
     obtain⟨v,hv,ht⟩:=bV i1 e1 j1 p1 he1 ba
     refine⟨v,(c2 _ hc b0 a6).trans hv,eP.go (Zn _) p1 _ _ v (fun b2 X ax e=> ?_) ht⟩
     obtain⟨q1,q2⟩:=ak ax e
     refine⟨?_,ae b2 ax q1⟩
     rw[if_neg q2,e]
     simp only[Zg,Zi,QP,ex,if_true,hρ]
   ·rw[Zk (by omega)]at he1
    obtain⟨v,hv,aN⟩:=av _ e1 j1 p1 he1 ba
    have aO:i1*z+j1=es.length*z+((i1-es.length)*z+j1):=by
     have:i1=es.length+(i1-es.length):=by omega
     rw[this,Nat.add_mul];simp;omega
    refine⟨v,by rw[aO];exact c3 _ v hv,?_⟩
    rcases aN with⟨o,ey,ht⟩|ht
    ·refine eP.go (Zn _) p1 _ _ v (fun b2 X ax e=> ?_) ht
     obtain⟨q1,q2⟩:=ak ax e
     refine⟨?_,ae b2 ax q1⟩
     have bW:xo≠some o:=fun ex=>aL o ex ey
     rw[if_neg q2,e]
     simp only[Zg,Zi,QP,bW,ey,if_false,if_true,hρ,aO]
    ·exact ht _ _ _
 ·rw[if_neg fun e=>by have:=bU b e;omega,nz.new b (by omega)]
  rfl
 ·split at e
  ·cases e
  ·have aM:i<N:=by
    have h1:=(Zb.1 hi).1
    simp[a2]at h1
    by_cases hN:i=N
    ·subst hN
     rw[<-a2]at hi
     simp at hi
    ·omega
   rw[Ze (by omega)]at hi
   obtain⟨g1,g2,g3,g4⟩:=stay i _ hi rfl
   cases hk:κ b with
   |nil=>rw[hk]at e;cases e
   |cons x τ0=>
    rw[hk]at e
    simp only[QP]at e
    split at e
    ·cases e;omega
    ·split at e
     ·cases τ0 with
      |nil=>cases e
      |cons c0 τ1=>cases e;omega
     ·cases e
      exact nz.zone b i c X z1 aE hk g1
def Jd {M:Nat->Prop}{w':World}{κ:Nat->List Nat}{lo:Nat}{π:List Nat}{p:PV}{v:Value}(hb:p.flat=true)(r:aq M w p v):eP κ lo w' p π v:=by
 cases p with
 |lst es=>cases hb
 |_=>simpa only[eP,aq]using r
def My {es:List (List PV)}(h:nY es=true){i j:Nat}{e:List PV}{p:PV}(he:es[i]? =some e)(hp:e[j]? =some p):p.flat=true:=by
 simp only[nY,Zt]at h
 exact h e (Zl he) p (Zl hp)
def HR.flatten {h:List Y0}(k:HR M0 base w J h){o z:Nat}{es:List (List PV)}(ho:h[o]? =some (.bA z es)):
 HR M0 base w J (h.set o (.arr z es))/\ Ch (Mu M0 J h) (Mu M0 J (h.set o (.arr z es))) w w J J h (h.set o (.arr z es)):=by
 obtain⟨r,hr⟩:=k.mem ho
 exact k.c0 (ob':= .arr z es) ho hr rfl ⟨rfl,rfl⟩ rfl (fun _ _=>rfl) (fun b cur _ hr=>⟨cur,hr,rfl⟩) (fun c=>by
  obtain⟨hz,aj,kx⟩:=k.objs _ _ r ho hr
  refine⟨hz,aj,?_⟩
  cases r with
  |none=>exact kx
  |some b=>
   obtain⟨a1,cur,cap,g1,g2,g3,g4,g5⟩:=kx
   exact⟨a1,cur,cap,g1,g2,g3,g4,fun i e j p he hp=>by
    obtain⟨v,hv,aC⟩:=g5 i e j p he hp
    exact⟨v,hv,aq.go c.go p v aC⟩⟩)
def HR.cJ {h:List Y0}(k:HR M0 base w J h){o z:Nat}{es:List (List PV)}{ob:Y0}(ho:h[o]? =some ob)(hd:ob.br z es):
 ∃h2,h2[o]? =some (.arr z es)/\ h2.length=h.length/\ (∀x,h2.set o x=h.set o x)/\ HR M0 base w J h2/\ Ch (Mu M0 J h) (Mu M0 J h2) w w J J h h2:=by
 rcases hd with rfl|rfl
 ·exact⟨h,ho,rfl,fun _=>rfl,k,Ch.refl _ _ _ _⟩
 ·obtain⟨g1,g2⟩:=k.flatten ho
  exact⟨_,Zd (Zb.1 ho).1,by simp,fun x=>by simp,g1,g2⟩
def JG (s:SR Γ M0 base Z a w J){o:Oper}{t e:TypeId}{i:TypeInfo}{v0:Value}{ox oy:Operand}{x y:Opd}(hu:P.underlying t=some (.slice e))(hi:P.info? e=some i)(b5:i.zero=some v0)(b6:v0.cells.size=i.size)
 (ap:∀{r:Value}{w':World},(Builtin.append_ #[t,t] o.type #[a.eval ox,a.eval oy]).run P w= .ok r w'->(execOp a.eval o).run P w= .ok (.value r) w') (hx:ie ox=some x) (hy:ie oy=some y)
 {sc:Option (Nat×List (List PV))} {ys:List (List PV)} (bb:fm Z.h i.size (x.ev Z)=some sc) (b3:nq Z.h i.size sc (y.ev Z)=some ys) (aP:∀e∈ys,e.length=i.size) (aF:0<i.size)
 (a5:((ai sc).length+ys.length)*i.bytes<=140737488355328) (b7:(ai sc).length+ys.length<=9223372036854775807):
 kO P M0 base Z w J (.one (.arr Z.h.length)) (aA sc (freezeLs Z.h (y.ev Z).cells)++[.bA i.size (ai sc++ys)]) (execOp a.eval o):=by
 obtain⟨κ,d,nz⟩:=s.hr.deep
 obtain⟨k1,c1⟩:=s.hr.freezeLs (y.ev Z).cells
 have s1:SR Γ M0 base ⟨Z.t,freezeLs Z.h (y.ev Z).cells⟩ a w J:=⟨k1,s.fr.ch c1,s.inv,s.b0⟩
 have ry:=(aD s hy).ch c1
 have rx:=(aD s hx).ch c1
 obtain⟨yo,y1,y2,y3,y4⟩:∃yo:Option Nat,asList Z.h (y.ev Z)=some ys/\ (∀o,yo=some o->y.ev Z= .one (.arr o)/\ bf Z.h o=some (i.size,ys)/\ ct sc o=true)/\ (yo=none->nY ys=true)/\ ∀o,L.arr o∈(y.ev Z).cells->yo=some o:=by
  rcases Uu b3 with⟨o,e1,e2,e3⟩|⟨e1,e2⟩|⟨e1,rfl⟩
  ·refine⟨some o,?_,fun o' e=> ?_,nofun,fun o' h=> ?_⟩
   ·rw[e1];simp only[asList,L4 e2]
   ·cases e;exact⟨e1,e2,e3⟩
   ·rw[e1]at h;simp[V.cells]at h;rw[h]
  ·exact⟨none,by rw[e1];simp[asList,L.view],nofun,fun _=>e2,fun o' h=>by rw[e1]at h;simp[V.cells]at h⟩
  ·exact⟨none,by rw[e1];simp[asList,L.view],nofun,fun _=>rfl,fun o' h=>by rw[e1]at h;simp[V.cells]at h⟩
 have bc:asList (freezeLs Z.h (y.ev Z).cells) (y.ev Z)=some ys:=by
  have e0:∀v:V,asList (freezeLs Z.h (y.ev Z).cells) v=asList Z.h v:=fun v=>by
   cases v with
   |one l=>simp only[asList,iS]
   |_=>rfl
  rw[e0];exact y1
 obtain⟨ad,cc,news,ey,bD,al,ay,an,aQ⟩:=src (P:=P) s1 ry bc aP aF
 have hlen:(freezeLs Z.h (y.ev Z).cells).length=Z.h.length:=nZ _
 have af:∀(i:Nat)(x:Y0),(freezeLs Z.h (y.ev Z).cells)[i]? =some x->x.mut=true->Z.h[i]? =some x/\ yo≠some i:=fun i x hx hm=>by
  refine⟨lC _ hx hm,fun e=> ?_⟩
  obtain⟨e1,e2,_⟩:=y2 i e
  refine xG (fun o ho=> ?_) hx hm (qk.2 (by rw[e1];simp[V.cells]))
  obtain⟨_,e4,_⟩:=y2 o (y4 o ho)
  exact Oo e4
 have av:∀(i':Nat)(e:List PV)(j:Nat)(p:PV),ys[i']? =some e->e[j]? =some p->∃v,news[i'*i.size+j]? =some v/\ ((∃o,yo=some o/\ eP κ base w p ([o]++[i'*i.size+j]) v) \/∀κ' π w',eP κ' base w' p π v):=by
  intro i' e j p he hp
  obtain⟨v,hv,aC⟩:=an i' e j p he hp
  refine⟨v,hv,?_⟩
  cases bJ:yo with
  |none=>exact .inr fun κ' π w'=>Jd (My (y3 bJ) he hp) aC
  |some o=>
   refine .inl ⟨o,rfl,?_⟩
   obtain⟨e1,e2,e3⟩:=y2 o bJ
   have bN:=aD s hy
   rw[e1]at bN
   obtain⟨r,ob,hr,ag,hs⟩:=bN
   obtain⟨ob',aa,hD,_,k0,hc⟩:=iI s.hr.toHR0 d e2 hr
   rw[aa]at ag;cases ag
   have bd:ou w (.arr i.size ys) r (a.eval oy):=by rcases hD with rfl|rfl<;>exact hs
   cases r with
   |none=>
    obtain⟨_,_,k0⟩:=k0
    obtain rfl:ys=[]:=k0
    simp at he
   |some b=>
    obtain⟨cur,cap,ah,_,_,_,ev⟩:=bd
    obtain⟨v',bY,ht⟩:=(hc b rfl).2 i' e j p he hp
    have:=aQ _ v hv b 0 cap ev
    rw[ZO,bY]at this
    cases this
    exact ht
 have az:∀{w':World}{r':Option Nat}{h0:List Y0}{bg:List (List PV)},HR M0 base w' (J++[r']) (h0++[.arr i.size bg])->∀b,r'=some b->b<w'.heap.size:=fun{w' r' h0 bg}k b e=>by
  have hl:J.length=h0.length:=by have:=k.len;simpa using this
  exact(k.objs h0.length (.arr i.size bg) (some b) (by simp) (by rw[<-hl,<-e];simp)).lt (by simp)
 have bO:P.underlying t=some .string \/∃e',P.underlying t=some (.slice e'):= .inr ⟨e,hu⟩
 have ao:∀w,(Builtin.lenOf (a.eval oy)).run P w= .ok ys.length w:=by intro w;rw[ey];rfl
 rcases Jo bb with⟨ex,rfl⟩|⟨ob,es,ex,rfl,bZ⟩
 ·
  rw[ex]at rx
  obtain⟨n,u,w',J',g1,g2,g3,g4,g5,g6,r',rfl,g7,g8⟩:=append_nil s1 hu bO hi b5 b6 ap ao aP aF bD al ay an rx (by simpa[ai]using a5) (by simpa[ai]using b7)
  obtain⟨κ',d'⟩:=Deep.append (w':=w') (r':=r') s.hr.toHR0 k1.toHR0 d (xo:=none) (yo:=yo) (r0:=none) (es:=[]) hlen (fun i x hx hm=>⟨(af i x hx hm).1,hx,nofun,(af i x hx hm).2⟩) nofun (fun _=>rfl) s.hr.len aF (fun _ h=>by cases h) aP nofun (fun _=>rfl) av nofun (fun b' e=>by simpa using g7 b' e) g8 nz g5.go.size (az g4)
  obtain⟨q1,q2⟩:=g4.cI d'
  refine⟨n,u,w',_,g1,g2,g3,q1,c1.trans (g5.trans q2),?_⟩
  have:=g6.ch q2
  rw[show(St.mk Z.t (freezeLs Z.h (y.ev Z).cells)).h.length=Z.h.length from hlen]at this
  exact this
 ·rw[ex]at rx
  have c4:(y.ev Z).cells.all (L.bC ob)=true:=by
   rw[Zt]
   intro l hl
   cases l with
   |arr o'=>
    obtain⟨_,_,e3⟩:=y2 o' (y4 o' hl)
    simp only[ct,ZJ,beq_eq_false_iff_ne]at e3
    simp only[L.bC,ZJ,beq_eq_false_iff_ne]
    exact fun e=>e3 e.symm
   |_=>rfl
  obtain⟨r0,a6⟩:∃r0,J[ob]? =some r0:=by
   obtain⟨r,ob',hr,_⟩:=rx
   exact⟨r,hr⟩
  obtain⟨obj,bh,hD,hm,k0,aR⟩:=iI s.hr.toHR0 d bZ a6
  have ar:=qR (y.ev Z).cells c4 bh
  obtain⟨h2,e1,e2,e3,k2,c2⟩:=k1.cJ ar hD
  have s2:SR Γ M0 base ⟨Z.t,h2⟩ a w J:=⟨k2,s1.fr.ch c2,s.inv,s.b0⟩
  obtain⟨n,u,w',J',g1,g2,g3,g4,g5,g6,r1,bQ,r',rfl,g7,g8⟩:=xY s2 hu bO hi b5 b6 ap ao aP aF bD al ay (fun i' e j p he hp=>by
   obtain⟨v,hv,aC⟩:=an i' e j p he hp
   exact⟨v,hv,aq.go c2.go p v aC⟩) e1 (rx.ch c2) a5 b7
  rw[a6]at bQ;cases bQ
  rw[show(St.mk Z.t h2).h.set ob .dead=(freezeLs Z.h (y.ev Z).cells).set ob .dead from e3 _]at g4 g5 g6
  rw[show(St.mk Z.t h2).h.length=Z.h.length from e2.trans hlen]at g6
  obtain⟨κ',d'⟩:=Deep.append (w':=w') (r':=r') s.hr.toHR0 k1.toHR0 d (xo:=some ob) (yo:=yo) (r0:=r0) (es:=es) hlen (fun i x hx bj=>by
   by_cases hi:ob=i
   ·subst hi
    rw[Zd (by have:=(Zb.1 ar).1;exact this)]at hx
    cases hx;cases bj
   ·simp only[Za hi]at hx
    exact⟨(af i x hx bj).1,hx,fun e=>hi (by cases e;rfl),(af i x hx bj).2⟩) (fun o e=>by cases e;exact⟨a6,obj,ar,hm⟩) nofun s.hr.len aF k0.2.1 aP (fun b e=>⟨ob,rfl,aR b e⟩) (fun e=>by subst e;exact k0.2.2) av (fun o e e'=>by
   cases e
   obtain⟨_,_,e3⟩:=y2 _ e'
   simp[ct]at e3) (fun b' e=>g7 b' e) g8 nz g5.go.size (az g4)
  obtain⟨q1,q2⟩:=g4.cI d'
  exact⟨n,u,w',_,g1,g2,g3,q1,c1.trans (c2.trans (g5.trans q2)),g6.ch q2⟩
def HO (s:SR Γ M0 base Z a w J){o:Oper}{dm:Md}{v:V}{h':List Y0}{call:Nat->List V->Option V}{c:Call}{z bytes:Nat}{x y:Opd}(aB:o.op= .call c)
 (hc:fX P kf dm o.op=some (.append z bytes x y)) (he:cz call Z (.bI z bytes x y)=some (v,h')):kO P M0 base Z w J v h' (execOp a.eval o):=by
 rw[aB]at hc;simp only[fX]at hc
 split at hc
 ·split at hc
  ·(repeat' (split at hc))<;>cases hc
  ·cases hc
 ·(repeat' (split at hc))<;>cases hc
 ·split at hc
  ·(repeat' (split at hc))<;>cases hc
  ·cases hc
 ·rename_i bk
  split at hc
  ·rename_i ox oy t u aS bl
   split at hc
   ·rename_i e e' x0 y0 ht _ hx hy
    split at hc
    ·rename_i z0 b0 v0 aI bm hz
     split at hc
     ·rename_i aT
      obtain⟨b6,rfl⟩:=aT
      cases hc
      obtain⟨i,hi,b5,bd,aw⟩:∃i,P.info? e=some i/\ i.zero=some v0/\ i.size=z/\ i.bytes=bytes:=by
       unfold oA at hz;unfold rS at aI;unfold Oh at bm
       cases hi:P.info? e with
       |none=>simp[hi]at hz
       |some i=>simp[hi]at hz aI bm;exact⟨i,rfl,hz,aI,bm⟩
      subst bd aw
      have hu:P.underlying t=some (.slice e):=by
       unfold jh at ht
       split at ht<;>cases ht
       assumption
      have ap:∀{r:Value}{w':World},(Builtin.append_ #[t,t] o.type #[a.eval ox,a.eval oy]).run P w= .ok r w'->(execOp a.eval o).run P w= .ok (.value r) w':=by
       intro r w' hr
       have e2:c.args.map a.eval= #[a.eval ox,a.eval oy]:=Array.ext' (by rw[ZZ,aS];rfl)
       have e3:c.argTypes= #[t,t]:=Array.ext' bl
       simp only[execOp,aB,resolve,bk,Sem.run_bind,Sem.run_pure,Result.andThen_ok,invoke,e3,e2,builtin,hr]
      simp only[cz]at he
      split at he
      ·cases he
      ·rename_i sc c5
       split at he
       ·cases he
       ·rename_i ys b3
        split at he
        ·rename_i bn
         obtain⟨bo,aF,a5,b7⟩:=bn
         cases he
         exact JG s hu hi b5 b6 ap hx hy c5 b3 (by simpa using bo) aF a5 b7
        ·cases he
     ·cases hc
    ·cases hc
   ·(repeat' (split at hc))<;>cases hc
   ·cases hc
  ·cases hc
 ·split at hc
  ·(repeat' (split at hc))<;>cases hc
  ·cases hc
 ·split at hc
  ·(repeat' (split at hc))<;>cases hc
  ·cases hc
 ·cases hc
end
end Gi
namespace Gi
open Go Go.RowKit
variable {KI:KF}
def Y0.cF (ob:Y0):ob.bX.mut=ob.mut:=by cases ob<;>rfl
def Y0.cU (ob:Y0):ob.bX.deep=ob.deep:=by cases ob<;>rfl
def n6 {h:List Y0}{i:Nat}{x:Y0}(e:(lent h)[i]? =some x):∃ob,h[i]? =some ob/\ x=ob.bX:=by
 simp only[lent,Zp,Zj]at e
 obtain⟨ob,h1,rfl⟩:=e
 exact⟨ob,h1,rfl⟩
def wT {h:List Y0}{i:Nat}{ob:Y0}(e:h[i]? =some ob):(lent h)[i]? =some ob.bX:=by simp[lent,e]
section
variable {Γ:Ctx}{P:Program}{M0:Nat->Prop}{base:Nat}{Z:St}{a:Act}{w:World}{J:List (Option Nat)}{h:List Y0}
mutual
def eP.reads {κ:Nat->List Nat}{lo:Nat}{M:Nat->Prop}:∀(p:PV)(π:List Nat)(v:Value),(∀b X,lo<=b->κ b=π++X->¬M b)->eP κ lo w p π v->aq M w p v
 | .int _ _,_,_,_,r=>by simpa only[eP,aq]using r
 | .bool _,_,_,_,r=>by simpa only[eP,aq]using r
 | .str _,_,_,_,r=>by simpa only[eP,aq]using r
 | .lst es,π,v,hm,r=>by
  simp only[eP]at r
  simp only[aq]
  rcases r with r|⟨b,c,z,cur,e,hb,hk,hz,hr,h1,h2,h3,ht⟩
  ·exact .inl r
  ·exact .inr ⟨b,0,c,z,e,hm b [] hb (by simp[hk]),hr.lt,eD.reads z es π b 0 hm ht,h2⟩
def gx.reads {κ:Nat->List Nat}{lo:Nat}{M:Nat->Prop}:∀(ps:List PV)(π:List Nat)(b o:Nat),(∀b X,lo<=b->κ b=π++X->¬M b)->gx κ lo w ps π b o->ew M w ps b o
 |[],_,_,_,_,_=>by simp only[ew]
 |p::ps,π,b,o,hm,r=>by
  simp only[gx]at r
  simp only[ew]
  obtain⟨⟨v,hv,hp⟩,r⟩:=r
  exact⟨⟨v,hv,eP.reads p _ v (fun b X hl e=>hm b (o::X) hl (by rw[e];simp)) hp⟩,gx.reads ps π b (o+1) hm r⟩
def eD.reads {κ:Nat->List Nat}{lo:Nat}{M:Nat->Prop}(z:Nat):∀(es:List (List PV))(π:List Nat)(b o:Nat),(∀b X,lo<=b->κ b=π++X->¬M b)->eD κ lo w z es π b o->di M w z es b o
 |[],_,_,_,_,_=>by simp only[di]
 |e::es,π,b,o,hm,r=>by
  simp only[eD]at r
  simp only[di]
  exact⟨r.1,gx.reads e π b o hm r.2.1,eD.reads z es π b (o+z) hm r.2.2⟩
end
def Mu.bX {b:Nat}(hm:Mu (fun _=>False) J (lent h) b):∃(o:Nat)(ob:Y0),h[o]? =some ob/\ ob.mut=true/\ J[o]? =some (some b):=by
 rcases hm with hm|⟨o,x,hx,c7,hr⟩
 ·exact hm.elim
 ·obtain⟨ob,h1,rfl⟩:=n6 hx
  exact⟨o,ob,h1,by rw[<-Y0.cF];exact c7,hr⟩
def Mu.cT {b:Nat}(hm:Mu (fun _=>False) J (lent h) b):Mu M0 J h b:= .inr (Mu.bX hm)
def LR.bX {l:L}{v:Value}(r:LR (Mu M0 J h) w J h l v):LR (Mu (fun _=>False) J (lent h)) w J (lent h) l.bK v:=by
 have mu:∀b,Mu (fun _=>False) J (lent h) b->Mu M0 J h b:=fun b hm=>Mu.cT hm
 cases l with
 |pv p=>exact aq.weak mu r
 |ptr o i j=>
  obtain⟨q,ob,h1,h2,h3⟩:=r
  refine⟨q,_,h1,wT h2,?_⟩
  cases ob<;>exact h3
 |ip e j=>obtain⟨b,o,rfl,hb,aM,hr⟩:=r;exact⟨b,o,rfl,fun k=>hb (mu b k),aM,ew.go ⟨Zn _,fun b _=>mu b,fun _ _ _=>rfl⟩ e b o hb aM hr⟩
 |arr o=>
  obtain⟨q,ob,h1,h2,h3⟩:=r
  refine⟨q,_,h1,wT h2,?_⟩
  cases ob<;>exact h3
 |nil=>exact r
 |own z es=>exact r
 |down z es=>exact r
 |fn k caps=>
  obtain⟨f,cs,rfl,hk,hn,hc⟩:=r
  exact⟨f,cs,rfl,hk,hn,fun i e u he hu=>(hc i e u he hu).go ⟨Zn _,fun b _=>mu b,fun _ _ _=>rfl⟩⟩
 |tp n=>
  obtain⟨o,b,h1,h2,rfl⟩:=r
  exact⟨o,b,h1,wT h2,rfl⟩
 |sub o c=>exact r.1
 |c6 o l r'=>
  obtain⟨h1,q,ob,e1,e2,e3,e4⟩:=r
  exact⟨h1,q,_,e1,wT e2,by cases ob<;>simp_all[Y0.bX],fun hq=>by cases ob<;>first|exact e4 rfl|cases hq⟩
 |bs=>exact r
def HR.bX (k:HR M0 base w J h):HR (fun _=>False) base w J (lent h):=by
 obtain⟨κ,d,n⟩:=k.deep
 have mu:∀b,Mu (fun _=>False) J (lent h) b->Mu M0 J h b:=fun b hm=>Mu.cT hm
 refine⟨⟨by simp[lent,k.len],fun b hb=>hb.elim,k.le,fun o x r ho hr=> ?_,fun o o' x x' b h1 h2 m1 m2 r1 r2=> ?_⟩,κ,⟨fun o x b ho hm hr=> ?_,fun o x z es b ho hd hr=> ?_⟩,n.new,fun b o c X z es e ho=> ?_⟩
 ·obtain⟨ob,h1,rfl⟩:=n6 ho
  have kx:=k.objs o ob r h1 hr
  have c:Ch (Mu M0 J h) (Mu (fun _=>False) J (lent h)) w w J J h h:=⟨⟨Zn _,fun b _=>mu b,fun _ _ _=>rfl⟩,fun _ cur r=>⟨cur,r,rfl⟩,fun _ _ ob hr ho _=>⟨ob,hr,ho,sI.refl ob⟩,fun _ _ _ _ _ _ _ _ _ h=>h⟩
  have keep:∀x:Y0,xX (Mu M0 J h) base w J h r x->(∀cs,x≠ .box cs)->xX (Mu (fun _=>False) J (lent h)) base w J (lent h) r x:=fun x kx hx=>by
   have:=kx.keep c (fun _ _ _=>rfl)
   cases x<;>first|exact this|exact absurd rfl (hx _)
  cases ob with
  |bB z es=>
   obtain⟨hz,aj,kx⟩:=kx
   refine⟨hz,aj,?_⟩
   cases r with
   |none=>exact kx
   |some b=>
    obtain⟨g0,cur,cap,g1,g2,g3,g4⟩:=kx
    refine⟨g0,cur,cap,g1,g2,g3,g4,fun i e j p he hp=> ?_⟩
    obtain⟨v,hv,ht⟩:=d.tree o _ z es b h1 rfl hr i e j p he hp
    refine⟨v,by rw[<-g1.cell];exact hv,eP.reads p _ v (fun b' X _ e' hm=> ?_) ht⟩
    obtain⟨o',ob',q1,q2,q3⟩:=Mu.bX hm
    rw[d.root o' ob' b' q1 q2 q3]at e'
    simp at e'
  |box cs=>
   obtain⟨b,cur,rfl,g0,g1,aK⟩:=kx
   refine⟨b,cur,rfl,g0,g1,by rw[Zr];exact aK.1,fun i l v hl hv=> ?_⟩
   simp only[Zp,Zj]at hl
   obtain⟨l0,h0,rfl⟩:=hl
   exact(aK.2 i l0 v h0 hv).bX
  |arr z es=>exact keep (.arr z es) kx (by simp)
  |bH z es=>exact keep (.bH z es) kx (by simp)
  |bA z es=>exact keep (.bA z es) kx (by simp)
  |bL ps=>exact keep (.bL ps) kx (by simp)
  |bT n=>exact keep (.bT n) kx (by simp)
  |res=>exact keep .res kx (by simp)
  |dead=>trivial
 ·obtain⟨ob,q1,rfl⟩:=n6 h1
  obtain⟨ob',q2,rfl⟩:=n6 h2
  rw[Y0.cF]at m1 m2
  exact k.apart o o' ob ob' b q1 q2 m1 m2 r1 r2
 ·obtain⟨ob,h1,rfl⟩:=n6 ho
  rw[Y0.cF]at hm
  exact d.root o ob b h1 hm hr
 ·obtain⟨ob,h1,rfl⟩:=n6 ho
  rw[Y0.cU]at hd
  exact d.tree o ob z es b h1 hd hr
 ·obtain⟨ob,h1,e1⟩:=n6 ho
  cases ob<;>cases e1
def V.bK :V->V
 | .one l=> .one l.bK
 | .agg ls=> .agg (ls.map L.bK)
 | .b9 xs=> .b9 (xs.map fun x=>(x.1,x.2.map L.bK))
def tg.bX {ls:List L}{vs:List Value}(r:tg (Mu M0 J h) w J h ls vs):tg (Mu (fun _=>False) J (lent h)) w J (lent h) (ls.map L.bK) vs:=
 ⟨by rw[Zr];exact r.1,fun i l v hl hv=>by
  simp only[Zp,Zj]at hl
  obtain⟨l0,h0,rfl⟩:=hl
  exact(r.2 i l0 v h0 hv).bX⟩
def VR.bX {v:V}{u:Value}(r:VR (Mu M0 J h) w J h v u):VR (Mu (fun _=>False) J (lent h)) w J (lent h) v.bK u:=by
 cases v with
 |one l=>exact LR.bX r
 |agg ls=>obtain⟨cs,rfl,hl⟩:=r;exact⟨cs,rfl,hl.bX⟩
 |b9 xs=>
  obtain⟨vs,rfl,hl,hr⟩:=r
  refine⟨vs,rfl,by rw[Zr];exact hl,fun i x u hx hu=> ?_⟩
  simp only[Zp,Zj]at hx
  obtain⟨x0,h0,rfl⟩:=hx
  have:=hr i x0 u h0 hu
  obtain⟨b,ls⟩:=x0
  cases b with
  |true=>obtain⟨cs,rfl,hl⟩:=this;exact⟨cs,rfl,hl.bX⟩
  |false=>
   match ls,this with
   |[l],this=>exact LR.bX this
def SR.bX (s:SR Γ M0 base Z a w J):SR Γ (fun _=>False) base ⟨Z.t.map V.bK,lent Z.h⟩ a w J:=
 ⟨s.hr.bX,⟨s.fr.defers,by rw[Zr];exact s.fr.size,fun i v u hv hu=>by
  simp only[Zp,Zj]at hv
  obtain⟨v0,h0,rfl⟩:=hv
  exact(s.fr.tmps i v0 u h0 hu).bX⟩,s.inv,s.b0⟩
def FC (x:Opd):x.ev ⟨Z.t.map V.bK,h⟩=(x.ev Z).bK:=by
 cases x with
 |tmp n=>
  simp only[Opd.ev,List.getD,Zp]
  cases Z.t[n]? <;>rfl
 |_=>rfl
def MM (v:V):isInt v.bK=isInt v:=by
 cases v with
 |one l=>cases l<;>rfl
 |_=>rfl
def JI (v:V):asList h v.bK=asList h v:=by
 cases v with
 |one l=>cases l<;>rfl
 |_=>rfl
def HZ (z:Nat)(v:V)(i:Nat):aJ h z v.bK i=aJ h z v i:=by
 cases v with
 |one l=>cases l<;>rfl
 |_=>rfl
def U0 {call:Nat->List V->Option V}(x:Opd):bG call Z (.bx x)=bG call ⟨Z.t.map V.bK,lent Z.h⟩ (.len x):=by
 simp only[bG,FC,JI]
def RG {call:Nat->List V->Option V}(z:Nat)(x i:Opd):bG call Z (.bM z x i)=bG call ⟨Z.t.map V.bK,lent Z.h⟩ (.bF z x i):=by
 simp only[bG,FC,MM,HZ]
def MR (s:SR Γ M0 base Z a w J){o:Oper}{dm:Md}{t:TypeId}{x:Operand}{y':Opd}(aB:o.op= .load t x)(hc:fX P kf dm o.op=some (.load false 1 y'))
 {ob i j z:Nat} {es:List (List PV)} {e:List PV} {l:List (List PV)} (bp:y'.ev Z= .one (.ptr ob i j)) (ag:Z.h[ob]? =some (.bB z es)) (hei:es[i]? =some e) (aU:e[j]? =some (.lst l)):
 ∃u,(execOp a.eval o).run P w= .ok (.value u) w/\ VR (Mu M0 J Z.h) w J Z.h (.one (.sub ob (i*z+j))) u:=by
 rw[aB]at hc;simp only[fX]at hc
 split at hc
 ·rename_i g n y h1 h2 h3
  split at hc
  ·cases hc
  ·cases hc
   have r:=aD s h3
   rw[bp]at r
   obtain⟨r0,ob',a6,aa,bq⟩:=r
   rw[ag]at aa;cases aa
   obtain⟨b,rfl,hu⟩:=bq
   obtain⟨κ,d,nz⟩:=s.hr.deep
   obtain⟨v,hv,ht⟩:=d.tree ob _ z es b ag rfl a6 i e j _ hei aU
   refine⟨v,?_,ht.one,b,z,es,a6,ag,⟨i,e,j,l,hei,aU,rfl⟩,hv⟩
   have h4:(loadVar t ⟨b,i*z+j,none⟩).run P w= .ok v w:=by
    have:(load ⟨b,i*z+j,none⟩).run P w= .ok v w:=by simp[load,Sem.run,hv]
    simp only[loadVar,Sem.run_bind,tF h1,Result.andThen_ok,Zy,if_false,this]
   simp only[Y0.z]at hu
   simp only[execOp,aB,hu,Instr.loadAt,Instr.sureAddr,Sem.run_bind,Sem.run_pure,Result.andThen_ok,h4]
 ·cases hc
def K2 (s:SR Γ M0 base Z a w J){o:Oper}{dm:Md}{t:TypeId}{x y:Operand}{x' y':Opd}(aB:o.op= .store t x y)(hc:fX P kf dm o.op=some (.store 1 x' y'))
 {ob i j z:Nat} {es:List (List PV)} {e:List PV} {p q:PV} (bp:x'.ev Z= .one (.ptr ob i j)) (ag:Z.h[ob]? =some (.bB z es)) (hei:es[i]? =some e) (c8:y'.ev Z= .one (.pv p)) (aU:e[j]? =some q) (hp:p.flat=true) (hq:q.flat=true):
 kO P M0 base Z w J (.b9 []) (Z.h.set ob (.bB z (es.set i (e.set j p)))) (execOp a.eval o):=by
 rw[aB]at hc;simp only[fX]at hc
 split at hc
 ·rename_i n1 x1 y1 hn hx hy
  cases hc
  have rx:=aD s hx
  have ry:=aD s hy
  rw[bp]at rx
  rw[c8]at ry
  obtain⟨r0,obj,a6,aa,bq⟩:=rx
  rw[ag]at aa;cases aa
  obtain⟨b,rfl,hu⟩:=bq
  simp only[Y0.z]at hu
  obtain⟨κ,d,nz⟩:=s.hr.deep
  obtain⟨hz,aj,a1,cur,cap,ah,h1,h2,h3⟩:=s.hr.objs ob _ (some b) ag a6
  have aK:=ry.cells (fun xs=>by simp)
  obtain⟨u,bt⟩:∃u,(a.eval y).cells.toList=[u]:=ZR.1 (by rw[<-aK.1];rfl)
  have c9:aq (Mu M0 J Z.h) w p u:=aK.2 0 _ u rfl (by rw[bt];rfl)
  have aI:(a.eval y).cells.size=1:=by
   have:=congrArg List.length bt
   simpa using this
  have ca:e.length=z:=aj e (Zl hei)
  have aV:i<es.length:=(Zb.1 hei).1
  have bu:j<e.length:=(Zb.1 aU).1
  have aW:i*z+j+1<=cur.size:=by
   rw[h1]
   calc i*z+j+1<=i*z+z:=by omega
    _=(i+1)*z:=by rw[Nat.add_mul,D']
    _<=cap*z:=ZH _ (by omega)
  have aX:=pq (P:=P) hn ah aI aW aK.cO
  rw[bt]at aX
  obtain⟨cur',a7,aY,aZ⟩:=eC b [u] (i*z+j) w cur ah (by simpa using aW)
  have ab:∀k,some b≠some k->(w.setCells b (i*z+j) [u]).heap[k]? =w.heap[k]? :=fun k hk=>dP b _ _ w k (fun e=>hk (by rw[e]))
  have cell:∀{i1 j1:Nat}{e1:List PV}{p1:PV},(es.set i (e.set j p))[i1]? =some e1->e1[j1]? =some p1->(p1=p/\ cur'[i1*z+j1]? =some u) \/(∃e0,es[i1]? =some e0/\ e0[j1]? =some p1/\ (i1=i->j1≠j)/\ cur'[i1*z+j1]? =cur[i1*z+j1]?):=by
   intro i1 j1 e1 p1 hi1 au
   rw[aZ]
   by_cases aG:i=i1
   ·subst aG
    rw[Zd aV]at hi1
    cases hi1
    by_cases bw:j=j1
    ·subst bw
     rw[Zd bu]at au
     cases au
     exact .inl ⟨rfl,by rw[if_pos (by simp)];simp⟩
    ·rw[Za bw]at au
     exact .inr ⟨e,hei,au,fun _ h=>bw h.symm,by rw[if_neg (by simp;omega)]⟩
   ·rw[Za aG]at hi1
    have aH:j1<z:=by rw[<-aj e1 (Zl hi1)];exact(Zb.1 au).1
    refine .inr ⟨e1,hi1,au,fun h=>absurd h.symm aG,?_⟩
    rw[if_neg]
    intro bz
    simp at bz
    exact aG (vD aH (by omega:j<z) (by omega)).1.symm
  have lst:∀{i1 j1:Nat}{e1:List PV}{l:List (List PV)},es[i1]? =some e1->e1[j1]? =some (.lst l)->¬(i1=i/\ j1=j):=by
   rintro i1 j1 e1 l h4 h5 ⟨rfl,rfl⟩
   rw[hei]at h4;cases h4
   rw[aU]at h5;cases h5
   cases hq
  obtain⟨g1,g2⟩:=s.hr.toHR0.c0 (w':=w.setCells b (i*z+j) [u]) (ob':= .bB z (es.set i (e.set j p))) ag a6 rfl ⟨rfl,by simp,fun c⟨i1,e1,j1,l,h4,h5,h6⟩=>by
   have aL:=lst h4 h5
   by_cases aG:i=i1
   ·subst aG
    rw[hei]at h4;cases h4
    exact⟨i,e.set j p,j1,l,Zd aV,by rw[Za fun h=>aL ⟨rfl,h.symm⟩];exact h5,h6⟩
   ·exact⟨i1,e1,j1,l,by rw[Za aG];exact h4,h5,h6⟩⟩ (dR b _ _ w).symm ab
   (fun k c e hr=>by cases e;rw[hr.inj ah];exact⟨cur',a7,aY⟩)
   (fun c=>⟨hz,fun e1 he1=>by
    rcases Q' he1 with hm|rfl
    ·exact aj e1 hm
    ·simpa using ca,a1,cur',cap,a7,by rw[aY];exact h1,by simpa using h2,h3⟩)
   (fun z1 aE b1 c v e0 eb⟨i1,e1,j1,l,h4,h5,h6⟩hv=>by
    cases e0;cases eb
    have aL:=lst h4 h5
    have aH:j1<z:=by rw[<-aj e1 (Zl h4)];exact(Zb.1 h5).1
    rw[a7.cell,aZ,if_neg]
    ·rw[<-ah.cell];exact hv
    ·intro bz
     simp at bz
     have:=vD aH (by omega:j<z) (by omega:i1*z+j1=i*z+j)
     exact aL this)
  refine⟨.skip,undef,_,J,?_, .inr ⟨rfl,rfl⟩,cS b base a1 _ _ w w (Below.refl _ _),⟨g1,κ,d.c0 s.hr.toHR0 ag a6 rfl ab (fun z1 aE b1 e0 eb=> ?_),fun b' aw=>nz.new b' (by rw[dR]at aw;exact aw),fun b' i' c X z1 aE e0 b4=> ?_⟩,g2,VR.undef⟩
  ·simp[execOp,aB,hu,aX]
  ·cases e0;cases eb
   have hκ:=d.root ob _ b ag rfl a6
   intro i1 e1 j1 p1 hi1 au
   rcases cell hi1 au with⟨rfl,hc⟩|⟨e2,cb,cd,_,hc⟩
   ·exact⟨u,by rw[a7.cell];exact hc,Jd hp c9⟩
   ·obtain⟨v,hv,ht⟩:=d.tree ob _ z es b ag rfl a6 i1 e2 j1 p1 cb cd
    refine⟨v,by rw[a7.cell,hc,<-ah.cell];exact hv,eP.go (Zn _) p1 _ _ v (fun b2 X _ e3=>⟨e3,ab b2 fun e4=> ?_⟩) ht⟩
    cases e4
    rw[hκ]at e3
    simp at e3
  ·by_cases bR:ob=i'
   ·subst bR
    exact nz.zone b' ob c X z es e0 ag
   ·rw[Za bR]at b4
    exact nz.zone b' i' c X z1 aE e0 b4
 ·cases hc
end
end Gi
