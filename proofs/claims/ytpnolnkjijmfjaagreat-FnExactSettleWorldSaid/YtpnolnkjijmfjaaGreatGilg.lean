/- Of this proof. -/
import Derived.Test.YtpnolnkjijmfjaaGreatGile
set_option linter.all false
namespace Gi
open Go Go.RowKit
variable {KI:KF}
section
variable {Γ:Ctx}{P:Program}{M0:Nat->Prop}{base:Nat}{Z:St}{a:Act}{w:World}{J:List (Option Nat)}
def VD (xo yo:Option Nat)(N m:Nat):List Nat->List Nat
 |[]=>[]
 |x::X=>if xo=some x then N::X else if yo=some x then(match X with
  |[]=>[]
  |c::X'=>N::(m+c)::X')else x::X
def ML {h:List Q0}{z:Nat}{x:V}{src:Option (Nat×List (List PV))}(h0:gZ h z x=some src):(x= .one .nil/\ src=none) \/∃o es,x= .one (.arr o)/\ src=some (o,es)/\ dg h o=some (z,es):=by unfold gZ at h0;split at h0;cases h0;exact .inl ⟨rfl,rfl⟩;rename_i o;split at h0;rename_i z' es hd;split at h0;rename_i e;subst e;cases h0;exact .inr ⟨o,es,rfl,rfl,hd⟩;cases h0;cases h0;cases h0
def acg {h:List Q0}{z:Nat}{src:Option (Nat×List (List PV))}{y:V}{ys:List (List PV)}(h0:nP h z src y=some ys):
 (∃o,y= .one (.arr o)/\ dg h o=some (z,ys)/\ eK src o=true) \/(y= .one (.pv (.lst ys))/\ qY ys=true) \/(y= .one .nil/\ ys=[]):=by unfold nP at h0;split at h0;rename_i o;split at h0;rename_i z' c4 hd;split at h0;rename_i e;obtain⟨rfl,e⟩:=e;cases h0;exact .inl ⟨o,rfl,hd,e⟩;cases h0;cases h0;split at h0;rename_i hf;cases h0;exact .inr (.inl ⟨rfl,hf⟩);cases h0;cases h0;exact .inr (.inr ⟨rfl,rfl⟩);cases h0
def PQ {h:List Q0}{o z:Nat}{es:List (List PV)}(hd:dg h o=some (z,es)):L.view h (.arr o)=some (.lst es):=by unfold dg at hd;split at hd;rename_i ho;split at hd;cases hd;simp[L.view,ho];cases hd;rename_i ho;cases hd;simp[L.view,ho];cases hd
def Tf {h:List Q0}{o z:Nat}{es:List (List PV)}(hd:dg h o=some (z,es)):L.bG h (.arr o)=true:=by unfold dg at hd;split at hd;rename_i ho;split at hd;rename_i hb;cases hd;simp[L.bG,ho,hb];cases hd;rename_i ho;cases hd;simp[L.bG,ho];cases hd
def HR.cP {h:List Q0}{z:Nat}{es:List (List PV)}{κ:Nat->List Nat}(k:HR M0 base w J (h++[.arr z es]))(d:Deep κ base w J (h++[.bA z es])/\ Zon κ M0 w (h++[.bA z es])):
 HR M0 base w J (h++[.bA z es])/\ Ch (Mu M0 J (h++[.arr z es])) (Mu M0 J (h++[.bA z es])) w w J J (h++[.arr z es]) (h++[.bA z es]):=by
 have ho:(h++[Q0.arr z es])[h.length]? =some (.arr z es):=by simp
 obtain⟨r,hr⟩:=k.mem ho;have aZ:(h++[Q0.arr z es]).set h.length (.bA z es)=h++[.bA z es]:=by simp
 obtain⟨g1,g2⟩:=k.toHR0.c6 (w':=w) (ob':= .bA z es) ho hr rfl ⟨rfl,rfl⟩ rfl (fun _ _=>rfl) (fun b cur _ hr=>⟨cur,hr,rfl⟩) (fun c=>by
  obtain⟨hz,ai,kx⟩:=k.objs _ _ r ho hr
  refine⟨hz,ai,?_⟩
  cases r with
  |none=>exact kx
  |some b=>
   obtain⟨a1,cur,cap,g1,g2,g3,g4,g5⟩:=kx
   exact⟨a1,cur,cap,g1,g2,g3,g4,fun i e j p he hp=>by
    obtain⟨v,hv,az⟩:=g5 i e j p he hp
    exact⟨v,hv,cG.go c.go p v az⟩⟩)
 rw[aZ]at g1 g2;exact⟨⟨g1,κ,d⟩,g2⟩
def Deep.append {κ:Nat->List Nat}{h h1:List Q0}(k:HR0 M0 base w J h)(k1:HR0 M0 base w J h1)(d:Deep κ base w J h){xo yo:Option Nat}{r0 r':Option Nat}{z:Nat}{es ys:List (List PV)}{news:List Value}{w':World}{N:Nat}
 (hlen:h1.length=N) (stay:∀(i:Nat)(x:Q0),(match xo with|some o=>h1.set o .dead|none=>h1)[i]? =some x->x.mut=true->h[i]? =some x/\ h1[i]? =some x/\ xo≠some i/\ yo≠some i)
 (hx:∀o,xo=some o->J[o]? =some r0/\ ∃ob,h1[o]? =some ob/\ ob.mut=true) (c5:xo=none->r0=none) (hρ:J.length=N)
 (hz:0<z) (ai:∀e∈es,e.length=z) (aU:∀e∈ys,e.length=z)
 (hold:∀b,r0=some b->∃o,xo=some o/\ κ b=[o]/\ vY κ base w z es [o] b) (bz:r0=none->es=[])
 (ar:∀(i:Nat)(e:List PV)(j:Nat)(p:PV),ys[i]? =some e->e[j]? =some p->∃v,news[i*z+j]? =some v/\ ((∃o,yo=some o/\ io κ base w p ([o]++[i*z+j]) v) \/∀κ' π w',io κ' base w' p π v))
 (aG:∀o,xo=some o->yo≠some o)
 (au:∀b',r'=some b'->(r0=some b' \/w.heap.size<=b')/\ (∀c,c<es.length*z->∀b0,r0=some b0->w'.cell? ⟨b',c,none⟩=w.cell? ⟨b0,c,none⟩)/\
  (∀(c:Nat)v,news[c]? =some v->w'.cell? ⟨b',es.length*z+c,none⟩=some v)) (ae:∀b,b<w.heap.size->r0≠some b->w'.heap[b]? =w.heap[b]?) (nz:Zon κ M0 w h) (aE:w.heap.size<=w'.heap.size) (bD:∀b,r'=some b->b<w'.heap.size):
 ∃κ',Deep κ' base w' (J++[r']) ((match xo with|some o=>h1.set o .dead|none=>h1)++[.bA z (es++ys)])/\ Zon κ' M0 w' ((match xo with|some o=>h1.set o .dead|none=>h1)++[.bA z (es++ys)]):=by
 have a2:(match xo with|some o=>h1.set o .dead|none=>h1).length=N:=by cases xo<;>simp[hlen]
 generalize hH:(match xo with|some o=>h1.set o .dead|none=>h1)=H at stay a2⊢;have aj:∀{b:Nat}{i c:Nat}{X:List Nat},b<w.heap.size->κ b=i::c::X->r0≠some b/\ r'≠some b:=by
  intro b i c X hb e;have h0:r0≠some b:=fun e0=>by obtain⟨o,_,e1,_⟩:=hold b e0;rw[e]at e1;cases e1
  refine⟨h0,fun e0=> ?_⟩;rcases(au b e0).1 with h1|h1;exact h0 h1;omega
 refine⟨fun b=>if r'=some b then [N]else VD xo yo N (es.length*z) (κ b),⟨fun i x b hi hm a8=> ?_,fun i x z1 aA b hi hd a8=> ?_⟩,fun b hb=> ?_,fun b i c X z1 aA e hi=> ?_⟩;by_cases hlt:i<N;rw[Ze (by omega)]at hi;rw[Ze (by omega)]at a8;obtain⟨g1,g2,g3,g4⟩:=stay i x hi hm;have hb:=(k.objs i x _ g1 a8).lt (Q0.bF hm);have hr:r'≠some b:=fun e=>by rcases(au b e).1 with h2|h2;obtain⟨o,e1,_,_⟩:=hold b h2;obtain⟨e3,ob,e4,e5⟩:=hx o e1;have:=k1.apart i o x ob b g2 e4 hm e5 a8 (by rw[e3,h2]);subst this;exact g3 e1;omega
 rw[if_neg hr,d.root i x b g1 hm a8];simp only[VD,g3,g4,if_false];have h1:=(Zb.1 hi).1;simp[a2]at h1;obtain rfl:i=N:=by omega
 rw[<-hρ]at a8;simp at a8;exact if_pos a8;by_cases hlt:i<N;rw[Ze (by omega)]at hi;rw[Ze (by omega)]at a8;have hm:=Q0.bQ hd;obtain⟨g1,g2,g3,g4⟩:=stay i x hi hm;have hb:=(k.objs i x _ g1 a8).lt (Q0.bF hm);have a6:r0≠some b:=fun h2=>by obtain⟨o,e1,_,_⟩:=hold b h2;obtain⟨e3,ob,e4,e5⟩:=hx o e1;have:=k1.apart i o x ob b g2 e4 hm e5 a8 (by rw[e3,h2]);subst this;exact g3 e1
 exact(d.tree i x z1 aA b g1 hd a8).go (Zi _) (fun o _=>by unfold World.cell?;rw[ae b hb a6]) ((k.objs i x _ g1 a8).rows hd).2 (fun c b2 X av e=>by
  obtain⟨q1,q2⟩:=aj av e
  refine⟨?_,ae b2 av q1⟩
  rw[if_neg q2,e]
  simp only[Zh,Zk,VD,g3,g4,if_false])
 have h1:=(Zb.1 hi).1;simp[a2]at h1;obtain rfl:i=N:=by omega
 rw[<-hρ]at a8;simp at a8;have aV:x= .bA z (es++ys):=by
  have:(H++[Q0.bA z (es++ys)])[H.length]? =some (.bA z (es++ys)):=by simp
  rw[a2,hi]at this;cases this;rfl
 subst aV;cases hd;obtain⟨c1,c2,c3⟩:=au b a8;intro i1 e1 j1 p1 he1 b3;by_cases hi1:i1<es.length;rw[Ze hi1]at he1;have aq:=(Zb.1 b3).1;rw[ai e1 (Zn he1)]at aq;have hc:i1*z+j1<es.length*z:=by
  calc i1*z+j1<i1*z+z:=by omega
   _=(i1+1)*z:=by rw[Nat.add_mul,Yl]
   _<=es.length*z:=ZE _ hi1
 cases a6:r0 with
 |none=>rw[bz a6]at hi1;cases hi1
 |some b0=>obtain⟨o,ex,ek,bE⟩:=hold b0 a6;obtain⟨v,hv,ht⟩:=bE i1 e1 j1 p1 he1 b3;refine⟨v,(c2 _ hc b0 a6).trans hv,io.go (Zi _) p1 _ _ v (fun b2 X av e=> ?_) ht⟩;obtain⟨q1,q2⟩:=aj av e;refine⟨?_,ae b2 av q1⟩;rw[if_neg q2,e];simp only[Zh,Zk,VD,ex,if_true,hρ]
 rw[Zm (by omega)]at he1;obtain⟨v,hv,aH⟩:=ar _ e1 j1 p1 he1 b3;have aI:i1*z+j1=es.length*z+((i1-es.length)*z+j1):=by
  have:i1=es.length+(i1-es.length):=by omega
  rw[this,Nat.add_mul];simp;omega
 refine⟨v,by rw[aI];exact c3 _ v hv,?_⟩;rcases aH with⟨o,ey,ht⟩|ht;refine io.go (Zi _) p1 _ _ v (fun b2 X av e=> ?_) ht;obtain⟨q1,q2⟩:=aj av e;refine⟨?_,ae b2 av q1⟩;have bK:xo≠some o:=fun ex=>aG o ex ey;rw[if_neg q2,e];simp only[Zh,Zk,VD,bK,ey,if_false,if_true,hρ,aI];exact ht _ _ _;rw[if_neg fun e=>by have:=bD b e;omega,nz.new b (by omega)];rfl;split at e;cases e;have hlt:i<N:=by have h1:=(Zb.1 hi).1;simp[a2]at h1;by_cases hN:i=N;subst hN;rw[<-a2]at hi;simp at hi;omega
 rw[Ze (by omega)]at hi;obtain⟨g1,g2,g3,g4⟩:=stay i _ hi rfl;cases hk:κ b with
 |nil=>rw[hk]at e;cases e
 |cons x τ0=>
  rw[hk]at e;simp only[VD]at e;split at e;cases e;omega;split at e;cases τ0 with
  |nil=>cases e
  |cons c0 τ1=>cases e;omega
  cases e;exact nz.zone b i c X z1 aA hk g1
def Mw {M:Nat->Prop}{w':World}{κ:Nat->List Nat}{lo:Nat}{π:List Nat}{p:PV}{v:Value}(hb:p.flat=true)(r:cG M w p v):io κ lo w' p π v:=by
 cases p with
 |lst es=>cases hb
 |_=>simpa only[io,cG]using r
def Ri {es:List (List PV)}(h:qY es=true){i j:Nat}{e:List PV}{p:PV}(he:es[i]? =some e)(hp:e[j]? =some p):p.flat=true:=by simp only[qY,Zu]at h;exact h e (Zn he) p (Zn hp)
def HR.flatten {h:List Q0}(k:HR M0 base w J h){o z:Nat}{es:List (List PV)}(ho:h[o]? =some (.bA z es)):
 HR M0 base w J (h.set o (.arr z es))/\ Ch (Mu M0 J h) (Mu M0 J (h.set o (.arr z es))) w w J J h (h.set o (.arr z es)):=by
 obtain⟨r,hr⟩:=k.mem ho;exact k.c6 (ob':= .arr z es) ho hr rfl ⟨rfl,rfl⟩ rfl (fun _ _=>rfl) (fun b cur _ hr=>⟨cur,hr,rfl⟩) (fun c=>by
  obtain⟨hz,ai,kx⟩:=k.objs _ _ r ho hr
  refine⟨hz,ai,?_⟩
  cases r with
  |none=>exact kx
  |some b=>
   obtain⟨a1,cur,cap,g1,g2,g3,g4,g5⟩:=kx
   exact⟨a1,cur,cap,g1,g2,g3,g4,fun i e j p he hp=>by
    obtain⟨v,hv,az⟩:=g5 i e j p he hp
    exact⟨v,hv,cG.go c.go p v az⟩⟩)
def HR.cQ {h:List Q0}(k:HR M0 base w J h){o z:Nat}{es:List (List PV)}{ob:Q0}(ho:h[o]? =some ob)(hd:ob.bu z es):
 ∃h2,h2[o]? =some (.arr z es)/\ h2.length=h.length/\ (∀x,h2.set o x=h.set o x)/\ HR M0 base w J h2/\ Ch (Mu M0 J h) (Mu M0 J h2) w w J J h h2:=by rcases hd with rfl|rfl;exact⟨h,ho,rfl,fun _=>rfl,k,Ch.refl _ _ _ _⟩;obtain⟨g1,g2⟩:=k.flatten ho;exact⟨_,Zd (Zb.1 ho).1,by simp,fun x=>by simp,g1,g2⟩
def M9 (s:SR Γ M0 base Z a w J){o:Oper}{t e:TypeId}{i:TypeInfo}{v0:Value}{ox oy:Operand}{x y:Opd}(hu:P.underlying t=some (.slice e))(hi:P.info? e=some i)(aW:i.zero=some v0)(aX:v0.cells.size=i.size)
 (cD:∀{r:Value}{w':World},(Builtin.append_ #[t,t] o.type #[a.eval ox,a.eval oy]).run P w= .ok r w'->(execOp a.eval o).run P w= .ok (.value r) w') (hx:kw ox=some x) (hy:kw oy=some y)
 {sc:Option (Nat×List (List PV))} {ys:List (List PV)} (b4:gZ Z.h i.size (x.ev Z)=some sc) (aU:nP Z.h i.size sc (y.ev Z)=some ys) (aJ:∀e∈ys,e.length=i.size) (aB:0<i.size)
 (a5:((cq sc).length+ys.length)*i.bytes<=140737488355328) (aY:(cq sc).length+ys.length<=9223372036854775807):
 nU P M0 base Z w J (.one (.arr Z.h.length)) (cJ sc (freezeLs Z.h (y.ev Z).cells)++[.bA i.size (cq sc++ys)]) (execOp a.eval o):=by
 obtain⟨κ,d,nz⟩:=s.hr.deep;obtain⟨k1,c1⟩:=s.hr.freezeLs (y.ev Z).cells;have s1:SR Γ M0 base ⟨Z.t,freezeLs Z.h (y.ev Z).cells⟩ a w J:=⟨k1,s.fr.ch c1,s.inv,s.b0⟩;have ry:=(cR s hy).ch c1;have rx:=(cR s hx).ch c1;obtain⟨yo,y1,y2,y3,y4⟩:∃yo:Option Nat,asList Z.h (y.ev Z)=some ys/\ (∀o,yo=some o->y.ev Z= .one (.arr o)/\ dg Z.h o=some (i.size,ys)/\ eK sc o=true)/\ (yo=none->qY ys=true)/\ ∀o,L.arr o∈(y.ev Z).cells->yo=some o:=by rcases acg aU with⟨o,e1,e2,e3⟩|⟨e1,e2⟩|⟨e1,rfl⟩;refine⟨some o,?_,fun o' e=> ?_,nofun,fun o' h=> ?_⟩;rw[e1];simp only[asList,PQ e2];cases e;exact⟨e1,e2,e3⟩;rw[e1]at h;simp[V.cells]at h;rw[h];exact⟨none,by rw[e1];simp[asList,L.view],nofun,fun _=>e2,fun o' h=>by rw[e1]at h;simp[V.cells]at h⟩;exact⟨none,by rw[e1];simp[asList,L.view],nofun,fun _=>rfl,fun o' h=>by rw[e1]at h;simp[V.cells]at h⟩
 have b5:asList (freezeLs Z.h (y.ev Z).cells) (y.ev Z)=some ys:=by
  have e0:∀v:V,asList (freezeLs Z.h (y.ev Z).cells) v=asList Z.h v:=fun v=>by
   cases v with
   |one l=>simp only[asList,lw]
   |_=>rfl
  rw[e0];exact y1
 obtain⟨ad,cc,news,ey,bp,ak,aw,al,aK⟩:=src (P:=P) s1 ry b5 aJ aB;have hlen:(freezeLs Z.h (y.ev Z).cells).length=Z.h.length:=qZ _;have af:∀(i:Nat)(x:Q0),(freezeLs Z.h (y.ev Z).cells)[i]? =some x->x.mut=true->Z.h[i]? =some x/\ yo≠some i:=fun i x hx hm=>by refine⟨oH _ hx hm,fun e=> ?_⟩;obtain⟨e1,e2,_⟩:=y2 i e;refine Bs (fun o ho=> ?_) hx hm (uF.2 (by rw[e1];simp[V.cells]));obtain⟨_,e4,_⟩:=y2 o (y4 o ho);exact Tf e4
 have ar:∀(i':Nat)(e:List PV)(j:Nat)(p:PV),ys[i']? =some e->e[j]? =some p->∃v,news[i'*i.size+j]? =some v/\ ((∃o,yo=some o/\ io κ base w p ([o]++[i'*i.size+j]) v) \/∀κ' π w',io κ' base w' p π v):=by
  intro i' e j p he hp;obtain⟨v,hv,az⟩:=al i' e j p he hp;refine⟨v,hv,?_⟩;cases bq:yo with
  |none=>exact .inr fun κ' π w'=>Mw (Ri (y3 bq) he hp) az
  |some o=>
   refine .inl ⟨o,rfl,?_⟩;obtain⟨e1,e2,e3⟩:=y2 o bq;have br:=cR s hy;rw[e1]at br;obtain⟨r,ob,hr,ag,hs⟩:=br;obtain⟨ob',aa,hD,_,k0,hc⟩:=k6 s.hr.toHR0 d e2 hr;rw[aa]at ag;cases ag;have b6:ru w (.arr i.size ys) r (a.eval oy):=by rcases hD with rfl|rfl<;>exact hs
   cases r with
   |none=>obtain⟨_,_,k0⟩:=k0;obtain rfl:ys=[]:=k0;simp at he
   |some b=>obtain⟨cur,cap,ah,_,_,_,ev⟩:=b6;obtain⟨v',bO,ht⟩:=(hc b rfl).2 i' e j p he hp;have:=aK _ v hv b 0 cap ev;rw[ZK,bO]at this;cases this;exact ht
 have ax:∀{w':World}{r':Option Nat}{h0:List Q0}{b7:List (List PV)},HR M0 base w' (J++[r']) (h0++[.arr i.size b7])->∀b,r'=some b->b<w'.heap.size:=fun{w' r' h0 b7}k b e=>by
  have hl:J.length=h0.length:=by have:=k.len;simpa using this
  exact(k.objs h0.length (.arr i.size b7) (some b) (by simp) (by rw[<-hl,<-e];simp)).lt (by simp)
 have bs:P.underlying t=some .string \/∃e',P.underlying t=some (.slice e'):= .inr ⟨e,hu⟩;have an:∀w,(Builtin.lenOf (a.eval oy)).run P w= .ok ys.length w:=by intro w;rw[ey];rfl
 rcases ML b4 with⟨ex,rfl⟩|⟨ob,es,ex,rfl,bP⟩;rw[ex]at rx;obtain⟨n,u,w',J',g1,g2,g3,g4,g5,g6,r',rfl,g7,g8⟩:=append_nil s1 hu bs hi aW aX cD an aJ aB bp ak aw al rx (by simpa[cq]using a5) (by simpa[cq]using aY);obtain⟨κ',d'⟩:=Deep.append (w':=w') (r':=r') s.hr.toHR0 k1.toHR0 d (xo:=none) (yo:=yo) (r0:=none) (es:=[]) hlen (fun i x hx hm=>⟨(af i x hx hm).1,hx,nofun,(af i x hx hm).2⟩) nofun (fun _=>rfl) s.hr.len aB (fun _ h=>by cases h) aJ nofun (fun _=>rfl) ar nofun (fun b' e=>by simpa using g7 b' e) g8 nz g5.go.size (ax g4);obtain⟨q1,q2⟩:=g4.cP d';refine⟨n,u,w',_,g1,g2,g3,q1,c1.trans (g5.trans q2),?_⟩;have:=g6.ch q2;rw[show(St.mk Z.t (freezeLs Z.h (y.ev Z).cells)).h.length=Z.h.length from hlen]at this;exact this;rw[ex]at rx;have bR:(y.ev Z).cells.all (L.bB ob)=true:=by
  rw[Zu];intro l hl;cases l with
  |arr o'=>obtain⟨_,_,e3⟩:=y2 o' (y4 o' hl);simp only[eK,Zz,beq_eq_false_iff_ne]at e3;simp only[L.bB,Zz,beq_eq_false_iff_ne];exact fun e=>e3 e.symm
  |_=>rfl
 obtain⟨r0,a6⟩:∃r0,J[ob]? =some r0:=by obtain⟨r,ob',hr,_⟩:=rx;exact⟨r,hr⟩
 obtain⟨obj,b9,hD,hm,k0,aL⟩:=k6 s.hr.toHR0 d bP a6;have ao:=vp (y.ev Z).cells bR b9;obtain⟨h2,e1,e2,e3,k2,c2⟩:=k1.cQ ao hD;have s2:SR Γ M0 base ⟨Z.t,h2⟩ a w J:=⟨k2,s1.fr.ch c2,s.inv,s.b0⟩;obtain⟨n,u,w',J',g1,g2,g3,g4,g5,g6,r1,bt,r',rfl,g7,g8⟩:=BJ s2 hu bs hi aW aX cD an aJ aB bp ak aw (fun i' e j p he hp=>by
  obtain⟨v,hv,az⟩:=al i' e j p he hp
  exact⟨v,hv,cG.go c2.go p v az⟩) e1 (rx.ch c2) a5 aY
 rw[a6]at bt;cases bt;rw[show(St.mk Z.t h2).h.set ob .dead=(freezeLs Z.h (y.ev Z).cells).set ob .dead from e3 _]at g4 g5 g6;rw[show(St.mk Z.t h2).h.length=Z.h.length from e2.trans hlen]at g6;obtain⟨κ',d'⟩:=Deep.append (w':=w') (r':=r') s.hr.toHR0 k1.toHR0 d (xo:=some ob) (yo:=yo) (r0:=r0) (es:=es) hlen (fun i x hx bb=>by
  by_cases hi:ob=i
  ·subst hi
   rw[Zd (by have:=(Zb.1 ao).1;exact this)]at hx
   cases hx;cases bb
  ·simp only[Za hi]at hx
   exact⟨(af i x hx bb).1,hx,fun e=>hi (by cases e;rfl),(af i x hx bb).2⟩) (fun o e=>by cases e;exact⟨a6,obj,ao,hm⟩) nofun s.hr.len aB k0.2.1 aJ (fun b e=>⟨ob,rfl,aL b e⟩) (fun e=>by subst e;exact k0.2.2) ar (fun o e e'=>by
  cases e
  obtain⟨_,_,e3⟩:=y2 _ e'
  simp[eK]at e3) (fun b' e=>g7 b' e) g8 nz g5.go.size (ax g4)
 obtain⟨q1,q2⟩:=g4.cP d';exact⟨n,u,w',_,g1,g2,g3,q1,c1.trans (c2.trans (g5.trans q2)),g6.ch q2⟩
def K8 (s:SR Γ M0 base Z a w J){o:Oper}{dm:Md}{v:V}{h':List Q0}{call:Nat->List V->Option V}{c:Call}{z bytes:Nat}{x y:Opd}(ay:o.op= .call c)
 (hc:jm P kf dm o.op=some (.append z bytes x y)) (he:fa call Z (.bJ z bytes x y)=some (v,h')):nU P M0 base Z w J v h' (execOp a.eval o):=by
 rw[ay]at hc;simp only[jm]at hc;split at hc
 ·split at hc
  ·(repeat' (split at hc))<;>cases hc
  cases hc
 ·(repeat' (split at hc))<;>cases hc
 ·split at hc
  ·(repeat' (split at hc))<;>cases hc
  cases hc
 ·rename_i bc;split at hc
  ·rename_i ox oy t u aM bd;split at hc;rename_i e e' x0 y0 ht _ hx hy;split at hc;rename_i z0 b0 v0 aE bf hz;split at hc;rename_i aN;obtain⟨aX,rfl⟩:=aN;cases hc;obtain⟨i,hi,aW,b6,au⟩:∃i,P.info? e=some i/\ i.zero=some v0/\ i.size=z/\ i.bytes=bytes:=by
    unfold si at hz;unfold vX at aE;unfold S9 at bf;cases hi:P.info? e with
    |none=>simp[hi]at hz
    |some i=>simp[hi]at hz aE bf;exact⟨i,rfl,hz,aE,bf⟩
   subst b6 au;have hu:P.underlying t=some (.slice e):=by unfold lR at ht;split at ht<;>cases ht;assumption
   have cD:∀{r:Value}{w':World},(Builtin.append_ #[t,t] o.type #[a.eval ox,a.eval oy]).run P w= .ok r w'->(execOp a.eval o).run P w= .ok (.value r) w':=by intro r w' hr;have e2:c.args.map a.eval= #[a.eval ox,a.eval oy]:=Array.ext' (by rw[ZZ,aM];rfl);have e3:c.argTypes= #[t,t]:=Array.ext' bd;simp only[execOp,ay,resolve,bc,Sem.run_bind,Sem.run_pure,Result.andThen_ok,invoke,e3,e2,builtin,hr]
   simp only[fa]at he;split at he;cases he;rename_i sc bS;split at he;cases he;rename_i ys aU;split at he;rename_i bg;obtain⟨bh,aB,a5,aY⟩:=bg;cases he;exact M9 s hu hi aW aX cD hx hy bS aU (by simpa using bh) aB a5 aY;cases he;cases hc;cases hc
   ·(repeat' (split at hc))<;>cases hc
   cases hc
  cases hc
 ·split at hc
  ·(repeat' (split at hc))<;>cases hc
  cases hc
 ·split at hc
  ·(repeat' (split at hc))<;>cases hc
  cases hc
 cases hc
end
end Gi
namespace Gi
open Go Go.RowKit
variable {KI:KF}
def Q0.cL (ob:Q0):ob.ba.mut=ob.mut:=by cases ob<;>rfl
def Q0.cb (ob:Q0):ob.ba.deep=ob.deep:=by cases ob<;>rfl
def rf {h:List Q0}{i:Nat}{x:Q0}(e:(lent h)[i]? =some x):∃ob,h[i]? =some ob/\ x=ob.ba:=by simp only[lent,Zp,Zl]at e;obtain⟨ob,h1,rfl⟩:=e;exact⟨ob,h1,rfl⟩
def AG {h:List Q0}{i:Nat}{ob:Q0}(e:h[i]? =some ob):(lent h)[i]? =some ob.ba:=by simp[lent,e]
section
variable {Γ:Ctx}{P:Program}{M0:Nat->Prop}{base:Nat}{Z:St}{a:Act}{w:World}{J:List (Option Nat)}{h:List Q0}
mutual
def io.reads {κ:Nat->List Nat}{lo:Nat}{M:Nat->Prop}:∀(p:PV)(π:List Nat)(v:Value),(∀b X,lo<=b->κ b=π++X->¬M b)->io κ lo w p π v->cG M w p v
 | .int _ _,_,_,_,r=>by simpa only[io,cG]using r
 | .bool _,_,_,_,r=>by simpa only[io,cG]using r
 | .str _,_,_,_,r=>by simpa only[io,cG]using r
 | .lst es,π,v,hm,r=>by simp only[io]at r;simp only[cG];rcases r with r|⟨b,c,z,cur,e,hb,hk,hz,hr,h1,h2,h3,ht⟩;exact .inl r;exact .inr ⟨b,0,c,z,e,hm b [] hb (by simp[hk]),hr.lt,hJ.reads z es π b 0 hm ht,h2⟩
def jI.reads {κ:Nat->List Nat}{lo:Nat}{M:Nat->Prop}:∀(ps:List PV)(π:List Nat)(b o:Nat),(∀b X,lo<=b->κ b=π++X->¬M b)->jI κ lo w ps π b o->gT M w ps b o
 |[],_,_,_,_,_=>by simp only[gT]
 |p::ps,π,b,o,hm,r=>by simp only[jI]at r;simp only[gT];obtain⟨⟨v,hv,hp⟩,r⟩:=r;exact⟨⟨v,hv,io.reads p _ v (fun b X hl e=>hm b (o::X) hl (by rw[e];simp)) hp⟩,jI.reads ps π b (o+1) hm r⟩
def hJ.reads {κ:Nat->List Nat}{lo:Nat}{M:Nat->Prop}(z:Nat):∀(es:List (List PV))(π:List Nat)(b o:Nat),(∀b X,lo<=b->κ b=π++X->¬M b)->hJ κ lo w z es π b o->fX M w z es b o
 |[],_,_,_,_,_=>by simp only[fX]
 |e::es,π,b,o,hm,r=>by simp only[hJ]at r;simp only[fX];exact⟨r.1,jI.reads e π b o hm r.2.1,hJ.reads z es π b (o+z) hm r.2.2⟩
end
def Mu.ba {b:Nat}(hm:Mu (fun _=>False) J (lent h) b):∃(o:Nat)(ob:Q0),h[o]? =some ob/\ ob.mut=true/\ J[o]? =some (some b):=by rcases hm with hm|⟨o,x,hx,bT,hr⟩;exact hm.elim;obtain⟨ob,h1,rfl⟩:=rf hx;exact⟨o,ob,h1,by rw[<-Q0.cL];exact bT,hr⟩
def Mu.ca {b:Nat}(hm:Mu (fun _=>False) J (lent h) b):Mu M0 J h b:= .inr (Mu.ba hm)
def LR.ba {l:L}{v:Value}(r:LR (Mu M0 J h) w J h l v):LR (Mu (fun _=>False) J (lent h)) w J (lent h) l.bL v:=by
 have mu:∀b,Mu (fun _=>False) J (lent h) b->Mu M0 J h b:=fun b hm=>Mu.ca hm;cases l with
 |pv p=>exact cG.weak mu r
 |ptr o i j=>obtain⟨q,ob,h1,h2,h3⟩:=r;refine⟨q,_,h1,AG h2,?_⟩;cases ob<;>exact h3
 |ip e j=>obtain⟨b,o,rfl,hb,hlt,hr⟩:=r;exact⟨b,o,rfl,fun k=>hb (mu b k),hlt,gT.go ⟨Zi _,fun b _=>mu b,fun _ _ _=>rfl⟩ e b o hb hlt hr⟩
 |arr o=>obtain⟨q,ob,h1,h2,h3⟩:=r;refine⟨q,_,h1,AG h2,?_⟩;cases ob<;>exact h3
 |nil=>exact r
 |own z es=>exact r
 |down z es=>exact r
 |fn k caps=>obtain⟨f,cs,rfl,hk,hn,hc⟩:=r;exact⟨f,cs,rfl,hk,hn,fun i e u he hu=>(hc i e u he hu).go ⟨Zi _,fun b _=>mu b,fun _ _ _=>rfl⟩⟩
 |tp n=>obtain⟨o,b,h1,h2,rfl⟩:=r;exact⟨o,b,h1,AG h2,rfl⟩
 |sub o c=>exact r.1
 |cB o l r'=>obtain⟨h1,q,ob,e1,e2,e3,e4⟩:=r;exact⟨h1,q,_,e1,AG e2,by cases ob<;>simp_all[Q0.ba],fun hq=>by cases ob<;>first|exact e4 rfl|cases hq⟩
 |bw=>exact r
def HR.ba (k:HR M0 base w J h):HR (fun _=>False) base w J (lent h):=by
 obtain⟨κ,d,n⟩:=k.deep;have mu:∀b,Mu (fun _=>False) J (lent h) b->Mu M0 J h b:=fun b hm=>Mu.ca hm;refine⟨⟨by simp[lent,k.len],fun b hb=>hb.elim,k.le,fun o x r ho hr=> ?_,fun o o' x x' b h1 h2 m1 m2 r1 r2=> ?_⟩,κ,⟨fun o x b ho hm hr=> ?_,fun o x z es b ho hd hr=> ?_⟩,n.new,fun b o c X z es e ho=> ?_⟩
 ·obtain⟨ob,h1,rfl⟩:=rf ho;have kx:=k.objs o ob r h1 hr;have c:Ch (Mu M0 J h) (Mu (fun _=>False) J (lent h)) w w J J h h:=⟨⟨Zi _,fun b _=>mu b,fun _ _ _=>rfl⟩,fun _ cur r=>⟨cur,r,rfl⟩,fun _ _ ob hr ho _=>⟨ob,hr,ho,wx.refl ob⟩,fun _ _ _ _ _ _ _ _ _ h=>h⟩;have keep:∀x:Q0,BI (Mu M0 J h) base w J h r x->(∀cs,x≠ .box cs)->BI (Mu (fun _=>False) J (lent h)) base w J (lent h) r x:=fun x kx hx=>by have:=kx.keep c (fun _ _ _=>rfl);cases x<;>first|exact this|exact absurd rfl (hx _)
  cases ob with
  |bC z es=>
   obtain⟨hz,ai,kx⟩:=kx;refine⟨hz,ai,?_⟩;cases r with
   |none=>exact kx
   |some b=>obtain⟨g0,cur,cap,g1,g2,g3,g4⟩:=kx;refine⟨g0,cur,cap,g1,g2,g3,g4,fun i e j p he hp=> ?_⟩;obtain⟨v,hv,ht⟩:=d.tree o _ z es b h1 rfl hr i e j p he hp;refine⟨v,by rw[<-g1.cell];exact hv,io.reads p _ v (fun b' X _ e' hm=> ?_) ht⟩;obtain⟨o',ob',q1,q2,q3⟩:=Mu.ba hm;rw[d.root o' ob' b' q1 q2 q3]at e';simp at e'
  |box cs=>obtain⟨b,cur,rfl,g0,g1,aF⟩:=kx;refine⟨b,cur,rfl,g0,g1,by rw[Zr];exact aF.1,fun i l v hl hv=> ?_⟩;simp only[Zp,Zl]at hl;obtain⟨l0,h0,rfl⟩:=hl;exact(aF.2 i l0 v h0 hv).ba
  |arr z es=>exact keep (.arr z es) kx (by simp)
  |bI z es=>exact keep (.bI z es) kx (by simp)
  |bA z es=>exact keep (.bA z es) kx (by simp)
  |bM ps=>exact keep (.bM ps) kx (by simp)
  |bU n=>exact keep (.bU n) kx (by simp)
  |res=>exact keep .res kx (by simp)
  |dead=>trivial
 obtain⟨ob,q1,rfl⟩:=rf h1;obtain⟨ob',q2,rfl⟩:=rf h2;rw[Q0.cL]at m1 m2;exact k.apart o o' ob ob' b q1 q2 m1 m2 r1 r2;obtain⟨ob,h1,rfl⟩:=rf ho;rw[Q0.cL]at hm;exact d.root o ob b h1 hm hr;obtain⟨ob,h1,rfl⟩:=rf ho;rw[Q0.cb]at hd;exact d.tree o ob z es b h1 hd hr;obtain⟨ob,h1,e1⟩:=rf ho;cases ob<;>cases e1
def V.bL :V->V
 | .one l=> .one l.bL
 | .agg ls=> .agg (ls.map L.bL)
 | .b8 xs=> .b8 (xs.map fun x=>(x.1,x.2.map L.bL))
def xc.ba {ls:List L}{vs:List Value}(r:xc (Mu M0 J h) w J h ls vs):xc (Mu (fun _=>False) J (lent h)) w J (lent h) (ls.map L.bL) vs:=
 ⟨by rw[Zr];exact r.1,fun i l v hl hv=>by
  simp only[Zp,Zl]at hl
  obtain⟨l0,h0,rfl⟩:=hl
  exact(r.2 i l0 v h0 hv).ba⟩
def VR.ba {v:V}{u:Value}(r:VR (Mu M0 J h) w J h v u):VR (Mu (fun _=>False) J (lent h)) w J (lent h) v.bL u:=by
 cases v with
 |one l=>exact LR.ba r
 |agg ls=>obtain⟨cs,rfl,hl⟩:=r;exact⟨cs,rfl,hl.ba⟩
 |b8 xs=>
  obtain⟨vs,rfl,hl,hr⟩:=r;refine⟨vs,rfl,by rw[Zr];exact hl,fun i x u hx hu=> ?_⟩;simp only[Zp,Zl]at hx;obtain⟨x0,h0,rfl⟩:=hx;have:=hr i x0 u h0 hu;obtain⟨b,ls⟩:=x0;cases b with
  |true=>obtain⟨cs,rfl,hl⟩:=this;exact⟨cs,rfl,hl.ba⟩
  |false=>
   match ls,this with
   |[l],this=>exact LR.ba this
def SR.ba (s:SR Γ M0 base Z a w J):SR Γ (fun _=>False) base ⟨Z.t.map V.bL,lent Z.h⟩ a w J:=
 ⟨s.hr.ba,⟨s.fr.defers,by rw[Zr];exact s.fr.size,fun i v u hv hu=>by
  simp only[Zp,Zl]at hv
  obtain⟨v0,h0,rfl⟩:=hv
  exact(s.fr.tmps i v0 u h0 hu).ba⟩,s.inv,s.b0⟩
def IU (x:Opd):x.ev ⟨Z.t.map V.bL,h⟩=(x.ev Z).bL:=by
 cases x with
 |tmp n=>simp only[Opd.ev,List.getD,Zp];cases Z.t[n]? <;>rfl
 |_=>rfl
def Ru (v:V):isInt v.bL=isInt v:=by
 cases v with
 |one l=>cases l<;>rfl
 |_=>rfl
def Nb (v:V):asList h v.bL=asList h v:=by
 cases v with
 |one l=>cases l<;>rfl
 |_=>rfl
def Lf (z:Nat)(v:V)(i:Nat):cN h z v.bL i=cN h z v i:=by
 cases v with
 |one l=>cases l<;>rfl
 |_=>rfl
def acR {call:Nat->List V->Option V}(x:Opd):dY call Z (.c3 x)=dY call ⟨Z.t.map V.bL,lent Z.h⟩ (.len x):=by simp only[dY,IU,Nb]
def Wr {call:Nat->List V->Option V}(z:Nat)(x i:Opd):dY call Z (.bN z x i)=dY call ⟨Z.t.map V.bL,lent Z.h⟩ (.bH z x i):=by simp only[dY,IU,Ru,Lf]
def Rz (s:SR Γ M0 base Z a w J){o:Oper}{dm:Md}{t:TypeId}{x:Operand}{y':Opd}(ay:o.op= .load t x)(hc:jm P kf dm o.op=some (.load false 1 y'))
 {ob i j z:Nat} {es:List (List PV)} {e:List PV} {l:List (List PV)} (bj:y'.ev Z= .one (.ptr ob i j)) (ag:Z.h[ob]? =some (.bC z es)) (hei:es[i]? =some e) (aO:e[j]? =some (.lst l)):
 ∃u,(execOp a.eval o).run P w= .ok (.value u) w/\ VR (Mu M0 J Z.h) w J Z.h (.one (.sub ob (i*z+j))) u:=by
 rw[ay]at hc;simp only[jm]at hc;split at hc;rename_i g n y h1 h2 h3;split at hc;cases hc;cases hc;have r:=cR s h3;rw[bj]at r;obtain⟨r0,ob',a6,aa,bk⟩:=r;rw[ag]at aa;cases aa;obtain⟨b,rfl,hu⟩:=bk;obtain⟨κ,d,nz⟩:=s.hr.deep;obtain⟨v,hv,ht⟩:=d.tree ob _ z es b ag rfl a6 i e j _ hei aO;refine⟨v,?_,ht.one,b,z,es,a6,ag,⟨i,e,j,l,hei,aO,rfl⟩,hv⟩;have h4:(loadVar t ⟨b,i*z+j,none⟩).run P w= .ok v w:=by
  have:(load ⟨b,i*z+j,none⟩).run P w= .ok v w:=by simp[load,Sem.run,hv]
  simp only[loadVar,Sem.run_bind,xv h1,Result.andThen_ok,ZA,if_false,this]
 simp only[Q0.z]at hu;simp only[execOp,ay,hu,Instr.loadAt,Instr.sureAddr,Sem.run_bind,Sem.run_pure,Result.andThen_ok,h4];cases hc
def OD (s:SR Γ M0 base Z a w J){o:Oper}{dm:Md}{t:TypeId}{x y:Operand}{x' y':Opd}(ay:o.op= .store t x y)(hc:jm P kf dm o.op=some (.store 1 x' y'))
 {ob i j z:Nat} {es:List (List PV)} {e:List PV} {p q:PV} (bj:x'.ev Z= .one (.ptr ob i j)) (ag:Z.h[ob]? =some (.bC z es)) (hei:es[i]? =some e) (bV:y'.ev Z= .one (.pv p)) (aO:e[j]? =some q) (hp:p.flat=true) (hq:q.flat=true):
 nU P M0 base Z w J (.b8 []) (Z.h.set ob (.bC z (es.set i (e.set j p)))) (execOp a.eval o):=by
 rw[ay]at hc;simp only[jm]at hc;split at hc;rename_i n1 x1 y1 hn hx hy;cases hc;have rx:=cR s hx;have ry:=cR s hy;rw[bj]at rx;rw[bV]at ry;obtain⟨r0,obj,a6,aa,bk⟩:=rx;rw[ag]at aa;cases aa;obtain⟨b,rfl,hu⟩:=bk;simp only[Q0.z]at hu;obtain⟨κ,d,nz⟩:=s.hr.deep;obtain⟨hz,ai,a1,cur,cap,ah,h1,h2,h3⟩:=s.hr.objs ob _ (some b) ag a6;have aF:=ry.cells (fun xs=>by simp);obtain⟨u,bl⟩:∃u,(a.eval y).cells.toList=[u]:=ZN.1 (by rw[<-aF.1];rfl);have bW:cG (Mu M0 J Z.h) w p u:=aF.2 0 _ u rfl (by rw[bl];rfl);have aE:(a.eval y).cells.size=1:=by have:=congrArg List.length bl;simpa using this
 have bX:e.length=z:=ai e (Zn hei);have aP:i<es.length:=(Zb.1 hei).1;have bm:j<e.length:=(Zb.1 aO).1;have aQ:i*z+j+1<=cur.size:=by
  rw[h1];calc i*z+j+1<=i*z+z:=by omega
   _=(i+1)*z:=by rw[Nat.add_mul,Yl]
   _<=cap*z:=ZE _ (by omega)
 have aR:=tz (P:=P) hn ah aE aQ aF.cV;rw[bl]at aR;obtain⟨cur',a7,aS,aT⟩:=gY b [u] (i*z+j) w cur ah (by simpa using aQ);have ab:∀k,some b≠some k->(w.setCells b (i*z+j) [u]).heap[k]? =w.heap[k]? :=fun k hk=>gE b _ _ w k (fun e=>hk (by rw[e]));have cell:∀{i1 j1:Nat}{e1:List PV}{p1:PV},(es.set i (e.set j p))[i1]? =some e1->e1[j1]? =some p1->(p1=p/\ cur'[i1*z+j1]? =some u) \/(∃e0,es[i1]? =some e0/\ e0[j1]? =some p1/\ (i1=i->j1≠j)/\ cur'[i1*z+j1]? =cur[i1*z+j1]?):=by
  intro i1 j1 e1 p1 hi1 aq;rw[aT];by_cases aC:i=i1;subst aC;rw[Zd aP]at hi1;cases hi1;by_cases bn:j=j1;subst bn;rw[Zd bm]at aq;cases aq;exact .inl ⟨rfl,by rw[if_pos (by simp)];simp⟩;rw[Za bn]at aq;exact .inr ⟨e,hei,aq,fun _ h=>bn h.symm,by rw[if_neg (by simp;omega)]⟩;rw[Za aC]at hi1;have aD:j1<z:=by rw[<-ai e1 (Zn hi1)];exact(Zb.1 aq).1
  refine .inr ⟨e1,hi1,aq,fun h=>absurd h.symm aC,?_⟩;rw[if_neg];intro bo;simp at bo;exact aC (zy aD (by omega:j<z) (by omega)).1.symm
 have lst:∀{i1 j1:Nat}{e1:List PV}{l:List (List PV)},es[i1]? =some e1->e1[j1]? =some (.lst l)->¬(i1=i/\ j1=j):=by rintro i1 j1 e1 l h4 h5 ⟨rfl,rfl⟩;rw[hei]at h4;cases h4;rw[aO]at h5;cases h5;cases hq
 obtain⟨g1,g2⟩:=s.hr.toHR0.c6 (w':=w.setCells b (i*z+j) [u]) (ob':= .bC z (es.set i (e.set j p))) ag a6 rfl ⟨rfl,by simp,fun c⟨i1,e1,j1,l,h4,h5,h6⟩=>by
  have aG:=lst h4 h5
  by_cases aC:i=i1
  ·subst aC
   rw[hei]at h4;cases h4
   exact⟨i,e.set j p,j1,l,Zd aP,by rw[Za fun h=>aG ⟨rfl,h.symm⟩];exact h5,h6⟩
  ·exact⟨i1,e1,j1,l,by rw[Za aC];exact h4,h5,h6⟩⟩ (gF b _ _ w).symm ab
  (fun k c e hr=>by cases e;rw[hr.inj ah];exact⟨cur',a7,aS⟩)
  (fun c=>⟨hz,fun e1 he1=>by
   rcases ZF he1 with hm|rfl
   ·exact ai e1 hm
   ·simpa using bX,a1,cur',cap,a7,by rw[aS];exact h1,by simpa using h2,h3⟩)
  (fun z1 aA b1 c v e0 eb⟨i1,e1,j1,l,h4,h5,h6⟩hv=>by
   cases e0;cases eb
   have aG:=lst h4 h5
   have aD:j1<z:=by rw[<-ai e1 (Zn h4)];exact(Zb.1 h5).1
   rw[a7.cell,aT,if_neg]
   ·rw[<-ah.cell];exact hv
   ·intro bo
    simp at bo
    have:=zy aD (by omega:j<z) (by omega:i1*z+j1=i*z+j)
    exact aG this)
 refine⟨.skip,undef,_,J,?_, .inr ⟨rfl,rfl⟩,fH b base a1 _ _ w w (Below.refl _ _),⟨g1,κ,d.c6 s.hr.toHR0 ag a6 rfl ab (fun z1 aA b1 e0 eb=> ?_),fun b' au=>nz.new b' (by rw[gF]at au;exact au),fun b' i' c X z1 aA e0 aV=> ?_⟩,g2,VR.undef⟩;simp[execOp,ay,hu,aR];cases e0;cases eb;have hκ:=d.root ob _ b ag rfl a6;intro i1 e1 j1 p1 hi1 aq;rcases cell hi1 aq with⟨rfl,hc⟩|⟨e2,bY,bZ,_,hc⟩;exact⟨u,by rw[a7.cell];exact hc,Mw hp bW⟩;obtain⟨v,hv,ht⟩:=d.tree ob _ z es b ag rfl a6 i1 e2 j1 p1 bY bZ;refine⟨v,by rw[a7.cell,hc,<-ah.cell];exact hv,io.go (Zi _) p1 _ _ v (fun b2 X _ e3=>⟨e3,ab b2 fun e4=> ?_⟩) ht⟩;cases e4;rw[hκ]at e3;simp at e3;by_cases bx:ob=i';subst bx;exact nz.zone b' ob c X z es e0 ag;rw[Za bx]at aV;exact nz.zone b' i' c X z1 aA e0 aV;cases hc
end
end Gi
