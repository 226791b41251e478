/- Of this proof. -/
import Derived.Test.YtpnolnkjijmfjaaGreatGiob
import Derived.Test.YtpnolnkjijmfjaaGreatGilh
set_option linter.all false
namespace Gi
open Go Go.RowKit
variable {KI:KF}
def V.cj (f:L->Bool):V->Bool
 | .one l=>f l
 | .agg ls=>ls.all f
 | .b8 xs=>xs.all fun x=>x.2.all f
def V.cH (g:L->L):V->V
 | .one l=> .one (g l)
 | .agg ls=> .agg (ls.map g)
 | .b8 xs=> .b8 (xs.map fun x=>(x.1,x.2.map g))
def TT (n:Nat)(v:V):FY n v=v.cH (tc n):=by cases v<;>rfl
def L.cl :L->Bool
 | .pv p=>p.bare
 | .nil=>true
 | .arr _=>true
 |_=>false
def Q0.cl :Q0->Bool
 | .arr _ es=>jk es
 | .bA _ _=>true
 |_=>false
def vQ :∀(ls:List L)(g:List Q0),ls.all L.closed=true->g.all Q0.cl=true->(thawL g ls).1.all L.cl=true/\ (thawL g ls).2.all Q0.cl=true
 |[],g,_,hg=>⟨rfl,hg⟩
 |l::ls,g,h,hg=>by
  simp only[Zq,Zg]at h;cases l with
  |own z es=>
   obtain⟨i1,i2⟩:=vQ ls (g++[.arr z es]) h.2 (by
    have:jk es=true:=h.1
    simp only[List.all_append,hg,Zq,List.all_nil,Q0.cl,this,ZH])
   exact⟨by simp only[thawL,Zq,L.cl,i1,ZH],i2⟩
  |down z es=>obtain⟨i1,i2⟩:=vQ ls (g++[.bA z es]) h.2 (by simp only[List.all_append,hg,Zq,List.all_nil,Q0.cl,ZH]);exact⟨by simp only[thawL,Zq,L.cl,i1,ZH],i2⟩
  |pv p=>obtain⟨i1,i2⟩:=vQ ls g h.2 hg;have:p.bare=true:=h.1;exact⟨by simp only[thawL,Zq,L.cl,i1,this,ZH],i2⟩
  |nil=>obtain⟨i1,i2⟩:=vQ ls g h.2 hg;exact⟨by simp only[thawL,Zq,L.cl,i1,ZH],i2⟩
  |_=>simp[L.closed]at h
def Sr :∀(xs:List (Bool×List L))(g:List Q0),(xs.all fun x=>x.2.all L.closed)=true->g.all Q0.cl=true->((thawT g xs).1.all fun x=>x.2.all L.cl)=true/\ (thawT g xs).2.all Q0.cl=true
 |[],g,_,hg=>⟨rfl,hg⟩
 |(b,ls)::xs,g,h,hg=>by simp only[Zq,Zg]at h;obtain⟨i1,i2⟩:=vQ ls g h.1 hg;obtain⟨j1,j2⟩:=Sr xs (thawL g ls).2 h.2 i2;exact⟨by simp only[thawT,Zq,i1,j1,ZH],j2⟩
def Vn (r:V)(h:r.closed=true):(thaw [] r).1.cj L.cl=true/\ (thaw [] r).2.all Q0.cl=true:=by
 cases r with
 |one l=>obtain⟨l',h',e'⟩:=mp [] l;have:=vQ [l] [] (by simpa[V.closed]using h) rfl;rw[e']at this;simp only[thaw,e'];exact⟨by simpa[V.cj]using this.1,this.2⟩
 |agg ls=>exact vQ ls [] (by simpa[V.closed]using h) rfl
 |b8 xs=>exact Sr xs [] (by simpa[V.closed]using h) rfl
section
variable {Γ:Ctx}{P:Program}{M0:Nat->Prop}{base:Nat}{Z:St}{a:Act}{w:World}{J:List (Option Nat)}{h:List Q0}
def VR.cH {M M':Nat->Prop}{w':World}{J':List (Option Nat)}{h':List Q0}{f:L->Bool}{g:L->L}(hl:∀l u,f l=true->LR M w J h l u->LR M' w' J' h' (g l) u){v:V}{u:Value}(hv:v.cj f=true)(r:VR M w J h v u):VR M' w' J' h' (v.cH g) u:=by
 have rows:∀{ls:List L}{us:List Value},ls.all f=true->xc M w J h ls us->xc M' w' J' h' (ls.map g) us:=fun{ls us}ha hr=>
  ⟨by rw[Zr];exact hr.1,fun i l u hi hu=>by
   simp only[Zp,Zl]at hi
   obtain⟨l0,h0,rfl⟩:=hi
   exact hl l0 u ((Zu.1 ha) l0 (Zn h0)) (hr.2 i l0 u h0 hu)⟩
 cases v with
 |one l=>exact hl l u hv r
 |agg ls=>obtain⟨cs,rfl,hr⟩:=r;exact⟨cs,rfl,rows hv hr⟩
 |b8 xs=>
  obtain⟨vs,rfl,h1,h2⟩:=r;refine⟨vs,rfl,by rw[Zr];exact h1,fun i x u hx hu=> ?_⟩;simp only[Zp,Zl]at hx;obtain⟨x0,h0,rfl⟩:=hx;have ar:=(Zu.1 hv) x0 (Zn h0);have:=h2 i x0 u h0 hu;obtain⟨b,ls⟩:=x0;cases b with
  |true=>obtain⟨cs,rfl,hr⟩:=this;exact⟨cs,rfl,rows ar hr⟩
  |false=>
   match ls,this,ar with
   |[l],this,ar=>exact hl l u (by simpa using ar) this
def Iu {M M':Nat->Prop}{p:PV}{v:Value}(hb:p.bare=true)(r:cG M w p v):cG M' w p v:=by
 cases p with
 |lst es=>
  cases es with
  |cons e es=>simp[PV.bare]at hb
  |nil=>simp only[cG]at r⊢;rcases r with r|⟨b,o,c,z,rfl,_⟩;exact .inl r;exact .inl ⟨by trivial,_,_,rfl⟩
 |_=>simpa only[cG]using r
def PN {b0:Nat}{w':World}{ρr:List (Option Nat)}{hr:List Q0}{κ:Nat->List Nat}(kr:HR0 (fun _=>False) b0 w' ρr hr)(d:Deep κ b0 w' ρr hr){i z b:Nat}{es:List (List PV)}{ob:Q0}(hi:hr[i]? =some ob)(hD:ob.bu z es)(hc:ob.cl=true)(a1:ρr[i]? =some (some b)):vY κ b0 w' z es [i] b:=by rcases hD with rfl|rfl;intro i1 e j p he hp;obtain⟨_,_,_,cur,cap,aa,_,_,_,h4⟩:=kr.objs i _ _ hi a1;obtain⟨v,hv,aP⟩:=h4 i1 e j p he hp;exact⟨v,by rw[aa.cell];exact hv,En (Gj hc he hp) aP⟩;exact d.tree i _ z es b hi rfl a1
def Tc {ob:Q0}(hc:ob.cl=true):∃z es,ob.bu z es:=by cases ob<;>first|(cases hc;done)|exact⟨_,_, .inl rfl⟩|exact⟨_,_, .inr rfl⟩
def Iz {ob:Q0}(hc:ob.cl=true):ob.mut=true:=by cases ob<;>first|rfl|cases hc
def AU.weaken {M:Nat->Prop}{b0:Nat}{w':World}{r:V}{v:Value}(hc:r.closed=true)(hM:∀b,M b->b<b0)(rr:AU (fun _=>False) b0 w' r v):AU M b0 w' r v:=by
 obtain⟨ρr,kr,vr⟩:=rr;obtain⟨c1,c2⟩:=Vn r hc;obtain⟨κ,d,n⟩:=kr.deep;have ay:∀{i x b:Nat}{X:List Nat},κ b=i::x::X->b0<=b->¬Mu M ρr (thaw [] r).2 b:=fun{i x b X}e hb hm=>by rcases hm with hm|⟨j,y,hy,aQ,aR⟩;have:=hM b hm;omega;rw[d.root j y b hy aQ aR]at e;cases e
 refine⟨ρr,⟨⟨kr.len,fun b hm=>⟨ZD (hM b hm) kr.le,fun i x hi hx a1=> ?_⟩,kr.le,fun i x q hi a1=> ?_,kr.apart⟩,κ,d,n.new,fun b o c X z es e ho=> ?_⟩,?_⟩;have:=(kr.objs i x _ hi a1).base hx;have:=hM b hm;omega;have aG:=(Zu.1 c2) x (Zn hi);obtain⟨z,es,hD⟩:=Tc aG;have kx:=kr.objs i x q hi a1;have main:BI (Mu (fun _=>False) ρr (thaw [] r).2) b0 w' ρr (thaw [] r).2 q (.arr z es)->BI (Mu M ρr (thaw [] r).2) b0 w' ρr (thaw [] r).2 q (.arr z es):=by
  intro kx;obtain⟨hz,az,kx⟩:=kx;refine⟨hz,az,?_⟩;cases q with
  |none=>exact kx
  |some b=>obtain⟨g0,cur,cap,g1,g2,g3,g4,_⟩:=kx;refine⟨g0,cur,cap,g1,g2,g3,g4,fun i1 e j p he hp=> ?_⟩;obtain⟨v1,aS,ht⟩:=PN kr.toHR0 d hi hD aG a1 i1 e j p he hp;exact⟨v1,by rw[<-g1.cell];exact aS,io.reads p _ v1 (fun b' X au e'=>ay (show κ b'=i::(i1*z+j)::X from e') au) ht⟩
 rcases hD with rfl|rfl<;>exact main kx;have:=(Zu.1 c2) _ (Zn ho);cases this;have:=VR.cH (g:=id) (M':=Mu M ρr (thaw [] r).2) (w':=w') (J':=ρr) (h':=(thaw [] r).2) (fun l u hl hr=>by
  cases l with
  |pv p=>exact Iu hl hr
  |nil=>exact hr
  |arr o=>exact hr
  |_=>cases hl) c1 vr
 have e:∀v:V,v.cH id=v:=fun v=>by
  cases v with
  |one l=>rfl
  |agg ls=>simp[V.cH]
  |b8 xs=>simp[V.cH]
 rwa[e]at this
def WN (k:HR M0 base w J h){w':World}{r:V}{v:Value}(hb:Below w.heap.size w w')(aT:r.clean=true)(hc:r.closed=true)(rr:AU (fun _=>False) w.heap.size w' r v):
 ∃av J',(∀b,M0 b->av b)/\ HR av base w' J' (wv h r).2/\ Ch (Mu M0 J h) (Mu av J' (wv h r).2) w w' J J' h (wv h r).2/\ VR (Mu av J' (wv h r).2) w' J' (wv h r).2 (wv h r).1 v:=by
 obtain⟨ρr,kr,vr⟩:=rr;obtain⟨c1,c2⟩:=Vn r hc;obtain⟨κ,d,n⟩:=k.deep;obtain⟨κr,dr,nr⟩:=kr.deep;have hv:(thaw h r).1=(thaw [] r).1.cH (tc h.length):=by rw[KU r h aT,TT]
 simp only[wv,hv];generalize (thaw [] r).2=hr at*;generalize (thaw [] r).1=vv at*;have aH:ρr.length=hr.length:=kr.len;have left:∀{i:Nat}{x:Q0},i<h.length->(h++hr.map Q0.zone)[i]? =some x->h[i]? =some x:=fun hi e=>by rwa[Ze hi]at e
 have a5:∀{i:Nat}{x:Option Nat},i<h.length->(J++ρr)[i]? =some x->J[i]? =some x:=fun hi e=>by rwa[Ze (by rw[k.len];exact hi)]at e
 have right:∀{i:Nat}{x:Q0},¬i<h.length->(h++hr.map Q0.zone)[i]? =some x->∃y z es,hr[i-h.length]? =some y/\ y.bu z es/\ y.cl=true/\ x= .bC z es:=fun{i x}hi e=>by rw[Zm (by omega)]at e;simp only[Zp,Zl]at e;obtain⟨y,hy,rfl⟩:=e;have a6:=(Zu.1 c2) y (Zn hy);obtain⟨z,es,hD⟩:=Tc a6;refine⟨y,z,es,hy,hD,a6,?_⟩;rcases hD with rfl|rfl<;>rfl
 have a2:∀{i:Nat}{x:Option Nat},¬i<h.length->(J++ρr)[i]? =some x->ρr[i-h.length]? =some x:=fun hi e=>by rwa[Zm (by rw[k.len];omega),k.len]at e
 have a7:∀{i b:Nat}{y:Q0},hr[i]? =some y->y.cl=true->ρr[i]? =some (some b)->w.heap.size<=b:=fun{i b y}hy a6 a1=>(kr.objs i y _ hy a1).base (Iz a6);let M1:Nat->Prop:=fun b=>M0 b \/(w.heap.size<=b/\ b<w'.heap.size/\ ∀i:Nat,ρr[i]? ≠some (some b));have cls:∀b,b<w.heap.size->Mu M1 (J++ρr) (h++hr.map Q0.zone) b->Mu M0 J h b:=fun b hlt hm=>by rcases hm with(hm|⟨hm,_⟩)|⟨i,x,hi,hx,a1⟩;exact .inl hm;omega;by_cases hl:i<h.length;exact .inr ⟨i,x,left hl hi,hx,a5 hl a1⟩;obtain⟨y,z,es,hy,_,a6,_⟩:=right hl hi;have:=a7 hy a6 (a2 hl a1);omega
 have C:Ch (Mu M0 J h) (Mu M1 (J++ρr) (h++hr.map Q0.zone)) w w' J (J++ρr) h (h++hr.map Q0.zone):=by refine⟨⟨hb.size,fun b hlt hm=>cls b hlt hm,fun b hlt _=>hb.block b hlt⟩,fun b cur aA=>⟨cur,by obtain⟨T,aj⟩:=aA;exact⟨T,by rw[hb.block b (jb.lt ⟨T,aj⟩)];exact aj⟩,rfl⟩,fun i q x h1 h2 _=> ?_,fun o b z es p v h1 h2 _ hv=>by unfold World.cell? at hv⊢;rw[hb.block b ((k.objs o _ _ h2 h1).lt (by simp))];exact hv⟩;have hlt:i<h.length:=(Zb.1 h2).1;exact⟨x,by rw[Ze (by rw[k.len];exact hlt)];exact h1,by rw[Ze hlt];exact h2,wx.refl _⟩
 refine⟨M1,J++ρr,fun b hm=> .inl hm,⟨⟨by simp[k.len,aH],fun b hm=>⟨?_,fun i x hi hx a1=> ?_⟩,Zc k.le hb.size,fun i x q hi hq=> ?_,fun i i' x x' b h1 h2 m1 m2 r1 r2=> ?_⟩,
  fun b=>if b<w.heap.size then(match κ b with
   |o::X=>if o<h.length then o::X else []
   |[]=>[])else match κr b with
   |o::X=>(h.length+o)::X
   |[]=>[],⟨fun i x b hi hx a1=> ?_,fun i x z es b hi hd a1=> ?_⟩,fun b au=> ?_,fun b o c X z es e ho=> ?_⟩,C,?_⟩
 rcases hm with hm|⟨_,hm,_⟩;exact ZD (k.old b hm).1 hb.size;exact hm;by_cases hl:i<h.length;rcases hm with hm|⟨hm,_,_⟩;exact(k.old b hm).2 i x (left hl hi) hx (a5 hl a1);have:=(k.objs i x _ (left hl hi) (a5 hl a1)).lt (Q0.bF hx);omega;rcases hm with hm|⟨_,_,hm⟩;obtain⟨y,z,es,hy,_,a6,_⟩:=right hl hi;have:=a7 hy a6 (a2 hl a1);have:=(k.old b hm).1;omega;exact hm _ (a2 hl a1);by_cases hl:i<h.length;have kx:=k.objs i x q (left hl hi) (a5 hl hq);exact kx.keep C (fun b e hd=>hb.block b (by subst e;exact kx.lt hd));obtain⟨y,z,es,hy,hD,a6,rfl⟩:=right hl hi;have kx:BI (Mu (fun _=>False) ρr hr) w.heap.size w' ρr hr q (.arr z es):=by have:=kr.objs _ y q hy (a2 hl hq);rcases hD with rfl|rfl<;>exact this
 obtain⟨hz,az,kx⟩:=kx;refine⟨hz,az,?_⟩;cases q with
 |none=>exact kx
 |some b=>obtain⟨g0,cur,cap,g1,g2,g3,g4,_⟩:=kx;exact⟨Zc k.le g0,cur,cap,g1,g2,g3,g4⟩
 by_cases l1:i<h.length<;>by_cases l2:i'<h.length;exact k.apart i i' x x' b (left l1 h1) (left l2 h2) m1 m2 (a5 l1 r1) (a5 l2 r2);have e1:=(k.objs i x _ (left l1 h1) (a5 l1 r1)).lt (Q0.bF m1);obtain⟨y,z,es,hy,_,a6,_⟩:=right l2 h2;have:=a7 hy a6 (a2 l2 r2);omega;have e1:=(k.objs i' x' _ (left l2 h2) (a5 l2 r2)).lt (Q0.bF m2);obtain⟨y,z,es,hy,_,a6,_⟩:=right l1 h1;have:=a7 hy a6 (a2 l1 r1);omega;obtain⟨y,z,es,hy,_,a6,_⟩:=right l1 h1;obtain⟨y',z',es',aU,_,aB,_⟩:=right l2 h2;have:=kr.apart _ _ y y' b hy aU (Iz a6) (Iz aB) (a2 l1 r1) (a2 l2 r2);omega;by_cases hl:i<h.length;have hlt:=(k.objs i x _ (left hl hi) (a5 hl a1)).lt (Q0.bF hx);rw[if_pos hlt,d.root i x b (left hl hi) hx (a5 hl a1)];simp only[hl,if_true];obtain⟨y,z,es,hy,_,a6,_⟩:=right hl hi;have:=a7 hy a6 (a2 hl a1);rw[if_neg (by omega),dr.root _ y b hy (Iz a6) (a2 hl a1)];simp;omega;by_cases hl:i<h.length;have hlt:=(k.objs i x _ (left hl hi) (a5 hl a1)).lt (Q0.bF (Q0.bQ hd));exact(d.tree i x z es b (left hl hi) hd (a5 hl a1)).go (Zi _) (fun o _=>by unfold World.cell?;rw[hb.block b hlt]) ((k.objs i x _ (left hl hi) (a5 hl a1)).rows hd).2 (fun c b' X aI e=>⟨by rw[if_pos aI,e];simp only[Zh,Zk,hl,if_true],hb.block b' aI⟩);obtain⟨y,z1,aw,hy,hD,a6,rfl⟩:=right hl hi;cases hd;have e0:h.length+(i-h.length)=i:=by omega
 intro i1 e1 j1 p1 h1 h2;obtain⟨v,hv,ht⟩:=PN kr.toHR0 dr hy hD a6 (a2 hl a1) i1 e1 j1 p1 h1 h2;exact⟨v,hv,io.up k.le (fun b' au=>if_neg (by omega)) e0 p1 v ht⟩;have:=hb.size;rw[if_neg (by omega),nr.new b au];by_cases hl:o<h.length;split at e;split at e;rename_i o' X' hk;split at e;cases e;exact .inl (n.zone b o c X z es hk (left hl ho));cases e;cases e;split at e;cases e;omega;cases e;split at e;split at e;split at e;cases e;omega;cases e;cases e;rename_i b7;split at e;rename_i o' X' hk;cases e;refine .inr ⟨by omega,?_,fun i a1=> ?_⟩;by_cases hlt:b<w'.heap.size;exact hlt;rw[nr.new b (by omega)]at hk;cases hk;have hi:i<hr.length:=by rw[<-aH];exact(Zb.1 a1).1
 have hy:hr[i]? =some hr[i]:=by simp[hi]
 have a6:=(Zu.1 c2) _ (Zf hi);rw[dr.root i _ b hy (Iz a6) a1]at hk;cases hk;cases e;refine VR.cH (fun l u hl aj=> ?_) c1 vr;cases l with
 |pv p=>exact Iu hl aj
 |nil=>exact aj
 |arr o=>obtain⟨q,y,h1,h2,h3⟩:=aj;refine⟨q,y.zone,?_,?_,?_⟩;rw[Zm (by rw[k.len];omega),k.len];simpa using h1;rw[Zm (by omega)];simp[h2];have a6:=(Zu.1 c2) y (Zn h2);obtain⟨z,es,hD⟩:=Tc a6;rcases hD with rfl|rfl<;>exact h3
 |_=>cases hl
end
end Gi
namespace Gi
open Go Go.RowKit
variable {KI:KF}
def reN (S:Nat->Bool)(mv:Nat->Nat->Option Nat)(N:Nat):List Nat->List Nat
 |[]=>[]
 |[o]=>if S o then []else [o]
 |o::c::X=>if S o then(match mv o c with
  |some c'=>N::c'::X
  |none=>[])else o::c::X
section
variable {M0:Nat->Prop}{base:Nat}{w:World}{J:List (Option Nat)}
def Deep.cm {κ:Nat->List Nat}{h H:List Q0}(k:HR0 M0 base w J h)(d:Deep κ base w J h)(nz:Zon κ M0 w h){S:Nat->Bool}{mv:Nat->Nat->Option Nat}{N z:Nat}{es:List (List PV)}{r:Option Nat}{w':World}
 (hρ:J.length=N) (hlen:H.length=N) (stay:∀(i:Nat)(x:Q0),H[i]? =some x->x.mut=true->h[i]? =some x/\ S i=false)
 (hr:∀b,r=some b->b<w'.heap.size/\ (w.heap.size<=b \/∃o ob,S o=true/\ h[o]? =some ob/\ ob.mut=true/\ J[o]? =some (some b)))
 (ab:∀b,b<w.heap.size->r≠some b->w'.heap[b]? =w.heap[b]?) (aJ:w.heap.size<=w'.heap.size)
 (a8:∀b,r=some b->∀(i:Nat)(e:List PV)(j:Nat)(p:PV),es[i]? =some e->e[j]? =some p->∃v,w'.cell? ⟨b,i*z+j,none⟩=some v/\
  ((∃o c,S o=true/\ mv o c=some (i*z+j)/\ io κ base w p ([o]++[c]) v) \/∀κ' π w',io κ' base w' p π v)):
 ∃κ',Deep κ' base w' (J++[r]) (H++[.bA z es])/\ Zon κ' M0 w' (H++[.bA z es]):=by
 have af:∀{b:Nat}{i c:Nat}{X:List Nat},b<w.heap.size->κ b=i::c::X->r≠some b:=by intro b i c X hb e e0;rcases(hr b e0).2 with h1|⟨o,ob,_,h2,h3,h4⟩;omega;rw[d.root o ob b h2 h3 h4]at e;cases e
 have ag:∀{i:Nat}{x:Q0}{b:Nat},h[i]? =some x->S i=false->x.mut=true->J[i]? =some (some b)->r≠some b:=by intro i x b h1 hs hm a1 e0;have hb:=(k.objs i x _ h1 a1).lt (Q0.bF hm);rcases(hr b e0).2 with h2|⟨o,ob,h3,h4,h5,h6⟩;omega;have:=k.apart i o x ob b h1 h4 hm h5 a1 h6;subst this;rw[hs]at h3;cases h3
 refine⟨fun b=>if r=some b then [N]else reN S mv N (κ b),⟨fun i x b hi hm a1=> ?_,fun i x z1 aw b hi hd a1=> ?_⟩,fun b hb=> ?_,fun b i c X z1 aw e hi=> ?_⟩;by_cases hlt:i<N;rw[Ze (by omega)]at hi;rw[Ze (by omega)]at a1;obtain⟨g1,g2⟩:=stay i x hi hm;rw[if_neg (ag g1 g2 hm a1),d.root i x b g1 hm a1];simp only[reN,g2,ZA,if_false];have h1:=(Zb.1 hi).1;simp[hlen]at h1;obtain rfl:i=N:=by omega
 rw[<-hρ]at a1;simp at a1;exact if_pos a1;by_cases hlt:i<N;rw[Ze (by omega)]at hi;rw[Ze (by omega)]at a1;have hm:=Q0.bQ hd;obtain⟨g1,g2⟩:=stay i x hi hm;have hb:=(k.objs i x _ g1 a1).lt (Q0.bF hm);have aV:=ag g1 g2 hm a1;exact(d.tree i x z1 aw b g1 hd a1).go (Zi _) (fun o _=>by unfold World.cell?;rw[ab b hb aV]) ((k.objs i x _ g1 a1).rows hd).2 (fun c b2 X ak e=>by
  have q:=af ak e
  refine⟨?_,ab b2 ak q⟩
  rw[if_neg q,e]
  simp only[Zh,Zk,reN,g2,ZA,if_false])
 have h1:=(Zb.1 hi).1;simp[hlen]at h1;obtain rfl:i=N:=by omega
 rw[<-hρ]at a1;simp at a1;have aW:x= .bA z es:=by
  have:(H++[Q0.bA z es])[H.length]? =some (.bA z es):=by simp
  rw[hlen,hi]at this;cases this;rfl
 subst aW;cases hd;intro i1 e1 j1 p1 he1 aX;obtain⟨v,hv,al⟩:=a8 b a1 i1 e1 j1 p1 he1 aX;refine⟨v,hv,?_⟩;rcases al with⟨o,c,hs,aY,ht⟩|ht;refine io.go (Zi _) p1 _ _ v (fun b2 X ak e=> ?_) ht;have q:=af ak e;refine⟨?_,ab b2 ak q⟩;rw[if_neg q,e];simp only[Zh,Zk,reN,hs,if_true,aY,hρ];exact ht _ _ _;rw[if_neg fun e=>by have:=(hr b e).1;omega,nz.new b (by omega)];rfl;split at e;cases e;have hlt:i<N:=by have h1:=(Zb.1 hi).1;simp[hlen]at h1;by_cases hN:i=N;subst hN;rw[<-hlen]at hi;simp at hi;omega
 rw[Ze (by omega)]at hi;obtain⟨g1,g2⟩:=stay i _ hi rfl;cases hk:κ b with
 |nil=>rw[hk]at e;cases e
 |cons x τ0=>
  rw[hk]at e;cases τ0 with
  |nil=>simp only[reN]at e;split at e<;>cases e
  |cons c0 τ1=>simp only[reN]at e;split at e;split at e;cases e;omega;cases e;cases e;exact nz.zone b i c X z1 aw hk g1
end
section
variable {Γ:Ctx}{P:Program}{M0:Nat->Prop}{base:Nat}{Z:St}{a:Act}{w:World}{J:List (Option Nat)}
end
end Gi
namespace Gi
open Go Go.RowKit
variable {KI:KF}
section
variable {Γ:Ctx}{P:Program}{M0:Nat->Prop}{base:Nat}{Z:St}{a:Act}{w:World}{J:List (Option Nat)}
def R8 {h h2:List Q0}{o:Nat}(e:∀x,h2.set o x=h.set o x){q:Nat}(hq:q≠o):h2[q]? =h[q]? :=by have:=congrArg (fun l=>l[q]?) (e .dead);simpa only[Za (Ne.symm hq)]using this
def Rs (s:SR Γ M0 base Z a w J){f z bytes:Nat}(ok:CN P f z bytes){src:Option (Nat×List (List PV))}{o2:Nat}{vs:List (List PV)}(aK:dg Z.h o2=some (z,vs))(hm:0<vs.length){i:Nat}(hi:i<=(cq src).length)
 (aC:((cq src).length+vs.length)*bytes<=140737488355328) (aZ:(cq src).length+vs.length<=maxLen) {ux uv:Value}
 (rx:(src=none/\ ∃ad,ux= .slice ad 0 0) \/∃o es,src=some (o,es)/\ dg Z.h o=some (z,es)/\ o≠o2/\ LR (Mu M0 J Z.h) w J Z.h (.arr o) ux) (rv:LR (Mu M0 J Z.h) w J Z.h (.arr o2) uv):
 Calls P f #[ux, .int .i64 i,uv] w fun e w'=>∃u J',e= .returned u/\ Below base w w'/\ HR M0 base w' J' ((cJ src Z.h).set o2 .dead++[.bA z ((cq src).take i++vs++(cq src).drop i)])/\
  Ch (Mu M0 J Z.h) (Mu M0 J' ((cJ src Z.h).set o2 .dead++[.bA z ((cq src).take i++vs++(cq src).drop i)])) w w' J J' Z.h ((cJ src Z.h).set o2 .dead++[.bA z ((cq src).take i++vs++(cq src).drop i)])/\
  VR (Mu M0 J' ((cJ src Z.h).set o2 .dead++[.bA z ((cq src).take i++vs++(cq src).drop i)])) w' J' ((cJ src Z.h).set o2 .dead++[.bA z ((cq src).take i++vs++(cq src).drop i)]) (.one (.arr Z.h.length)) u:=by
 obtain⟨κ,d,nz⟩:=s.hr.deep;obtain⟨r2,_,aL,_,_⟩:=id rv;obtain⟨b9,aM,b1,ba,_,aD⟩:=k6 s.hr.toHR0 d aK aL;obtain⟨h2,e1,e2,e3,k2,c2⟩:=s.hr.cQ aM b1;have ah:∀o es,src=some (o,es)->o≠o2/\ dg Z.h o=some (z,es):=fun o es e=>by rcases rx with⟨e0,_⟩|⟨_,_,e0,g1,g2,_⟩;rw[e0]at e;cases e;rw[e0]at e;cases e;exact⟨g2,g1⟩
 obtain⟨h3,f1,f2,f3,k3,c3,b3⟩:∃h3,h3.length=Z.h.length/\ h3[o2]? =some (.arr z vs)/\ (cJ src h3).set o2 .dead=(cJ src Z.h).set o2 .dead/\ HR M0 base w J h3/\ Ch (Mu M0 J Z.h) (Mu M0 J h3) w w J J Z.h h3/\
  ((src=none/\ ∃ad,ux= .slice ad 0 0) \/∃o es,src=some (o,es)/\ h3[o]? =some (.arr z es)/\ o≠o2/\ LR (Mu M0 J h3) w J h3 (.arr o) ux):=by rcases rx with⟨rfl,h⟩|⟨o,es,rfl,hd,ae,rx⟩;exact⟨h2,e2,e1,e3 _,k2,c2, .inl ⟨rfl,h⟩⟩;obtain⟨r,_,hr,_,_⟩:=id rx;obtain⟨ob,ho,hD,_,_,_⟩:=k6 s.hr.toHR0 d hd hr;obtain⟨h3,f1,f2,f3,k3,c3⟩:=k2.cQ (by rw[R8 e3 ae];exact ho) hD;refine⟨h3,f2.trans e2,by rw[R8 f3 (Ne.symm ae)];exact e1,?_,k3,c2.trans c3, .inr ⟨o,es,rfl,f1,ae,LR.ch (c2.trans c3) rx⟩⟩;show(h3.set o .dead).set o2 .dead=(Z.h.set o .dead).set o2 .dead;rw[f3,YX _ _ ae,e3,YX _ _ (Ne.symm ae)]
 have aE:∀o es,src=some (o,es)->∀r,J[o]? =some r->∃ob,Z.h[o]? =some ob/\ ob.mut=true:=fun o es e r hr=>by obtain⟨ob,ho,_,b4,_,_⟩:=k6 s.hr.toHR0 d (ah o es e).2 hr;exact⟨ob,ho,b4⟩
 refine(Ck k3 ok f2 hm hi aC aZ b3 (LR.ch c3 rv)).mono fun e w'⟨b',c',cur',he,hb,g1,g2,aa,hs,hn,hc,b5,aJ,b6,ai⟩=> ?_;subst he;have aN:=KP (vs:=vs) hi;have bb:(cJ src h3).length=Z.h.length:=by cases src<;>simp[cJ,f1]
 have aO:((cJ src Z.h).set o2 .dead).length=Z.h.length:=by cases src<;>simp[cJ]
 have an:o2<Z.h.length:=(Zb.1 aM).1;have hH:(cJ src h3++[.arr z ((cq src).take i++vs++(cq src).drop i)])[o2]? =some (.arr z vs):=by
  rw[Ze (by omega)];cases src with
  |none=>exact f2
  |some y=>show(h3.set y.1 .dead)[o2]? =_;rw[Za (ah y.1 y.2 rfl).1];exact f2
 obtain⟨k4,c4⟩:=g1.c6 (w':=w') (ob':= .dead) hH (by rw[Ze (by rw[s.hr.len];exact an)];exact aL) rfl trivial rfl (fun _ _=>rfl) (fun b cur _ aA=>⟨cur,aA,rfl⟩) (fun _=>trivial);rw[Qx _ _ (by omega),f3]at k4 c4;obtain⟨κ',d'⟩:=Deep.cm (H:=(cJ src Z.h).set o2 .dead) (S:=fun x=>x==o2||(match src with|some y=>x==y.1|none=>false)) (mv:=fun x c=>some (if x=o2 then i*z+c else if c<i*z then c else c+vs.length*z)) (N:=Z.h.length) (z:=z)
  (es:=(cq src).take i++vs++(cq src).drop i) (r:=some b') (w':=w') s.hr.toHR0 d nz s.hr.len aO
  (fun x y hx hy=>by
   by_cases ax:o2=x
   ·subst ax
    rw[Zd (by cases src<;>simpa[cJ]using an)]at hx
    cases hx;cases hy
   ·rw[Za ax]at hx
    cases src with
    |none=>exact⟨hx,by simpa using fun e=>ax e.symm⟩
    |some q=>
     have ao:(Z.h.set q.1 .dead)[x]? =some y:=hx
     by_cases aF:q.1=x
     ·rw[<-aF,Zd]at ao
      ·cases ao;cases hy
      ·have:=(Zb.1 ao).1
       simpa using this
     ·rw[Za aF]at ao
      exact⟨ao,by simpa using⟨fun e=>ax e.symm,fun e=>aF e.symm⟩⟩)
  (fun b e=>by
   cases e
   refine⟨aa.lt,?_⟩
   rcases b5 with⟨o,es,e,h⟩|h
   ·obtain⟨ob,q1,q2⟩:=aE o es e _ h
    exact .inr ⟨o,ob,by subst e;simp,q1,q2,h⟩
   ·exact .inl h)
  (fun b hb ae=>b6 b hb (fun e=>ae (by rw[e]))) aJ
  (fun b e i1 e1 j1 p1 he hp=>by
   cases e
   obtain⟨v,hv,hf⟩:=ai i1 e1 j1 p1 he hp
   refine⟨v,by rw[aa.cell];exact hv, .inl ?_⟩
   rcases hf with⟨o,es,i0,b,q1,q2,q3,q4,q5⟩|⟨i0,b,q2,q3,q4,q5⟩
   ·obtain⟨ae,hd⟩:=ah o es q1
    obtain⟨_,_,_,_,_,a8⟩:=k6 s.hr.toHR0 d hd q2
    obtain⟨v',aq,ht⟩:=(a8 b rfl).2 i0 e1 j1 p1 q3 hp
    rw[q4]at aq;cases aq
    exact⟨o,_,by subst q1;simp,by simp only[if_neg ae];rw[q5],ht⟩
   ·obtain⟨_,_,_,_,_,a8⟩:=k6 s.hr.toHR0 d aK q2
    obtain⟨v',aq,ht⟩:=(a8 b rfl).2 i0 e1 j1 p1 q3 hp
    rw[q4]at aq;cases aq
    exact⟨o2,_,by simp,by simp only[if_true];rw[q5],ht⟩)
 obtain⟨k5,c5⟩:=k4.cP d';refine⟨_,_,rfl,hb,k5,c3.trans (g2.trans (c4.trans c5)),some b', .bA z ((cq src).take i++vs++(cq src).drop i),?_,?_,cur',c',aa,hs,by rw[aN];exact hn,hc,by rw[aN]⟩;rw[<-s.hr.len];simp;rw[<-aO];simp
end
end Gi
