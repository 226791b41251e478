/- Of this proof. -/
import Derived.Test.YtpnolnkjijmfjaaGreatGilc
set_option linter.all false
namespace Gi
open Go Go.RowKit
variable {KI:KF}
def L.clean :L->Bool
 | .pv _=>true
 | .nil=>true
 | .own _ _=>true
 | .down _ _=>true
 |_=>false
def V.clean :V->Bool
 | .one l=>l.clean
 | .agg ls=>ls.all L.clean
 | .b8 xs=>xs.all fun x=>x.2.all L.clean
def uD [KF](M:Nat->Prop)(w:World)(xz:List V)(a6:List Value):Prop:=
 xz.length=a6.length/\ ∀(i:Nat)(x:V)(u:Value),xz[i]? =some x->a6[i]? =some u->VR M w [] [] x u
def AU [KF](M0:Nat->Prop)(base:Nat)(w:World)(r:V)(v:Value):Prop:=
 ∃J',HR M0 base w J' (thaw [] r).2/\ VR (Mu M0 J' (thaw [] r).2) w J' (thaw [] r).2 (thaw [] r).1 v
def CP [KF](Γ:Ctx)(P:Program)(f:FuncId)(xz:List V)(r:V):Prop:=
 r.clean=true/\ ∀(M0:Nat->Prop)(w:World)(a6:Array Value),Γ.G w->(∀b,M0 b->b<w.heap.size)->uD M0 w xz a6.toList->
  Calls P f a6 w fun e w'=>∃v,e= .returned v/\ Below w.heap.size w w'/\ AU M0 w.heap.size w' r v
section
variable {Γ:Ctx}{P:Program}{M0:Nat->Prop}{base:Nat}{Z:St}{a:Act}{w:World}{J:List (Option Nat)}
def tc (n:Nat):L->L
 | .arr o=> .arr (n+o)
 |l=>l
def ov :∀(ls:List L)(g h:List Q0),ls.all L.clean=true->thawL (h++g) ls=((thawL g ls).1.map (tc h.length),h++(thawL g ls).2)
 |[],g,h,_=>rfl
 |l::ls,g,h,hc=>by
  simp only[Zq,Zg]at hc;cases l with
  |own z es=>have ih:=ov ls (g++[.arr z es]) h hc.2;simp only[thawL,List.append_assoc]at ih⊢;rw[ih];simp[tc]
  |down z es=>have ih:=ov ls (g++[.bA z es]) h hc.2;simp only[thawL,List.append_assoc]at ih⊢;rw[ih];simp[tc]
  |pv p=>simp only[thawL];rw[ov ls g h hc.2];simp[tc]
  |nil=>simp only[thawL];rw[ov ls g h hc.2];simp[tc]
  |_=>simp[L.clean]at hc
def GQ :∀(xs:List (Bool×List L))(g h:List Q0),(xs.all fun x=>x.2.all L.clean)=true->thawT (h++g) xs=((thawT g xs).1.map (fun x=>(x.1,x.2.map (tc h.length))),h++(thawT g xs).2)
 |[],g,h,_=>rfl
 |(b,ls)::xs,g,h,hc=>by simp only[Zq,Zg]at hc;simp only[thawT];rw[ov ls g h hc.1];simp only;rw[GQ xs (thawL g ls).2 h hc.2];simp
def FY (n:Nat):V->V
 | .one l=> .one (tc n l)
 | .agg ls=> .agg (ls.map (tc n))
 | .b8 xs=> .b8 (xs.map fun x=>(x.1,x.2.map (tc n)))
def mp (h:List Q0)(l:L):∃l' h',thawL h [l]=([l'],h'):=by cases l<;>exact⟨_,_,rfl⟩
def KU (r:V)(h:List Q0)(hc:r.clean=true):thaw h r=(FY h.length (thaw [] r).1,h++(thaw [] r).2):=by
 cases r with
 |one l=>have e:=ov [l] [] h (by simpa[V.clean]using hc);simp only[Zw]at e;obtain⟨l',h',e'⟩:=mp [] l;simp only[thaw,e,e',Zt,Zy,FY]
 |agg ls=>have e:=ov ls [] h (by simpa[V.clean]using hc);simp only[Zw]at e;simp only[thaw,e,FY]
 |b8 xs=>have e:=GQ xs [] h (by simpa[V.clean]using hc);simp only[Zw]at e;simp only[thaw,e,FY]
def Q0.br :Q0->Prop
 | .arr _ _=>True
 | .bA _ _=>True
 |_=>False
def tH (h:List Q0):Prop:=∀ob∈h,ob.br
def uB :∀(ls:List L)(g:List Q0),tH g->tH (thawL g ls).2
 |[],_,h=>h
 |l::ls,g,h=>by
  cases l with
  |own z es=>simp only[thawL];refine uB ls _ (fun ob ai=> ?_);rcases Ye.1 ai with h1|h1;exact h ob h1;simp at h1;subst h1;trivial
  |down z es=>simp only[thawL];refine uB ls _ (fun ob ai=> ?_);rcases Ye.1 ai with h1|h1;exact h ob h1;simp at h1;subst h1;trivial
  |_=>simp only[thawL];exact uB ls g h
def MQ :∀(xs:List (Bool×List L))(g:List Q0),tH g->tH (thawT g xs).2
 |[],_,h=>h
 |(b,ls)::xs,g,h=>by simp only[thawT];exact MQ xs _ (uB ls g h)
def Sw (r:V):tH (thaw [] r).2:=by
 have h0:tH []:=fun ob h=>by cases h
 cases r with
 |one l=>obtain⟨l',h',e'⟩:=mp [] l;have:=uB [l] [] h0;simp only[thaw,e']at this⊢;exact this
 |agg ls=>exact uB ls [] h0
 |b8 xs=>exact MQ xs [] h0
def L.bz :L->Bool
 | .pv _=>true
 | .nil=>true
 | .arr _=>true
 |_=>false
def qk :∀(ls:List L)(g:List Q0),ls.all L.clean=true->(thawL g ls).1.all L.bz=true
 |[],_,_=>rfl
 |l::ls,g,hc=>by
  simp only[Zq,Zg]at hc;cases l with
  |own z es=>simp only[thawL,Zq,L.bz,Yj];exact qk ls _ hc.2
  |down z es=>simp only[thawL,Zq,L.bz,Yj];exact qk ls _ hc.2
  |pv p=>simp only[thawL,Zq,L.bz,Yj];exact qk ls _ hc.2
  |nil=>simp only[thawL,Zq,L.bz,Yj];exact qk ls _ hc.2
  |_=>simp[L.clean]at hc
def KT :∀(xs:List (Bool×List L))(g:List Q0),(xs.all fun x=>x.2.all L.clean)=true->((thawT g xs).1.all fun x=>x.2.all L.bz)=true
 |[],_,_=>rfl
 |(b,ls)::xs,g,hc=>by simp only[Zq,Zg]at hc;simp only[thawT,Zq,Zg];exact⟨qk ls g hc.1,KT xs _ hc.2⟩
mutual
def io.up {κ κ':Nat->List Nat}{lo ab n i i':Nat}{w:World}(ad:ab<=lo)(hκ:∀b,lo<=b->κ' b=match κ b with
 |o::X=>(n+o)::X
 |[]=>[])(hi:n+i=i'):∀(p:PV)(v:Value){X:List Nat},io κ lo w p ([i]++X) v->io κ' ab w p ([i']++X) v
 | .int _ _,_,_,r=>by simpa only[io]using r
 | .bool _,_,_,r=>by simpa only[io]using r
 | .str _,_,_,r=>by simpa only[io]using r
 | .lst es,v,X,r=>by simp only[io]at r⊢;rcases r with r|⟨b,c,z,cur,e,hb,hk,hz,hr,h1,h2,h3,ht⟩;exact .inl r;exact .inr ⟨b,c,z,cur,e,Zc ad hb,by rw[hκ b hb,hk];simp[hi],hz,hr,h1,h2,h3,hJ.up ad hκ hi z es b 0 ht⟩
def jI.up {κ κ':Nat->List Nat}{lo ab n i i':Nat}{w:World}(ad:ab<=lo)(hκ:∀b,lo<=b->κ' b=match κ b with
 |o::X=>(n+o)::X
 |[]=>[])(hi:n+i=i'):∀(ps:List PV)(b o:Nat){X:List Nat},jI κ lo w ps ([i]++X) b o->jI κ' ab w ps ([i']++X) b o
 |[],_,_,_,_=>by simp only[jI]
 |p::ps,b,o,X,r=>by simp only[jI]at r⊢;obtain⟨⟨v,hv,hp⟩,r⟩:=r;rw[List.append_assoc]at hp;refine⟨⟨v,hv,?_⟩,jI.up ad hκ hi ps b (o+1) r⟩;rw[List.append_assoc];exact io.up ad hκ hi p v hp
def hJ.up {κ κ':Nat->List Nat}{lo ab n i i':Nat}{w:World}(ad:ab<=lo)(hκ:∀b,lo<=b->κ' b=match κ b with
 |o::X=>(n+o)::X
 |[]=>[])(hi:n+i=i')(z:Nat):∀(es:List (List PV))(b o:Nat){X:List Nat},hJ κ lo w z es ([i]++X) b o->hJ κ' ab w z es ([i']++X) b o
 |[],_,_,_,_=>by simp only[hJ]
 |e::es,b,o,X,r=>by simp only[hJ]at r⊢;exact⟨r.1,jI.up ad hκ hi e b o r.2.1,hJ.up ad hκ hi z es b (o+z) r.2.2⟩
end
def HR.join {h hr:List Q0}{ρr:List (Option Nat)}{w':World}(k:HR M0 base w J h)(hb:Below w.heap.size w w')(kr:HR (Mu M0 J h) w.heap.size w' ρr hr)(ha:tH hr):
 HR M0 base w' (J++ρr) (h++hr)/\ Ch (Mu M0 J h) (Mu M0 (J++ρr) (h++hr)) w w' J (J++ρr) h (h++hr)/\ (∀b,Mu M0 (J++ρr) (h++hr) b->Mu (Mu M0 J h) ρr hr b):=by
 have left:∀{i:Nat}{x:Q0},i<h.length->(h++hr)[i]? =some x->h[i]? =some x:=fun hi e=>by rwa[Ze hi]at e
 have a2:∀{i:Nat}{x:Option Nat},i<h.length->(J++ρr)[i]? =some x->J[i]? =some x:=fun hi e=>by rwa[Ze (by rw[k.len];exact hi)]at e
 have right:∀{i:Nat}{x:Q0},¬i<h.length->(h++hr)[i]? =some x->hr[i-h.length]? =some x:=fun hi e=>by rwa[Zm (by omega)]at e
 have a1:∀{i:Nat}{x:Option Nat},¬i<h.length->(J++ρr)[i]? =some x->ρr[i-h.length]? =some x:=fun hi e=>by rwa[Zm (by rw[k.len];omega),k.len]at e
 have mu:∀b,Mu M0 (J++ρr) (h++hr) b->Mu (Mu M0 J h) ρr hr b:=by intro b hm;rcases hm with hm|⟨i,x,hi,hx,a7⟩;exact .inl (.inl hm);by_cases hlt:i<h.length;exact .inl (.inr ⟨i,x,left hlt hi,hx,a2 hlt a7⟩);exact .inr ⟨_,x,right hlt hi,hx,a1 hlt a7⟩
 have c:Ch (Mu M0 J h) (Mu M0 (J++ρr) (h++hr)) w w' J (J++ρr) h (h++hr):=by refine⟨⟨hb.size,fun b hlt hm=> ?_,fun b hlt _=>hb.block b hlt⟩,fun b cur aE=>⟨cur,by obtain⟨T,ae⟩:=aE;exact⟨T,by rw[hb.block b (jb.lt ⟨T,ae⟩)];exact ae⟩,rfl⟩,fun i q x h1 h2 _=> ?_,fun o b z es p v h1 h2 _ hv=>by unfold World.cell? at hv⊢;rw[hb.block b ((k.objs o _ _ h2 h1).lt (by simp))];exact hv⟩;rcases mu b hm with hm|⟨i,x,hi,hx,a7⟩;exact hm;have:=(kr.objs i x _ hi a7).base hx;omega;have hlt:i<h.length:=(Zb.1 h2).1;exact⟨x,by rw[Ze (by rw[k.len];exact hlt)];exact h1,by rw[Ze hlt];exact h2,wx.refl _⟩
 have deep:∃κ,Deep κ base w' (J++ρr) (h++hr)/\ Zon κ M0 w' (h++hr):=by
  obtain⟨κ,d,n⟩:=k.deep;obtain⟨κr,dr,nr⟩:=kr.deep;refine⟨fun b=>if b<w.heap.size then κ b else match κr b with
   |o::X=>(h.length+o)::X
   |[]=>[],⟨fun i x b hi hx a7=> ?_,fun i x z es b hi hd a7=> ?_⟩,fun b aw=> ?_,fun b o c X z es e ho=> ?_⟩
  by_cases hlt:i<h.length;have hl:=(k.objs i x _ (left hlt hi) (a2 hlt a7)).lt (Q0.bF hx);rw[if_pos hl];exact d.root i x b (left hlt hi) hx (a2 hlt a7);have hl:=(kr.objs _ x _ (right hlt hi) (a1 hlt a7)).base hx;rw[if_neg (by omega),dr.root _ x b (right hlt hi) hx (a1 hlt a7)];simp;omega;by_cases hlt:i<h.length;have hl:=(k.objs i x _ (left hlt hi) (a2 hlt a7)).lt (Q0.bF (Q0.bQ hd));exact(d.tree i x z es b (left hlt hi) hd (a2 hlt a7)).go (Zi _) (fun o _=>by unfold World.cell?;rw[hb.block b hl]) ((k.objs i x _ (left hlt hi) (a2 hlt a7)).rows hd).2 (fun c b' X aa e=>⟨by rw[if_pos aa];exact e,hb.block b' aa⟩);have e0:h.length+(i-h.length)=i:=by omega
  have T:=dr.tree _ x z es b (right hlt hi) hd (a1 hlt a7);have ax:=((kr.objs _ x _ (right hlt hi) (a1 hlt a7)).rows hd).2;intro i1 e1 j1 p1 h1 h2;obtain⟨v,hv,ht⟩:=T i1 e1 j1 p1 h1 h2;exact⟨v,hv,io.up k.le (fun b' aw=>if_neg (by omega)) e0 p1 v ht⟩;have:=hb.size;rw[if_neg (by omega),nr.new b aw];by_cases hlt:o<h.length;split at e;exact n.zone b o c X z es e (left hlt ho);split at e;cases e;omega;cases e;exact(ha _ (Zn (right hlt ho))).elim
 refine⟨⟨⟨by simp[k.len,kr.len],fun b hm=>⟨ZD (k.old b hm).1 hb.size,fun i x hi hx a7=> ?_⟩,Zc k.le hb.size,fun i x q hi hq=> ?_,fun i i' x x' b h1 h2 m1 m2 r1 r2=> ?_⟩,deep⟩,c,mu⟩;by_cases hlt:i<h.length;exact(k.old b hm).2 i x (left hlt hi) hx (a2 hlt a7);have:=(kr.objs _ x _ (right hlt hi) (a1 hlt a7)).base hx;have:=(k.old b hm).1;omega
 ·by_cases hlt:i<h.length;have kx:=k.objs i x q (left hlt hi) (a2 hlt hq);exact kx.keep c (fun b e hd=>hb.block b (by subst e;exact kx.lt hd))
  ·have kx:=kr.objs _ x q (right hlt hi) (a1 hlt hq);have hx:=ha x (Zn (right hlt hi));have main:∀{z:Nat}{es:List (List PV)},BI (Mu (Mu M0 J h) ρr hr) w.heap.size w' ρr hr q (.arr z es)->BI (Mu M0 (J++ρr) (h++hr)) base w' (J++ρr) (h++hr) q (.arr z es):=by
    intro z es kx;obtain⟨hz,aq,kx⟩:=kx;refine⟨hz,aq,?_⟩;cases q with
    |none=>exact kx
    |some b=>obtain⟨af,cur,cap,g1,g2,g3,g4,g5⟩:=kx;refine⟨Zc k.le af,cur,cap,g1,g2,g3,g4,fun i1 e1 j1 p1 he1 aF=> ?_⟩;obtain⟨v,hv,ag⟩:=g5 i1 e1 j1 p1 he1 aF;exact⟨v,hv,ag.weak mu⟩
   cases x<;>first|exact main kx|exact hx.elim
 by_cases l1:i<h.length<;>by_cases l2:i'<h.length;exact k.apart i i' x x' b (left l1 h1) (left l2 h2) m1 m2 (a2 l1 r1) (a2 l2 r2);have e1:=(k.objs i x _ (left l1 h1) (a2 l1 r1)).lt (Q0.bF m1);have e2:=(kr.objs _ x' _ (right l2 h2) (a1 l2 r2)).base m2;omega;have e1:=(k.objs i' x' _ (left l2 h2) (a2 l2 r2)).lt (Q0.bF m2);have e2:=(kr.objs _ x _ (right l1 h1) (a1 l1 r1)).base m1;omega;have:=kr.apart _ _ x x' b (right l1 h1) (right l2 h2) m1 m2 (a1 l1 r1) (a1 l2 r2);omega
def LR.shift {h hr:List Q0}{ρr:List (Option Nat)}{M M':Nat->Prop}(hl:J.length=h.length)(mu:∀b,M' b->M b){l:L}{v:Value}(ht:l.bz=true)(r:LR M w ρr hr l v):LR M' w (J++ρr) (h++hr) (tc h.length l) v:=by
 cases l with
 |pv p=>exact cG.weak mu r
 |nil=>exact r
 |arr o=>obtain⟨q,ob,h1,h2,hs⟩:=r;refine⟨q,ob,?_,?_,hs⟩;rw[Zm (by omega),hl];simpa using h1;rw[Zm (by omega)];simpa using h2
 |_=>simp[L.bz]at ht
def xc.shift {h hr:List Q0}{ρr:List (Option Nat)}{M M':Nat->Prop}(hl:J.length=h.length)(mu:∀b,M' b->M b){ls:List L}{vs:List Value}(ht:ls.all L.bz=true)(r:xc M w ρr hr ls vs):xc M' w (J++ρr) (h++hr) (ls.map (tc h.length)) vs:=by refine⟨by simpa using r.1,fun i l v aa hv=> ?_⟩;simp only[Zp,Zl]at aa;obtain⟨l0,h0,rfl⟩:=aa;exact(r.2 i l0 v h0 hv).shift hl mu ((Zu.1 ht) l0 (Zn h0))
def VR.shift {h hr:List Q0}{ρr:List (Option Nat)}{M M':Nat->Prop}(hl:J.length=h.length)(mu:∀b,M' b->M b){x:V}{v:Value}(ht:(match x with| .one l=>l.bz| .agg ls=>ls.all L.bz| .b8 xs=>xs.all fun x=>x.2.all L.bz)=true)(r:VR M w ρr hr x v):VR M' w (J++ρr) (h++hr) (FY h.length x) v:=by
 cases x with
 |one l=>exact LR.shift hl mu ht r
 |agg ls=>obtain⟨cs,rfl,ae⟩:=r;exact⟨cs,rfl,ae.shift hl mu ht⟩
 |b8 xs=>
  obtain⟨vs,rfl,h1,h2⟩:=r;refine⟨vs,rfl,by simpa using h1,fun i x u hx hu=> ?_⟩;simp only[Zp,Zl]at hx;obtain⟨x0,h0,rfl⟩:=hx;have an:=(Zu.1 ht) x0 (Zn h0);have:=h2 i x0 u h0 hu;obtain⟨b,ls⟩:=x0;cases b with
  |true=>obtain⟨cs,rfl,ae⟩:=this;exact⟨cs,rfl,ae.shift hl mu an⟩
  |false=>
   match ls,this,an with
   |[l],this,an=>exact LR.shift hl mu (by simpa using an) this
def aad (r:V)(hc:r.clean=true):(match(thaw [] r).1 with| .one l=>l.bz| .agg ls=>ls.all L.bz| .b8 xs=>xs.all fun x=>x.2.all L.bz)=true:=by
 cases r with
 |one l=>obtain⟨l',h',e'⟩:=mp [] l;have:=qk [l] [] (by simpa[V.clean]using hc);simp only[thaw,e']at this⊢;simpa using this
 |agg ls=>exact qk ls [] (by simpa[V.clean]using hc)
 |b8 xs=>exact KT xs [] (by simpa[V.clean]using hc)
def Q0.ow :Q0->Q0
 | .bA z es=> .arr z es
 |ob=>ob
def xO :∀(ls:List L)(g:List Q0),thawL (g.map Q0.ow) (ls.map L.ow)=((thawL g ls).1,(thawL g ls).2.map Q0.ow)
 |[],g=>rfl
 |l::ls,g=>by
  cases l with
  |own z es=>have e:=xO ls (g++[.arr z es]);simp only[Qf,Zt,Zy,Q0.ow]at e;simp only[Zt,L.ow,thawL,e,Zr]
  |down z es=>have e:=xO ls (g++[.bA z es]);simp only[Qf,Zt,Zy,Q0.ow]at e;simp only[Zt,L.ow,thawL,e,Zr]
  |_=>simp only[Zt,L.ow,thawL,xO ls g]
def Ss :∀(xs:List (Bool×List L))(g:List Q0),thawT (g.map Q0.ow) (xs.map fun x=>(x.1,x.2.map L.ow))=((thawT g xs).1,(thawT g xs).2.map Q0.ow)
 |[],g=>rfl
 |(b,ls)::xs,g=>by simp only[Zt,thawT,xO,Ss xs]
def Vo (r:V):thaw [] r.ow=((thaw [] r).1,(thaw [] r).2.map Q0.ow):=by
 cases r with
 |one l=>have e:=xO [l] [];obtain⟨l',h',e'⟩:=mp [] l;simp only[Zy,Zt,e']at e;simp only[V.ow,thaw,e,e']
 |agg ls=>have e:=xO ls [];simp only[Zy]at e;simp only[V.ow,thaw,e]
 |b8 xs=>have e:=Ss xs [];simp only[Zy]at e;simp only[V.ow,thaw,e]
def L.bm {l:L}(h:l.clean=true):l.ow.clean=true:=by cases l<;>first|exact h|rfl
def Ls.bm {ls:List L}(h:ls.all L.clean=true):(ls.map L.ow).all L.clean=true:=by rw[Zu]at h⊢;intro x hx;obtain⟨y,hy,rfl⟩:=ZV.1 hx;exact L.bm (h y hy)
def V.bm {r:V}(h:r.clean=true):r.ow.clean=true:=by
 cases r with
 |one l=>exact L.bm h
 |agg ls=>exact Ls.bm h
 |b8 xs=>simp only[V.ow,V.clean,Zu]at h⊢;intro x hx;obtain⟨y,hy,rfl⟩:=ZV.1 hx;have:=Ls.bm (Zu.2 (h y hy));exact Zu.1 this
def GD {h:List Q0}{o:Nat}{ob:Q0}(e:(h.map Q0.ow)[o]? =some ob):∃ob',h[o]? =some ob'/\ ob'.ow=ob:=by
 rw[Zp]at e;cases q:h[o]? with
 |none=>rw[q]at e;cases e
 |some x=>rw[q]at e;exact⟨x,rfl,by simpa using e⟩
def J8 (ob:Q0):ob.ow.mut=ob.mut:=by cases ob<;>rfl
def adr {M:Nat->Prop}{J:List (Option Nat)}{h:List Q0}:Mu M J (h.map Q0.ow)=Mu M J h:=by funext b;apply propext;unfold Mu;constructor;rintro(q|⟨o,ob,e,m,r⟩);exact .inl q;obtain⟨ob',e',rfl⟩:=GD e;exact .inr ⟨o,ob',e',by rwa[J8]at m,r⟩;rintro(q|⟨o,ob,e,m,r⟩);exact .inl q;exact .inr ⟨o,ob.ow,by rw[Zp,e];rfl,by rw[J8];exact m,r⟩
def aaA {M:Nat->Prop}{J:List (Option Nat)}{h:List Q0}{l:L}{v:Value}(r:LR M w J h l v):LR M w J (h.map Q0.ow) l v:=by
 cases l with
 |ptr o i j=>obtain⟨r,ob,e1,e2,e3⟩:=r;exact⟨r,ob.ow,e1,by rw[Zp,e2];rfl,by cases ob<;>exact e3⟩
 |arr o=>obtain⟨r,ob,e1,e2,e3⟩:=r;exact⟨r,ob.ow,e1,by rw[Zp,e2];rfl,by cases ob<;>exact e3⟩
 |tp n=>obtain⟨o,b,e1,e2,e3⟩:=r;exact⟨o,b,e1,by rw[Zp,e2];rfl,e3⟩
 |sub o c=>obtain⟨q,b,z,es,e1,e2,e3⟩:=r;exact⟨q,b,z,es,e1,by rw[Zp,e2];rfl,e3⟩
 |cB o l r'=>obtain⟨h1,q,ob,e1,e2,e3,e4⟩:=r;exact⟨h1,q,ob.ow,e1,by rw[Zp,e2];rfl,by cases ob<;>simp_all[Q0.ow],fun hq=>by cases ob<;>first|exact e4 rfl|cases hq⟩
 |_=>exact r
def SY {M:Nat->Prop}{J:List (Option Nat)}{h:List Q0}{ls:List L}{vs:List Value}(r:xc M w J h ls vs):xc M w J (h.map Q0.ow) ls vs:=⟨r.1,fun i l v a b=>aaA (r.2 i l v a b)⟩
def aeX {M:Nat->Prop}{J:List (Option Nat)}{h:List Q0}{x:V}{v:Value}(r:VR M w J h x v):VR M w J (h.map Q0.ow) x v:=by
 cases x with
 |one l=>exact aaA r
 |agg ls=>obtain⟨cs,e,r⟩:=r;exact⟨cs,e,SY r⟩
 |b8 xs=>obtain⟨vs,e,hl,r⟩:=r;refine⟨vs,e,hl,fun i x u a b=> ?_⟩;have:=r i x u a b;split at this;obtain⟨cs,e,r⟩:=this;exact⟨cs,e,SY r⟩;exact aaA this;exact this.elim
def aeU {J:List (Option Nat)}{h:List Q0}(k:HR M0 base w J h):HR M0 base w J (h.map Q0.ow):=by
 obtain⟨⟨k1,k2,k3,k4,k5⟩,κ,⟨d1,d2⟩,z1,z2⟩:=k;refine⟨⟨by rw[Zr];exact k1,fun b hb=>⟨(k2 b hb).1,fun o ob e m=> ?_⟩,k3,fun o ob r e hr=> ?_,fun o o' ob ob' b e e' m m'=> ?_⟩,κ,⟨fun o ob b e m=> ?_,fun o ob z es b e hd=> ?_⟩,z1,fun b o c X z es hk e=> ?_⟩;obtain⟨ob',e',rfl⟩:=GD e;rw[J8]at m;exact(k2 b hb).2 o ob' e' m;obtain⟨ob',e',rfl⟩:=GD e;have:=k4 o ob' r e' hr;rw[adr];cases ob' with
 |box cs=>obtain⟨b,cur,h1,h2,h3,h4⟩:=this;exact⟨b,cur,h1,h2,h3,SY h4⟩
 |_=>exact this
 obtain⟨q,f,rfl⟩:=GD e;obtain⟨q',f',rfl⟩:=GD e';rw[J8]at m m';exact k5 o o' q q' b f f' m m';obtain⟨q,f,rfl⟩:=GD e;rw[J8]at m;exact d1 o q b f m;obtain⟨q,f,rfl⟩:=GD e;cases q with
 |bC z' es'=>exact d2 o _ z es b f hd
 |_=>cases hd
 obtain⟨q,f,hq⟩:=GD e;cases q with
 |bC z' es'=>cases hq;exact z2 b o c X z es hk f
 |_=>cases hq
def AU.ow {r:V}{v:Value}(h:AU M0 base w r v):AU M0 base w r.ow v:=by obtain⟨J',h1,h2⟩:=h;refine⟨J',?_,?_⟩;rw[Vo];exact aeU h1;rw[Vo,adr];exact aeX h2
def Kg {h:List Q0}{w':World}{r:V}{v:Value}(k:HR M0 base w J h)(hb:Below w.heap.size w w')(hc:r.clean=true)(rr:AU (Mu M0 J h) w.heap.size w' r v):
 ∃J',HR M0 base w' J' (thaw h r).2/\ Ch (Mu M0 J h) (Mu M0 J' (thaw h r).2) w w' J J' h (thaw h r).2/\ VR (Mu M0 J' (thaw h r).2) w' J' (thaw h r).2 (thaw h r).1 v:=by obtain⟨ρr,kr,vr⟩:=rr;obtain⟨g1,g2,g3⟩:=k.join hb kr (Sw r);rw[KU r h hc];exact⟨J++ρr,g1,g2,vr.shift k.len g3 (aad r hc)⟩
end
end Gi
namespace Gi
open Go Go.RowKit
variable {KI:KF}
section
variable {Γ:Ctx}{P:Program}{M0:Nat->Prop}{base:Nat}{Z:St}{a:Act}{w:World}{J:List (Option Nat)}
def Mu.lt {h:List Q0}(k:HR M0 base w J h){b:Nat}(hm:Mu M0 J h b):b<w.heap.size:=by rcases hm with hm|⟨o,ob,ho,ar,hr⟩;exact(k.old b hm).1;exact(k.objs o ob _ ho hr).lt (Q0.bF ar)
def L.ob :L->Option Q0
 | .own z es=>some (.arr z es)
 | .down z es=>some (.bA z es)
 |_=>none
def Q0.lst :Q0->List (List PV)
 | .arr _ es=>es
 | .bA _ es=>es
 |_=>[]
def adZ (g:List Q0)(ls:List L)(q:List L×List Q0):Prop:=
 q.1.length=ls.length/\ (∃t,q.2=g++t)/\
  ∀(i:Nat)(l:L),ls[i]? =some l->∃l',q.1[i]? =some l'/\ ((∃ob o,l.ob=some ob/\ l'= .arr o/\ q.2[o]? =some ob) \/(l.ob=none/\ l'=l))
def pB :∀(ls:List L)(g:List Q0),ls.all L.clean=true->adZ g ls (thawL g ls)
 |[],g,_=>⟨rfl,⟨[],by simp[thawL]⟩,fun i l hl=>by simp at hl⟩
 |l::ls,g,hc=>by
  simp only[Zq,Zg]at hc;have other:l.ob=none->thawL g (l::ls)=(l::(thawL g ls).1,(thawL g ls).2)->adZ g (l::ls) (thawL g (l::ls)):=fun ao e=>by
   obtain⟨h1,⟨t,ht⟩,h3⟩:=pB ls g hc.2;rw[e];refine⟨by simp[h1],⟨t,ht⟩,fun i l' hl=> ?_⟩;cases i with
   |zero=>simp at hl;subst hl;exact⟨l,rfl, .inr ⟨ao,rfl⟩⟩
   |succ i=>simpa using h3 i l' (by simpa using hl)
  have aj:∀ob,l.ob=some ob->thawL g (l::ls)=(.arr g.length::(thawL (g++[ob]) ls).1,(thawL (g++[ob]) ls).2)->adZ g (l::ls) (thawL g (l::ls)):=fun ob ai e=>by
   obtain⟨h1,⟨t,ht⟩,h3⟩:=pB ls (g++[ob]) hc.2;rw[e];refine⟨by simp[h1],⟨[ob]++t,by simp only;rw[ht,List.append_assoc]⟩,fun i l' hl=> ?_⟩;cases i with
   |zero=>simp at hl;subst hl;refine⟨.arr g.length,rfl, .inl ⟨ob,g.length,ai,rfl,?_⟩⟩;simp only;rw[ht,List.append_assoc,Zm (Zi _)];simp
   |succ i=>simpa using h3 i l' (by simpa using hl)
  cases l with
  |own z es=>exact aj _ rfl rfl
  |down z es=>exact aj _ rfl rfl
  |pv p=>exact other rfl rfl
  |nil=>exact other rfl rfl
  |_=>simp[L.clean]at hc
def Cs {h hr:List Q0}{ρr:List (Option Nat)}{w':World}(k:HR M0 base w J h)(hb:Below w.heap.size w w')(kr:HR (Mu M0 J h) w.heap.size w' ρr hr){l l':L}{v:Value}
 (hl:(∃ob o,l.ob=some ob/\ l'= .arr o/\ hr[o]? =some ob) \/(l.ob=none/\ l'=l)) (hc:l.clean=true) (r:LR (Mu (Mu M0 J h) ρr hr) w' ρr hr l' v):LR (Mu M0 J h) w' J h (fv l) v:=by
 have weak:∀b,Mu M0 J h b->Mu (Mu M0 J h) ρr hr b:=fun b hm=> .inl hm;rcases hl with⟨ob,o,e0,rfl,ho⟩|⟨ao,rfl⟩;obtain⟨q,ob',h1,h2,hs⟩:=r;rw[ho]at h2;cases h2;have main:∀{z:Nat}{es:List (List PV)},BI (Mu (Mu M0 J h) ρr hr) w.heap.size w' ρr hr q (.arr z es)->ru w' (.arr z es) q v->cG (Mu M0 J h) w' (.lst es) v:=by
  intro z es k0 hs;obtain⟨hz,aq,kx⟩:=k0;cases q with
  |none=>obtain rfl:es=[]:=kx;obtain⟨_,rfl⟩:=hs;simp only[cG];exact .inl ⟨by trivial,_,_,rfl⟩
  |some b=>
   obtain⟨af,cur,cap,au,g1,g2,g3,g4⟩:=kx;obtain⟨cur',aG,ay,_,aH,_,rfl⟩:=hs;exact yu au aq (fun hm=>by have:=Mu.lt k hm;omega) aH (fun i e j p he hp=>by
    obtain⟨v,hv,ag⟩:=g4 i e j p he hp
    exact⟨v,hv,ag.weak weak⟩)
 have k0:=kr.objs o _ q ho h1;cases l with
 |own z es=>cases e0;exact main k0 hs
 |down z es=>cases e0;exact main k0 hs
 |_=>cases e0
 cases l' with
 |pv p=>exact cG.weak weak r
 |nil=>exact r
 |own z es=>cases ao
 |down z es=>cases ao
 |_=>simp[L.clean]at hc
def GH {h:List Q0}{ρr:List (Option Nat)}{w':World}(k:HR M0 base w J h)(hb:Below w.heap.size w w'){ls:List L}{vs:List Value}{g:List Q0}{hr:List Q0}(aI:∃t,hr=(thawL g ls).2++t)(kr:HR (Mu M0 J h) w.heap.size w' ρr hr)(hc:ls.all L.clean=true)
 (r:xc (Mu (Mu M0 J h) ρr hr) w' ρr hr (thawL g ls).1 vs):xc (Mu M0 J h) w' J h (ls.map fv) vs:=by obtain⟨h1,_,h3⟩:=pB ls g hc;obtain⟨t,ht⟩:=aI;refine⟨by rw[Zr,<-h1];exact r.1,fun i l v hl hv=> ?_⟩;simp only[Zp,Zl]at hl;obtain⟨l0,h0,rfl⟩:=hl;obtain⟨l',aa,a5⟩:=h3 i l0 h0;refine Cs k hb kr ?_ ((Zu.1 hc) l0 (Zn h0)) (r.2 i l' v aa hv);rcases a5 with⟨ob,o,e1,e2,e3⟩|a5;exact .inl ⟨ob,o,e1,e2,by rw[ht,Ze (Zb.1 e3).1];exact e3⟩;exact .inr a5
def MR :∀(xs:List (Bool×List L))(g:List Q0),(xs.all fun x=>x.2.all L.clean)=true->∃t,(thawT g xs).2=g++t
 |[],g,_=>⟨[],by simp[thawT]⟩
 |(b,ls)::xs,g,hc=>by simp only[Zq,Zg]at hc;obtain⟨_,⟨t,ht⟩,_⟩:=pB ls g hc.1;obtain⟨t',aJ⟩:=MR xs (thawL g ls).2 hc.2;exact⟨t++t',by simp only[thawT];rw[aJ,ht,List.append_assoc]⟩
def KQ :∀(xs:List (Bool×List L))(g:List Q0),(xs.all fun x=>x.2.all L.clean)=true->(thawT g xs).1.length=xs.length/\
 ∀(i:Nat)(x:Bool×List L),xs[i]? =some x->∃g',(thawT g xs).1[i]? =some (x.1,(thawL g' x.2).1)/\ ∃t,(thawT g xs).2=(thawL g' x.2).2++t
 |[],g,_=>⟨rfl,fun i x hx=>by simp at hx⟩
 |(b,ls)::xs,g,hc=>by
  simp only[Zq,Zg]at hc;obtain⟨h1,h2⟩:=KQ xs (thawL g ls).2 hc.2;simp only[thawT];refine⟨by simp[h1],fun i x hx=> ?_⟩;cases i with
  |zero=>simp at hx;subst hx;exact⟨g,rfl,MR xs _ hc.2⟩
  |succ i=>simpa using h2 i x (by simpa using hx)
def Oj {h:List Q0}{w':World}{r:V}{v:Value}(k:HR M0 base w J h)(hb:Below w.heap.size w w')(hc:r.clean=true)(rr:AU (Mu M0 J h) w.heap.size w' r v):VR (Mu M0 J h) w' J h (fe r) v:=by
 obtain⟨ρr,kr,vr⟩:=rr;cases r with
 |one l=>
  obtain⟨l',h',e'⟩:=mp [] l;simp only[thaw,e']at kr vr;have ak:[l].all L.clean=true:=by simpa[V.clean]using hc
  obtain⟨_,_,h3⟩:=pB [l] [] ak;obtain⟨aK,a8,a5⟩:=h3 0 l rfl;rw[e']at a8 a5;simp at a8;subst a8;exact Cs k hb kr a5 (by simpa using ak) vr
 |agg ls=>obtain⟨cs,rfl,hl⟩:=vr;exact⟨cs,rfl,GH k hb ⟨[],by simp[thaw]⟩ kr (by simpa[V.clean]using hc) hl⟩
 |b8 xs=>
  have ak:(xs.all fun x=>x.2.all L.clean)=true:=by simpa[V.clean]using hc
  obtain⟨vs,rfl,h1,h2⟩:=vr;obtain⟨t1,t2⟩:=KQ xs [] ak;refine⟨vs,rfl,?_,fun i x u hx hu=> ?_⟩;simp only[fe,Zr];rw[<-t1];exact h1;simp only[Zp,Zl]at hx;obtain⟨x0,h0,rfl⟩:=hx;obtain⟨g',e1,e2⟩:=t2 i x0 h0;have:=h2 i _ u e1 hu;have ah:=(Zu.1 ak) x0 (Zn h0);obtain⟨b,ls⟩:=x0;cases b with
  |true=>obtain⟨cs,rfl,ae⟩:=this;exact⟨cs,rfl,GH k hb e2 kr ah ae⟩
  |false=>
   match ls,this,ah,e2 with
   |[l],this,ah,e2=>obtain⟨l',h',e'⟩:=mp g' l;simp only[e']at this;obtain⟨_,_,h3⟩:=pB [l] g' ah;obtain⟨aK,a8,a5⟩:=h3 0 l rfl;rw[e']at a8 a5;simp at a8;subst a8;obtain⟨t,ht⟩:=e2;refine Cs k hb kr ?_ (by simpa using ah) this;rcases a5 with⟨ob,o,q1,q2,q3⟩|a5;refine .inl ⟨ob,o,q1,q2,?_⟩;have:(thaw [] (V.b8 xs)).2=(thawT [] xs).2:=rfl;rw[this,ht,e',Ze (Zb.1 q3).1];exact q3;exact .inr a5
   |[],this,_,_=>exact this.elim
   |l1::l2::ls',this,ah,_=>
    have hlen:=(pB (l1::l2::ls') g' ah).1;revert this;generalize (thawL g' (l1::l2::ls')).1=q at hlen;intro this;match q,hlen,this with
    |_::_::_,_,this=>exact this.elim
def CM.weak {M M':Nat->Prop}(h:∀b,M' b->M b){e:List PV}{u:Value}(r:CM M w e u):CM M' w e u:=
 r.go ⟨Zi _,fun b _=>h b,fun _ _ _=>rfl⟩
def CM.arg {M:Nat->Prop}{e:List PV}{u:Value}(r:CM M w e u):VR M w [] [] (xg e) u:=by obtain⟨b,o,rfl,hb,hlt,hr⟩:=r;exact⟨b,o,rfl,hb,hlt,hr⟩
def m7 {h:List Q0}{M:Nat->Prop}:∀{vs xz:List V}{us:List Value},cy h vs=some xz->vs.length=us.length->(∀(i:Nat)(v:V)(u:Value),vs[i]? =some v->us[i]? =some u->VR (Mu M0 J h) w J h v u)->
 (∀(v:V)(l:L)(p:PV)(u:Value),v∈vs->l∈v.cells->LR (Mu M0 J h) w J h l u->l.view h=some p->cG M w p u)->(∀e u,CM (Mu M0 J h) w e u->CM M w e u)->uD M w xz us
 |[],xz,us,e,hl,_,_,_=>by simp[cy]at e;subst e;exact⟨hl,fun i x u hx=>by simp at hx⟩
 |v::vs,xz,[],e,hl,_,_,_=>by simp at hl
 |v::vs,xz,u::us,e,hl,az,ag,al=>by
  unfold cy at e;split at e;rename_i p ps h1 h2;cases e;obtain⟨i1,i2⟩:=m7 h2 (by simpa using hl) (fun i v' u' hv hu=>az (i+1) v' u' (by simpa using hv) (by simpa using hu)) (fun v' l p u' hv=>ag v' l p u' (by simp[hv])) al;refine⟨by simp[i1],fun i x u' hx hu=> ?_⟩;cases i with
  |succ i=>exact i2 i x u' (by simpa using hx) (by simpa using hu)
  |zero=>
   simp at hx hu;subst hx;subst hu;have r:=az 0 v u rfl rfl;cases v with
   |one l=>
    by_cases aA:∃k caps,l= .fn k caps;obtain⟨k,caps,rfl⟩:=aA;simp only[V.view]at h1;cases h1;obtain⟨f,cs,rfl,hk,aL,hc⟩:=r;refine⟨f,cs,rfl,hk,aL,fun i e u' he aM=> ?_⟩;exact al _ _ (hc i e u' he aM);have av:(match l.view h with|some p=>some (V.one (.pv p))|none=>none)=some p:=by
     cases l with
     |fn k caps=>exact absurd ⟨k,caps,rfl⟩ aA
     |_=>exact h1
    split at av;rename_i q hq;cases av;exact ag (.one l) l q u (by simp) (by simp[V.cells]) r hq;cases av
   |agg ls=>
    simp only[V.view]at h1;split at h1;rename_i qs aN;cases h1;obtain⟨cs,rfl,aB⟩:=r;obtain⟨e1,e2⟩:=rn aN;refine⟨cs,rfl,by rw[Zr,e1];exact aB.1,fun j l c aa hc=> ?_⟩;simp only[Zp,Zl]at aa;obtain⟨q,hq,rfl⟩:=aa;have hj:j<ls.length:=by rw[<-e1];exact(Zb.1 hq).1
    have aC:ls[j]? =some ls[j]:=by simp[hj]
    obtain⟨q',aD,aO⟩:=e2 j _ aC;rw[hq]at aD;cases aD;exact ag (.agg ls) ls[j] q c (by simp) (Zf hj) (aB.2 j _ c aC hc) aO;cases h1
   |b8 xs=>cases h1
  cases e
def Mu.nil (b:Nat):Mu M0 [] [] b↔M0 b:=by simp[Mu]
def Sb {fn:AFn}{xz:List V}{a6:Array Value}(hG:Γ.G w)(h0:∀b,M0 b->b<w.heap.size)(ha:uD M0 w xz a6.toList):
 SR Γ M0 w.heap.size (start fn xz) {tmps:=a6++Array.replicate (fn.ntmps-a6.size) undef,defers:=[]} w []:=by
 have hl:xz.length=a6.size:=by rw[ha.1];simp
 refine⟨⟨⟨rfl,fun b hb=>⟨h0 b hb,fun o ob ho=>by simp[start]at ho⟩,Zi _,fun o ob r ho=>by simp[start]at ho,fun o o' ob ob' b ho=>by simp[start]at ho⟩,fun _=>[],⟨fun o ob b ho=>by simp[start]at ho,fun o ob z es b ho=>by simp[start]at ho⟩,fun _ _=>rfl,nofun⟩,⟨rfl,by simp[start,hl],fun i v u hv hu=> ?_⟩,hG,Γ.size w hG⟩;have weak:∀{x:V}{u:Value},VR M0 w [] [] x u->VR (Mu M0 [] []) w [] [] x u:=fun r=>r.ch ⟨⟨Zi _,fun b _ hm=>(Mu.nil b).1 hm,fun _ _ _=>rfl⟩,fun _ cur hr=>⟨cur,hr,rfl⟩,fun o r ob hr=>by simp at hr,fun o b z es c v hr=>by simp at hr⟩;simp only[start]at hv;by_cases hi:i<xz.length;rw[Ze hi]at hv;rw[ZW (by omega)]at hu;exact weak (ha.2 i v u hv (by simpa using hu));rw[Zm (by omega)]at hv;rw[YN (by omega)]at hu;have e1:v= .b8 []:=by have:=(Zb.1 hv).2;simp at this;exact this.symm
 have e2:u=undef:=by have:=(Yq.1 hu).2;simp at this;exact this.symm
 rw[e1,e2];exact VR.undef
end
end Gi
