/- A part. -/
import Derived.Test.YtndiampmpmbfoaaGreatGilc
set_option linter.all false
namespace Gi
open Go Go.RowKit
variable {KI:KF}
def L.clean :L->Bool
 | .pv _=>true
 | .nil=>true
 | .own _ _=>true
 | .down _ _=>true
 |_=>false
def V.clean :V->Bool
 | .one l=>l.clean
 | .agg ls=>ls.all L.clean
 | .b9 xs=>xs.all fun x=>x.2.all L.clean
def qi [KF](M:Nat->Prop)(w:World)(xz:List V)(a7:List Value):Prop:=
 xz.length=a7.length/\ ∀(i:Nat)(x:V)(u:Value),xz[i]? =some x->a7[i]? =some u->VR M w [] [] x u
def xe [KF](M0:Nat->Prop)(base:Nat)(w:World)(r:V)(v:Value):Prop:=
 ∃J',HR M0 base w J' (thaw [] r).2/\ VR (Mu M0 J' (thaw [] r).2) w J' (thaw [] r).2 (thaw [] r).1 v
def zh [KF](Γ:Ctx)(P:Program)(f:FuncId)(xz:List V)(r:V):Prop:=
 r.clean=true/\ ∀(M0:Nat->Prop)(w:World)(a7:Array Value),Γ.G w->(∀b,M0 b->b<w.heap.size)->qi M0 w xz a7.toList->
  Calls P f a7 w fun e w'=>∃v,e= .returned v/\ Below w.heap.size w w'/\ xe M0 w.heap.size w' r v
section
variable {Γ:Ctx}{P:Program}{M0:Nat->Prop}{base:Nat}{Z:St}{a:Act}{w:World}{J:List (Option Nat)}
def pb (n:Nat):L->L
 | .arr o=> .arr (n+o)
 |l=>l
def lh :∀(ls:List L)(g h:List Y0),ls.all L.clean=true->thawL (h++g) ls=((thawL g ls).1.map (pb h.length),h++(thawL g ls).2)
 |[],g,h,_=>rfl
 |l::ls,g,h,hc=>by
  simp only[Zq,Zh]at hc
  cases l with
  |own z es=>
   have ih:=lh ls (g++[.arr z es]) h hc.2
   simp only[thawL,List.append_assoc]at ih⊢
   rw[ih]
   simp[pb]
  |down z es=>
   have ih:=lh ls (g++[.bA z es]) h hc.2
   simp only[thawL,List.append_assoc]at ih⊢
   rw[ih]
   simp[pb]
  |pv p=>simp only[thawL];rw[lh ls g h hc.2];simp[pb]
  |nil=>simp only[thawL];rw[lh ls g h hc.2];simp[pb]
  |_=>simp[L.clean]at hc
def Du :∀(xs:List (Bool×List L))(g h:List Y0),(xs.all fun x=>x.2.all L.clean)=true->thawT (h++g) xs=((thawT g xs).1.map (fun x=>(x.1,x.2.map (pb h.length))),h++(thawT g xs).2)
 |[],g,h,_=>rfl
 |(b,ls)::xs,g,h,hc=>by
  simp only[Zq,Zh]at hc
  simp only[thawT]
  rw[lh ls g h hc.1]
  simp only
  rw[Du xs (thawL g ls).2 h hc.2]
  simp
def Cz (n:Nat):V->V
 | .one l=> .one (pb n l)
 | .agg ls=> .agg (ls.map (pb n))
 | .b9 xs=> .b9 (xs.map fun x=>(x.1,x.2.map (pb n)))
def jA (h:List Y0)(l:L):∃l' h',thawL h [l]=([l'],h'):=by cases l<;>exact⟨_,_,rfl⟩
def HD (r:V)(h:List Y0)(hc:r.clean=true):thaw h r=(Cz h.length (thaw [] r).1,h++(thaw [] r).2):=by
 cases r with
 |one l=>
  have e:=lh [l] [] h (by simpa[V.clean]using hc)
  simp only[Zw]at e
  obtain⟨l',h',e'⟩:=jA [] l
  simp only[thaw,e,e',Zv,Zz,Cz]
 |agg ls=>
  have e:=lh ls [] h (by simpa[V.clean]using hc)
  simp only[Zw]at e
  simp only[thaw,e,Cz]
 |b9 xs=>
  have e:=Du xs [] h (by simpa[V.clean]using hc)
  simp only[Zw]at e
  simp only[thaw,e,Cz]
def Y0.bo :Y0->Prop
 | .arr _ _=>True
 | .bA _ _=>True
 |_=>False
def pA (h:List Y0):Prop:=∀ob∈h,ob.bo
def qf :∀(ls:List L)(g:List Y0),pA g->pA (thawL g ls).2
 |[],_,h=>h
 |l::ls,g,h=>by
  cases l with
  |own z es=>
   simp only[thawL]
   refine qf ls _ (fun ob aj=> ?_)
   rcases H'.1 aj with h1|h1
   ·exact h ob h1
   ·simp at h1;subst h1;trivial
  |down z es=>
   simp only[thawL]
   refine qf ls _ (fun ob aj=> ?_)
   rcases H'.1 aj with h1|h1
   ·exact h ob h1
   ·simp at h1;subst h1;trivial
  |_=>simp only[thawL];exact qf ls g h
def Jt :∀(xs:List (Bool×List L))(g:List Y0),pA g->pA (thawT g xs).2
 |[],_,h=>h
 |(b,ls)::xs,g,h=>by simp only[thawT];exact Jt xs _ (qf ls g h)
def NH (r:V):pA (thaw [] r).2:=by
 have h0:pA []:=fun ob h=>by cases h
 cases r with
 |one l=>
  obtain⟨l',h',e'⟩:=jA [] l
  have:=qf [l] [] h0
  simp only[thaw,e']at this⊢
  exact this
 |agg ls=>exact qf ls [] h0
 |b9 xs=>exact Jt xs [] h0
def L.bu :L->Bool
 | .pv _=>true
 | .nil=>true
 | .arr _=>true
 |_=>false
def nh :∀(ls:List L)(g:List Y0),ls.all L.clean=true->(thawL g ls).1.all L.bu=true
 |[],_,_=>rfl
 |l::ls,g,hc=>by
  simp only[Zq,Zh]at hc
  cases l with
  |own z es=>simp only[thawL,Zq,L.bu,Za6];exact nh ls _ hc.2
  |down z es=>simp only[thawL,Zq,L.bu,Za6];exact nh ls _ hc.2
  |pv p=>simp only[thawL,Zq,L.bu,Za6];exact nh ls _ hc.2
  |nil=>simp only[thawL,Zq,L.bu,Za6];exact nh ls _ hc.2
  |_=>simp[L.clean]at hc
def Hz :∀(xs:List (Bool×List L))(g:List Y0),(xs.all fun x=>x.2.all L.clean)=true->((thawT g xs).1.all fun x=>x.2.all L.bu)=true
 |[],_,_=>rfl
 |(b,ls)::xs,g,hc=>by
  simp only[Zq,Zh]at hc
  simp only[thawT,Zq,Zh]
  exact⟨nh ls g hc.1,Hz xs _ hc.2⟩
mutual
def eP.up {κ κ':Nat->List Nat}{lo ad n i i':Nat}{w:World}(ae:ad<=lo)(hκ:∀b,lo<=b->κ' b=match κ b with
 |o::X=>(n+o)::X
 |[]=>[])(hi:n+i=i'):∀(p:PV)(v:Value){X:List Nat},eP κ lo w p ([i]++X) v->eP κ' ad w p ([i']++X) v
 | .int _ _,_,_,r=>by simpa only[eP]using r
 | .bool _,_,_,r=>by simpa only[eP]using r
 | .str _,_,_,r=>by simpa only[eP]using r
 | .lst es,v,X,r=>by
  simp only[eP]at r⊢
  rcases r with r|⟨b,c,z,cur,e,hb,hk,hz,hr,h1,h2,h3,ht⟩
  ·exact .inl r
  ·exact .inr ⟨b,c,z,cur,e,Zc ae hb,by rw[hκ b hb,hk];simp[hi],hz,hr,h1,h2,h3,eD.up ae hκ hi z es b 0 ht⟩
def gx.up {κ κ':Nat->List Nat}{lo ad n i i':Nat}{w:World}(ae:ad<=lo)(hκ:∀b,lo<=b->κ' b=match κ b with
 |o::X=>(n+o)::X
 |[]=>[])(hi:n+i=i'):∀(ps:List PV)(b o:Nat){X:List Nat},gx κ lo w ps ([i]++X) b o->gx κ' ad w ps ([i']++X) b o
 |[],_,_,_,_=>by simp only[gx]
 |p::ps,b,o,X,r=>by
  simp only[gx]at r⊢
  obtain⟨⟨v,hv,hp⟩,r⟩:=r
  rw[List.append_assoc]at hp
  refine⟨⟨v,hv,?_⟩,gx.up ae hκ hi ps b (o+1) r⟩
  rw[List.append_assoc]
  exact eP.up ae hκ hi p v hp
def eD.up {κ κ':Nat->List Nat}{lo ad n i i':Nat}{w:World}(ae:ad<=lo)(hκ:∀b,lo<=b->κ' b=match κ b with
 |o::X=>(n+o)::X
 |[]=>[])(hi:n+i=i')(z:Nat):∀(es:List (List PV))(b o:Nat){X:List Nat},eD κ lo w z es ([i]++X) b o->eD κ' ad w z es ([i']++X) b o
 |[],_,_,_,_=>by simp only[eD]
 |e::es,b,o,X,r=>by
  simp only[eD]at r⊢
  exact⟨r.1,gx.up ae hκ hi e b o r.2.1,eD.up ae hκ hi z es b (o+z) r.2.2⟩
end
def HR.join {h hr:List Y0}{ρr:List (Option Nat)}{w':World}(k:HR M0 base w J h)(hb:Below w.heap.size w w')(kr:HR (Mu M0 J h) w.heap.size w' ρr hr)(ha:pA hr):
 HR M0 base w' (J++ρr) (h++hr)/\ Ch (Mu M0 J h) (Mu M0 (J++ρr) (h++hr)) w w' J (J++ρr) h (h++hr)/\ (∀b,Mu M0 (J++ρr) (h++hr) b->Mu (Mu M0 J h) ρr hr b):=by
 have left:∀{i:Nat}{x:Y0},i<h.length->(h++hr)[i]? =some x->h[i]? =some x:=fun hi e=>by rwa[Ze hi]at e
 have a5:∀{i:Nat}{x:Option Nat},i<h.length->(J++ρr)[i]? =some x->J[i]? =some x:=fun hi e=>by rwa[Ze (by rw[k.len];exact hi)]at e
 have right:∀{i:Nat}{x:Y0},¬i<h.length->(h++hr)[i]? =some x->hr[i-h.length]? =some x:=fun hi e=>by rwa[Zk (by omega)]at e
 have a1:∀{i:Nat}{x:Option Nat},¬i<h.length->(J++ρr)[i]? =some x->ρr[i-h.length]? =some x:=fun hi e=>by rwa[Zk (by rw[k.len];omega),k.len]at e
 have mu:∀b,Mu M0 (J++ρr) (h++hr) b->Mu (Mu M0 J h) ρr hr b:=by
  intro b hm
  rcases hm with hm|⟨i,x,hi,hx,a8⟩
  ·exact .inl (.inl hm)
  ·by_cases a2:i<h.length
   ·exact .inl (.inr ⟨i,x,left a2 hi,hx,a5 a2 a8⟩)
   ·exact .inr ⟨_,x,right a2 hi,hx,a1 a2 a8⟩
 have c:Ch (Mu M0 J h) (Mu M0 (J++ρr) (h++hr)) w w' J (J++ρr) h (h++hr):=by
  refine⟨⟨hb.size,fun b a2 hm=> ?_,fun b a2 _=>hb.block b a2⟩,fun b cur aH=>⟨cur,by obtain⟨T,af⟩:=aH;exact⟨T,by rw[hb.block b (fO.lt ⟨T,af⟩)];exact af⟩,rfl⟩,fun i q x h1 h2 _=> ?_,fun o b z es p v h1 h2 _ hv=>by unfold World.cell? at hv⊢;rw[hb.block b ((k.objs o _ _ h2 h1).lt (by simp))];exact hv⟩
  ·rcases mu b hm with hm|⟨i,x,hi,hx,a8⟩
   ·exact hm
   ·have:=(kr.objs i x _ hi a8).base hx
    omega
  ·have a2:i<h.length:=(Zb.1 h2).1
   exact⟨x,by rw[Ze (by rw[k.len];exact a2)];exact h1,by rw[Ze a2];exact h2,sI.refl _⟩
 have deep:∃κ,Deep κ base w' (J++ρr) (h++hr)/\ Zon κ M0 w' (h++hr):=by
  obtain⟨κ,d,n⟩:=k.deep
  obtain⟨κr,dr,nr⟩:=kr.deep
  refine⟨fun b=>if b<w.heap.size then κ b else match κr b with
   |o::X=>(h.length+o)::X
   |[]=>[],⟨fun i x b hi hx a8=> ?_,fun i x z es b hi hd a8=> ?_⟩,fun b az=> ?_,fun b o c X z es e ho=> ?_⟩
  ·by_cases a2:i<h.length
   ·have hl:=(k.objs i x _ (left a2 hi) (a5 a2 a8)).lt (Y0.bE hx)
    rw[if_pos hl]
    exact d.root i x b (left a2 hi) hx (a5 a2 a8)
   ·have hl:=(kr.objs _ x _ (right a2 hi) (a1 a2 a8)).base hx
    rw[if_neg (by omega),dr.root _ x b (right a2 hi) hx (a1 a2 a8)]
    simp;omega
  ·by_cases a2:i<h.length
   ·have hl:=(k.objs i x _ (left a2 hi) (a5 a2 a8)).lt (Y0.bE (Y0.bP hd))
    exact(d.tree i x z es b (left a2 hi) hd (a5 a2 a8)).go (Zn _) (fun o _=>by unfold World.cell?;rw[hb.block b hl]) ((k.objs i x _ (left a2 hi) (a5 a2 a8)).rows hd).2 (fun c b' X ab e=>⟨by rw[if_pos ab];exact e,hb.block b' ab⟩)
   ·have e0:h.length+(i-h.length)=i:=by omega
    have T:=dr.tree _ x z es b (right a2 hi) hd (a1 a2 a8)
    have aA:=((kr.objs _ x _ (right a2 hi) (a1 a2 a8)).rows hd).2
    intro i1 e1 j1 p1 h1 h2
    obtain⟨v,hv,ht⟩:=T i1 e1 j1 p1 h1 h2
    exact⟨v,hv,eP.up k.le (fun b' az=>if_neg (by omega)) e0 p1 v ht⟩
  ·have:=hb.size
   rw[if_neg (by omega),nr.new b az]
  ·by_cases a2:o<h.length
   ·split at e
    ·exact n.zone b o c X z es e (left a2 ho)
    ·split at e
     ·cases e;omega
     ·cases e
   ·exact(ha _ (Zl (right a2 ho))).elim
 refine⟨⟨⟨by simp[k.len,kr.len],fun b hm=>⟨ZG (k.old b hm).1 hb.size,fun i x hi hx a8=> ?_⟩,Zc k.le hb.size,fun i x q hi hq=> ?_,fun i i' x x' b h1 h2 m1 m2 r1 r2=> ?_⟩,deep⟩,c,mu⟩
 ·by_cases a2:i<h.length
  ·exact(k.old b hm).2 i x (left a2 hi) hx (a5 a2 a8)
  ·have:=(kr.objs _ x _ (right a2 hi) (a1 a2 a8)).base hx
   have:=(k.old b hm).1
   omega
 ·by_cases a2:i<h.length
  ·have kx:=k.objs i x q (left a2 hi) (a5 a2 hq)
   exact kx.keep c (fun b e hd=>hb.block b (by subst e;exact kx.lt hd))
  ·have kx:=kr.objs _ x q (right a2 hi) (a1 a2 hq)
   have hx:=ha x (Zl (right a2 hi))
   have main:∀{z:Nat}{es:List (List PV)},xX (Mu (Mu M0 J h) ρr hr) w.heap.size w' ρr hr q (.arr z es)->xX (Mu M0 (J++ρr) (h++hr)) base w' (J++ρr) (h++hr) q (.arr z es):=by
    intro z es kx
    obtain⟨hz,av,kx⟩:=kx
    refine⟨hz,av,?_⟩
    cases q with
    |none=>exact kx
    |some b=>
     obtain⟨ag,cur,cap,g1,g2,g3,g4,g5⟩:=kx
     refine⟨Zc k.le ag,cur,cap,g1,g2,g3,g4,fun i1 e1 j1 p1 he1 aI=> ?_⟩
     obtain⟨v,hv,ah⟩:=g5 i1 e1 j1 p1 he1 aI
     exact⟨v,hv,ah.weak mu⟩
   cases x<;>first|exact main kx|exact hx.elim
 ·by_cases l1:i<h.length<;>by_cases l2:i'<h.length
  ·exact k.apart i i' x x' b (left l1 h1) (left l2 h2) m1 m2 (a5 l1 r1) (a5 l2 r2)
  ·have e1:=(k.objs i x _ (left l1 h1) (a5 l1 r1)).lt (Y0.bE m1)
   have e2:=(kr.objs _ x' _ (right l2 h2) (a1 l2 r2)).base m2
   omega
  ·have e1:=(k.objs i' x' _ (left l2 h2) (a5 l2 r2)).lt (Y0.bE m2)
   have e2:=(kr.objs _ x _ (right l1 h1) (a1 l1 r1)).base m1
   omega
  ·have:=kr.apart _ _ x x' b (right l1 h1) (right l2 h2) m1 m2 (a1 l1 r1) (a1 l2 r2)
   omega
def LR.shift {h hr:List Y0}{ρr:List (Option Nat)}{M M':Nat->Prop}(hl:J.length=h.length)(mu:∀b,M' b->M b){l:L}{v:Value}(ht:l.bu=true)(r:LR M w ρr hr l v):LR M' w (J++ρr) (h++hr) (pb h.length l) v:=by
 cases l with
 |pv p=>exact aq.weak mu r
 |nil=>exact r
 |arr o=>
  obtain⟨q,ob,h1,h2,hs⟩:=r
  refine⟨q,ob,?_,?_,hs⟩
  ·rw[Zk (by omega),hl];simpa using h1
  ·rw[Zk (by omega)];simpa using h2
 |_=>simp[L.bu]at ht
def tg.shift {h hr:List Y0}{ρr:List (Option Nat)}{M M':Nat->Prop}(hl:J.length=h.length)(mu:∀b,M' b->M b){ls:List L}{vs:List Value}(ht:ls.all L.bu=true)(r:tg M w ρr hr ls vs):tg M' w (J++ρr) (h++hr) (ls.map (pb h.length)) vs:=by
 refine⟨by simpa using r.1,fun i l v ab hv=> ?_⟩
 simp only[Zp,Zj]at ab
 obtain⟨l0,h0,rfl⟩:=ab
 exact(r.2 i l0 v h0 hv).shift hl mu ((Zt.1 ht) l0 (Zl h0))
def VR.shift {h hr:List Y0}{ρr:List (Option Nat)}{M M':Nat->Prop}(hl:J.length=h.length)(mu:∀b,M' b->M b){x:V}{v:Value}(ht:(match x with| .one l=>l.bu| .agg ls=>ls.all L.bu| .b9 xs=>xs.all fun x=>x.2.all L.bu)=true)(r:VR M w ρr hr x v):VR M' w (J++ρr) (h++hr) (Cz h.length x) v:=by
 cases x with
 |one l=>exact LR.shift hl mu ht r
 |agg ls=>obtain⟨cs,rfl,af⟩:=r;exact⟨cs,rfl,af.shift hl mu ht⟩
 |b9 xs=>
  obtain⟨vs,rfl,h1,h2⟩:=r
  refine⟨vs,rfl,by simpa using h1,fun i x u hx hu=> ?_⟩
  simp only[Zp,Zj]at hx
  obtain⟨x0,h0,rfl⟩:=hx
  have ar:=(Zt.1 ht) x0 (Zl h0)
  have:=h2 i x0 u h0 hu
  obtain⟨b,ls⟩:=x0
  cases b with
  |true=>obtain⟨cs,rfl,af⟩:=this;exact⟨cs,rfl,af.shift hl mu ar⟩
  |false=>
   match ls,this,ar with
   |[l],this,ar=>exact LR.shift hl mu (by simpa using ar) this
def Sn (r:V)(hc:r.clean=true):(match(thaw [] r).1 with| .one l=>l.bu| .agg ls=>ls.all L.bu| .b9 xs=>xs.all fun x=>x.2.all L.bu)=true:=by
 cases r with
 |one l=>
  obtain⟨l',h',e'⟩:=jA [] l
  have:=nh [l] [] (by simpa[V.clean]using hc)
  simp only[thaw,e']at this⊢
  simpa using this
 |agg ls=>exact nh ls [] (by simpa[V.clean]using hc)
 |b9 xs=>exact Hz xs [] (by simpa[V.clean]using hc)
def Y0.ow :Y0->Y0
 | .bA z es=> .arr z es
 |ob=>ob
def tY :∀(ls:List L)(g:List Y0),thawL (g.map Y0.ow) (ls.map L.ow)=((thawL g ls).1,(thawL g ls).2.map Y0.ow)
 |[],g=>rfl
 |l::ls,g=>by
  cases l with
  |own z es=>
   have e:=tY ls (g++[.arr z es])
   simp only[List.map_append,Zv,Zz,Y0.ow]at e
   simp only[Zv,L.ow,thawL,e,Zr]
  |down z es=>
   have e:=tY ls (g++[.bA z es])
   simp only[List.map_append,Zv,Zz,Y0.ow]at e
   simp only[Zv,L.ow,thawL,e,Zr]
  |_=>simp only[Zv,L.ow,thawL,tY ls g]
def NF :∀(xs:List (Bool×List L))(g:List Y0),thawT (g.map Y0.ow) (xs.map fun x=>(x.1,x.2.map L.ow))=((thawT g xs).1,(thawT g xs).2.map Y0.ow)
 |[],g=>rfl
 |(b,ls)::xs,g=>by
  simp only[Zv,thawT,tY,NF xs]
def Qz (r:V):thaw [] r.ow=((thaw [] r).1,(thaw [] r).2.map Y0.ow):=by
 cases r with
 |one l=>
  have e:=tY [l] []
  obtain⟨l',h',e'⟩:=jA [] l
  simp only[Zz,Zv,e']at e
  simp only[V.ow,thaw,e,e']
 |agg ls=>
  have e:=tY ls []
  simp only[Zz]at e
  simp only[V.ow,thaw,e]
 |b9 xs=>
  have e:=NF xs []
  simp only[Zz]at e
  simp only[V.ow,thaw,e]
def L.bh {l:L}(h:l.clean=true):l.ow.clean=true:=by cases l<;>first|exact h|rfl
def Ls.bh {ls:List L}(h:ls.all L.clean=true):(ls.map L.ow).all L.clean=true:=by
 rw[Zt]at h⊢
 intro x hx
 obtain⟨y,hy,rfl⟩:=V'.1 hx
 exact L.bh (h y hy)
def V.bh {r:V}(h:r.clean=true):r.ow.clean=true:=by
 cases r with
 |one l=>exact L.bh h
 |agg ls=>exact Ls.bh h
 |b9 xs=>
  simp only[V.ow,V.clean,Zt]at h⊢
  intro x hx
  obtain⟨y,hy,rfl⟩:=V'.1 hx
  have:=Ls.bh (Zt.2 (h y hy))
  exact Zt.1 this
def Dg {h:List Y0}{o:Nat}{ob:Y0}(e:(h.map Y0.ow)[o]? =some ob):∃ob',h[o]? =some ob'/\ ob'.ow=ob:=by
 rw[Zp]at e
 cases q:h[o]? with
 |none=>rw[q]at e;cases e
 |some x=>rw[q]at e;exact⟨x,rfl,by simpa using e⟩
def GV (ob:Y0):ob.ow.mut=ob.mut:=by cases ob<;>rfl
def Vy {M:Nat->Prop}{J:List (Option Nat)}{h:List Y0}:Mu M J (h.map Y0.ow)=Mu M J h:=by
 funext b
 apply propext
 unfold Mu
 constructor
 ·rintro(q|⟨o,ob,e,m,r⟩)
  ·exact .inl q
  ·obtain⟨ob',e',rfl⟩:=Dg e
   exact .inr ⟨o,ob',e',by rwa[GV]at m,r⟩
 ·rintro(q|⟨o,ob,e,m,r⟩)
  ·exact .inl q
  ·exact .inr ⟨o,ob.ow,by rw[Zp,e];rfl,by rw[GV];exact m,r⟩
def SO {M:Nat->Prop}{J:List (Option Nat)}{h:List Y0}{l:L}{v:Value}(r:LR M w J h l v):LR M w J (h.map Y0.ow) l v:=by
 cases l with
 |ptr o i j=>
  obtain⟨r,ob,e1,e2,e3⟩:=r
  exact⟨r,ob.ow,e1,by rw[Zp,e2];rfl,by cases ob<;>exact e3⟩
 |arr o=>
  obtain⟨r,ob,e1,e2,e3⟩:=r
  exact⟨r,ob.ow,e1,by rw[Zp,e2];rfl,by cases ob<;>exact e3⟩
 |tp n=>
  obtain⟨o,b,e1,e2,e3⟩:=r
  exact⟨o,b,e1,by rw[Zp,e2];rfl,e3⟩
 |sub o c=>
  obtain⟨q,b,z,es,e1,e2,e3⟩:=r
  exact⟨q,b,z,es,e1,by rw[Zp,e2];rfl,e3⟩
 |c6 o l r'=>
  obtain⟨h1,q,ob,e1,e2,e3,e4⟩:=r
  exact⟨h1,q,ob.ow,e1,by rw[Zp,e2];rfl,by cases ob<;>simp_all[Y0.ow],fun hq=>by cases ob<;>first|exact e4 rfl|cases hq⟩
 |_=>exact r
def N5 {M:Nat->Prop}{J:List (Option Nat)}{h:List Y0}{ls:List L}{vs:List Value}(r:tg M w J h ls vs):tg M w J (h.map Y0.ow) ls vs:=⟨r.1,fun i l v a b=>SO (r.2 i l v a b)⟩
def W5 {M:Nat->Prop}{J:List (Option Nat)}{h:List Y0}{x:V}{v:Value}(r:VR M w J h x v):VR M w J (h.map Y0.ow) x v:=by
 cases x with
 |one l=>exact SO r
 |agg ls=>
  obtain⟨cs,e,r⟩:=r
  exact⟨cs,e,N5 r⟩
 |b9 xs=>
  obtain⟨vs,e,hl,r⟩:=r
  refine⟨vs,e,hl,fun i x u a b=> ?_⟩
  have:=r i x u a b
  split at this
  ·obtain⟨cs,e,r⟩:=this
   exact⟨cs,e,N5 r⟩
  ·exact SO this
  ·exact this.elim
def WY {J:List (Option Nat)}{h:List Y0}(k:HR M0 base w J h):HR M0 base w J (h.map Y0.ow):=by
 obtain⟨⟨k1,k2,k3,k4,k5⟩,κ,⟨d1,d2⟩,z1,z2⟩:=k
 refine⟨⟨by rw[Zr];exact k1,fun b hb=>⟨(k2 b hb).1,fun o ob e m=> ?_⟩,k3,fun o ob r e hr=> ?_,fun o o' ob ob' b e e' m m'=> ?_⟩,κ,⟨fun o ob b e m=> ?_,fun o ob z es b e hd=> ?_⟩,z1,fun b o c X z es hk e=> ?_⟩
 ·obtain⟨ob',e',rfl⟩:=Dg e
  rw[GV]at m
  exact(k2 b hb).2 o ob' e' m
 ·obtain⟨ob',e',rfl⟩:=Dg e
  have:=k4 o ob' r e' hr
  rw[Vy]
  cases ob' with
  |box cs=>
   obtain⟨b,cur,h1,h2,h3,h4⟩:=this
   exact⟨b,cur,h1,h2,h3,N5 h4⟩
  |_=>exact this
 ·obtain⟨q,f,rfl⟩:=Dg e
  obtain⟨q',f',rfl⟩:=Dg e'
  rw[GV]at m m'
  exact k5 o o' q q' b f f' m m'
 ·obtain⟨q,f,rfl⟩:=Dg e
  rw[GV]at m
  exact d1 o q b f m
 ·obtain⟨q,f,rfl⟩:=Dg e
  cases q with
  |bB z' es'=>exact d2 o _ z es b f hd
  |_=>cases hd
 ·obtain⟨q,f,hq⟩:=Dg e
  cases q with
  |bB z' es'=>cases hq;exact z2 b o c X z es hk f
  |_=>cases hq
def xe.ow {r:V}{v:Value}(h:xe M0 base w r v):xe M0 base w r.ow v:=by
 obtain⟨J',h1,h2⟩:=h
 refine⟨J',?_,?_⟩
 ·rw[Qz];exact WY h1
 ·rw[Qz,Vy];exact W5 h2
def G3 {h:List Y0}{w':World}{r:V}{v:Value}(k:HR M0 base w J h)(hb:Below w.heap.size w w')(hc:r.clean=true)(rr:xe (Mu M0 J h) w.heap.size w' r v):
 ∃J',HR M0 base w' J' (thaw h r).2/\ Ch (Mu M0 J h) (Mu M0 J' (thaw h r).2) w w' J J' h (thaw h r).2/\ VR (Mu M0 J' (thaw h r).2) w' J' (thaw h r).2 (thaw h r).1 v:=by
 obtain⟨ρr,kr,vr⟩:=rr
 obtain⟨g1,g2,g3⟩:=k.join hb kr (NH r)
 rw[HD r h hc]
 exact⟨J++ρr,g1,g2,vr.shift k.len g3 (Sn r hc)⟩
end
end Gi
namespace Gi
open Go Go.RowKit
variable {KI:KF}
section
variable {Γ:Ctx}{P:Program}{M0:Nat->Prop}{base:Nat}{Z:St}{a:Act}{w:World}{J:List (Option Nat)}
def Mu.lt {h:List Y0}(k:HR M0 base w J h){b:Nat}(hm:Mu M0 J h b):b<w.heap.size:=by
 rcases hm with hm|⟨o,ob,ho,aw,hr⟩
 ·exact(k.old b hm).1
 ·exact(k.objs o ob _ ho hr).lt (Y0.bE aw)
def L.ob :L->Option Y0
 | .own z es=>some (.arr z es)
 | .down z es=>some (.bA z es)
 |_=>none
def Y0.lst :Y0->List (List PV)
 | .arr _ es=>es
 | .bA _ es=>es
 |_=>[]
def V1 (g:List Y0)(ls:List L)(q:List L×List Y0):Prop:=
 q.1.length=ls.length/\ (∃t,q.2=g++t)/\
  ∀(i:Nat)(l:L),ls[i]? =some l->∃l',q.1[i]? =some l'/\ ((∃ob o,l.ob=some ob/\ l'= .arr o/\ q.2[o]? =some ob) \/(l.ob=none/\ l'=l))
def mo :∀(ls:List L)(g:List Y0),ls.all L.clean=true->V1 g ls (thawL g ls)
 |[],g,_=>⟨rfl,⟨[],by simp[thawL]⟩,fun i l hl=>by simp at hl⟩
 |l::ls,g,hc=>by
  simp only[Zq,Zh]at hc
  have other:l.ob=none->thawL g (l::ls)=(l::(thawL g ls).1,(thawL g ls).2)->V1 g (l::ls) (thawL g (l::ls)):=fun au e=>by
   obtain⟨h1,⟨t,ht⟩,h3⟩:=mo ls g hc.2
   rw[e]
   refine⟨by simp[h1],⟨t,ht⟩,fun i l' hl=> ?_⟩
   cases i with
   |zero=>simp at hl;subst hl;exact⟨l,rfl, .inr ⟨au,rfl⟩⟩
   |succ i=>simpa using h3 i l' (by simpa using hl)
  have ak:∀ob,l.ob=some ob->thawL g (l::ls)=(.arr g.length::(thawL (g++[ob]) ls).1,(thawL (g++[ob]) ls).2)->V1 g (l::ls) (thawL g (l::ls)):=fun ob aj e=>by
   obtain⟨h1,⟨t,ht⟩,h3⟩:=mo ls (g++[ob]) hc.2
   rw[e]
   refine⟨by simp[h1],⟨[ob]++t,by simp only;rw[ht,List.append_assoc]⟩,fun i l' hl=> ?_⟩
   cases i with
   |zero=>
    simp at hl;subst hl
    refine⟨.arr g.length,rfl, .inl ⟨ob,g.length,aj,rfl,?_⟩⟩
    simp only
    rw[ht,List.append_assoc,Zk (Zn _)]
    simp
   |succ i=>simpa using h3 i l' (by simpa using hl)
  cases l with
  |own z es=>exact ak _ rfl rfl
  |down z es=>exact ak _ rfl rfl
  |pv p=>exact other rfl rfl
  |nil=>exact other rfl rfl
  |_=>simp[L.clean]at hc
def yQ {h hr:List Y0}{ρr:List (Option Nat)}{w':World}(k:HR M0 base w J h)(hb:Below w.heap.size w w')(kr:HR (Mu M0 J h) w.heap.size w' ρr hr){l l':L}{v:Value}
 (hl:(∃ob o,l.ob=some ob/\ l'= .arr o/\ hr[o]? =some ob) \/(l.ob=none/\ l'=l)) (hc:l.clean=true) (r:LR (Mu (Mu M0 J h) ρr hr) w' ρr hr l' v):LR (Mu M0 J h) w' J h (df l) v:=by
 have weak:∀b,Mu M0 J h b->Mu (Mu M0 J h) ρr hr b:=fun b hm=> .inl hm
 rcases hl with⟨ob,o,e0,rfl,ho⟩|⟨au,rfl⟩
 ·obtain⟨q,ob',h1,h2,hs⟩:=r
  rw[ho]at h2;cases h2
  have main:∀{z:Nat}{es:List (List PV)},xX (Mu (Mu M0 J h) ρr hr) w.heap.size w' ρr hr q (.arr z es)->ou w' (.arr z es) q v->aq (Mu M0 J h) w' (.lst es) v:=by
   intro z es k0 hs
   obtain⟨hz,av,kx⟩:=k0
   cases q with
   |none=>
    obtain rfl:es=[]:=kx
    obtain⟨_,rfl⟩:=hs
    simp only[aq]
    exact .inl ⟨by trivial,_,_,rfl⟩
   |some b=>
    obtain⟨ag,cur,cap,ax,g1,g2,g3,g4⟩:=kx
    obtain⟨cur',aJ,aB,_,aK,_,rfl⟩:=hs
    exact uH ax av (fun hm=>by have:=Mu.lt k hm;omega) aK (fun i e j p he hp=>by
     obtain⟨v,hv,ah⟩:=g4 i e j p he hp
     exact⟨v,hv,ah.weak weak⟩)
  have k0:=kr.objs o _ q ho h1
  cases l with
  |own z es=>cases e0;exact main k0 hs
  |down z es=>cases e0;exact main k0 hs
  |_=>cases e0
 ·cases l' with
  |pv p=>exact aq.weak weak r
  |nil=>exact r
  |own z es=>cases au
  |down z es=>cases au
  |_=>simp[L.clean]at hc
def Dk {h:List Y0}{ρr:List (Option Nat)}{w':World}(k:HR M0 base w J h)(hb:Below w.heap.size w w'){ls:List L}{vs:List Value}{g:List Y0}{hr:List Y0}(aL:∃t,hr=(thawL g ls).2++t)(kr:HR (Mu M0 J h) w.heap.size w' ρr hr)(hc:ls.all L.clean=true)
 (r:tg (Mu (Mu M0 J h) ρr hr) w' ρr hr (thawL g ls).1 vs):tg (Mu M0 J h) w' J h (ls.map df) vs:=by
 obtain⟨h1,_,h3⟩:=mo ls g hc
 obtain⟨t,ht⟩:=aL
 refine⟨by rw[Zr,<-h1];exact r.1,fun i l v hl hv=> ?_⟩
 simp only[Zp,Zj]at hl
 obtain⟨l0,h0,rfl⟩:=hl
 obtain⟨l',ab,a6⟩:=h3 i l0 h0
 refine yQ k hb kr ?_ ((Zt.1 hc) l0 (Zl h0)) (r.2 i l' v ab hv)
 rcases a6 with⟨ob,o,e1,e2,e3⟩|a6
 ·exact .inl ⟨ob,o,e1,e2,by rw[ht,Ze (Zb.1 e3).1];exact e3⟩
 ·exact .inr a6
def Ju :∀(xs:List (Bool×List L))(g:List Y0),(xs.all fun x=>x.2.all L.clean)=true->∃t,(thawT g xs).2=g++t
 |[],g,_=>⟨[],by simp[thawT]⟩
 |(b,ls)::xs,g,hc=>by
  simp only[Zq,Zh]at hc
  obtain⟨_,⟨t,ht⟩,_⟩:=mo ls g hc.1
  obtain⟨t',aM⟩:=Ju xs (thawL g ls).2 hc.2
  exact⟨t++t',by simp only[thawT];rw[aM,ht,List.append_assoc]⟩
def Hx :∀(xs:List (Bool×List L))(g:List Y0),(xs.all fun x=>x.2.all L.clean)=true->(thawT g xs).1.length=xs.length/\
 ∀(i:Nat)(x:Bool×List L),xs[i]? =some x->∃g',(thawT g xs).1[i]? =some (x.1,(thawL g' x.2).1)/\ ∃t,(thawT g xs).2=(thawL g' x.2).2++t
 |[],g,_=>⟨rfl,fun i x hx=>by simp at hx⟩
 |(b,ls)::xs,g,hc=>by
  simp only[Zq,Zh]at hc
  obtain⟨h1,h2⟩:=Hx xs (thawL g ls).2 hc.2
  simp only[thawT]
  refine⟨by simp[h1],fun i x hx=> ?_⟩
  cases i with
  |zero=>simp at hx;subst hx;exact⟨g,rfl,Ju xs _ hc.2⟩
  |succ i=>simpa using h2 i x (by simpa using hx)
def KL {h:List Y0}{w':World}{r:V}{v:Value}(k:HR M0 base w J h)(hb:Below w.heap.size w w')(hc:r.clean=true)(rr:xe (Mu M0 J h) w.heap.size w' r v):VR (Mu M0 J h) w' J h (da r) v:=by
 obtain⟨ρr,kr,vr⟩:=rr
 cases r with
 |one l=>
  obtain⟨l',h',e'⟩:=jA [] l
  simp only[thaw,e']at kr vr
  have an:[l].all L.clean=true:=by simpa[V.clean]using hc
  obtain⟨_,_,h3⟩:=mo [l] [] an
  obtain⟨aN,aa,a6⟩:=h3 0 l rfl
  rw[e']at aa a6
  simp at aa;subst aa
  exact yQ k hb kr a6 (by simpa using an) vr
 |agg ls=>
  obtain⟨cs,rfl,hl⟩:=vr
  exact⟨cs,rfl,Dk k hb ⟨[],by simp[thaw]⟩ kr (by simpa[V.clean]using hc) hl⟩
 |b9 xs=>
  have an:(xs.all fun x=>x.2.all L.clean)=true:=by simpa[V.clean]using hc
  obtain⟨vs,rfl,h1,h2⟩:=vr
  obtain⟨t1,t2⟩:=Hx xs [] an
  refine⟨vs,rfl,?_,fun i x u hx hu=> ?_⟩
  ·simp only[da,Zr];rw[<-t1];exact h1
  ·simp only[Zp,Zj]at hx
   obtain⟨x0,h0,rfl⟩:=hx
   obtain⟨g',e1,e2⟩:=t2 i x0 h0
   have:=h2 i _ u e1 hu
   have ai:=(Zt.1 an) x0 (Zl h0)
   obtain⟨b,ls⟩:=x0
   cases b with
   |true=>obtain⟨cs,rfl,af⟩:=this;exact⟨cs,rfl,Dk k hb e2 kr ai af⟩
   |false=>
    match ls,this,ai,e2 with
    |[l],this,ai,e2=>
     obtain⟨l',h',e'⟩:=jA g' l
     simp only[e']at this
     obtain⟨_,_,h3⟩:=mo [l] g' ai
     obtain⟨aN,aa,a6⟩:=h3 0 l rfl
     rw[e']at aa a6
     simp at aa;subst aa
     obtain⟨t,ht⟩:=e2
     refine yQ k hb kr ?_ (by simpa using ai) this
     rcases a6 with⟨ob,o,q1,q2,q3⟩|a6
     ·refine .inl ⟨ob,o,q1,q2,?_⟩
      have:(thaw [] (V.b9 xs)).2=(thawT [] xs).2:=rfl
      rw[this,ht,e',Ze (Zb.1 q3).1]
      exact q3
     ·exact .inr a6
    |[],this,_,_=>exact this.elim
    |l1::l2::ls',this,ai,_=>
     have hlen:=(mo (l1::l2::ls') g' ai).1
     revert this
     generalize (thawL g' (l1::l2::ls')).1=q at hlen
     intro this
     match q,hlen,this with
     |_::_::_,_,this=>exact this.elim
def ze.weak {M M':Nat->Prop}(h:∀b,M' b->M b){e:List PV}{u:Value}(r:ze M w e u):ze M' w e u:=
 r.go ⟨Zn _,fun b _=>h b,fun _ _ _=>rfl⟩
def ze.arg {M:Nat->Prop}{e:List PV}{u:Value}(r:ze M w e u):VR M w [] [] (tm e) u:=by
 obtain⟨b,o,rfl,hb,a2,hr⟩:=r
 exact⟨b,o,rfl,hb,a2,hr⟩
def j0 {h:List Y0}{M:Nat->Prop}:∀{vs xz:List V}{us:List Value},al h vs=some xz->vs.length=us.length->(∀(i:Nat)(v:V)(u:Value),vs[i]? =some v->us[i]? =some u->VR (Mu M0 J h) w J h v u)->
 (∀(v:V)(l:L)(p:PV)(u:Value),v∈vs->l∈v.cells->LR (Mu M0 J h) w J h l u->l.view h=some p->aq M w p u)->(∀e u,ze (Mu M0 J h) w e u->ze M w e u)->qi M w xz us
 |[],xz,us,e,hl,_,_,_=>by
  simp[al]at e;subst e
  exact⟨hl,fun i x u hx=>by simp at hx⟩
 |v::vs,xz,[],e,hl,_,_,_=>by simp at hl
 |v::vs,xz,u::us,e,hl,aC,ah,ao=>by
  unfold al at e
  split at e
  ·rename_i p ps h1 h2
   cases e
   obtain⟨i1,i2⟩:=j0 h2 (by simpa using hl) (fun i v' u' hv hu=>aC (i+1) v' u' (by simpa using hv) (by simpa using hu)) (fun v' l p u' hv=>ah v' l p u' (by simp[hv])) ao
   refine⟨by simp[i1],fun i x u' hx hu=> ?_⟩
   cases i with
   |succ i=>exact i2 i x u' (by simpa using hx) (by simpa using hu)
   |zero=>
    simp at hx hu
    subst hx;subst hu
    have r:=aC 0 v u rfl rfl
    cases v with
    |one l=>
     by_cases aD:∃k caps,l= .fn k caps
     ·obtain⟨k,caps,rfl⟩:=aD
      simp only[V.view]at h1
      cases h1
      obtain⟨f,cs,rfl,hk,aO,hc⟩:=r
      refine⟨f,cs,rfl,hk,aO,fun i e u' he aP=> ?_⟩
      exact ao _ _ (hc i e u' he aP)
     ·have ay:(match l.view h with|some p=>some (V.one (.pv p))|none=>none)=some p:=by
       cases l with
       |fn k caps=>exact absurd ⟨k,caps,rfl⟩ aD
       |_=>exact h1
      split at ay
      ·rename_i q hq
       cases ay
       exact ah (.one l) l q u (by simp) (by simp[V.cells]) r hq
      ·cases ay
    |agg ls=>
     simp only[V.view]at h1
     split at h1
     ·rename_i qs aQ
      cases h1
      obtain⟨cs,rfl,aE⟩:=r
      obtain⟨e1,e2⟩:=oh aQ
      refine⟨cs,rfl,by rw[Zr,e1];exact aE.1,fun j l c ab hc=> ?_⟩
      simp only[Zp,Zj]at ab
      obtain⟨q,hq,rfl⟩:=ab
      have hj:j<ls.length:=by rw[<-e1];exact(Zb.1 hq).1
      have aF:ls[j]? =some ls[j]:=by simp[hj]
      obtain⟨q',aG,aR⟩:=e2 j _ aF
      rw[hq]at aG;cases aG
      exact ah (.agg ls) ls[j] q c (by simp) (Zf hj) (aE.2 j _ c aF hc) aR
     ·cases h1
    |b9 xs=>cases h1
  ·cases e
def Mu.nil (b:Nat):Mu M0 [] [] b↔M0 b:=by simp[Mu]
def Np {fn:AFn}{xz:List V}{a7:Array Value}(hG:Γ.G w)(h0:∀b,M0 b->b<w.heap.size)(ha:qi M0 w xz a7.toList):
 SR Γ M0 w.heap.size (start fn xz) {tmps:=a7++Array.replicate (fn.ntmps-a7.size) undef,defers:=[]} w []:=by
 have hl:xz.length=a7.size:=by rw[ha.1];simp
 refine⟨⟨⟨rfl,fun b hb=>⟨h0 b hb,fun o ob ho=>by simp[start]at ho⟩,Zn _,fun o ob r ho=>by simp[start]at ho,fun o o' ob ob' b ho=>by simp[start]at ho⟩,fun _=>[],⟨fun o ob b ho=>by simp[start]at ho,fun o ob z es b ho=>by simp[start]at ho⟩,fun _ _=>rfl,nofun⟩,⟨rfl,by simp[start,hl],fun i v u hv hu=> ?_⟩,hG,Γ.size w hG⟩
 have weak:∀{x:V}{u:Value},VR M0 w [] [] x u->VR (Mu M0 [] []) w [] [] x u:=fun r=>r.ch ⟨⟨Zn _,fun b _ hm=>(Mu.nil b).1 hm,fun _ _ _=>rfl⟩,fun _ cur hr=>⟨cur,hr,rfl⟩,fun o r ob hr=>by simp at hr,fun o b z es c v hr=>by simp at hr⟩
 simp only[start]at hv
 by_cases hi:i<xz.length
 ·rw[Ze hi]at hv
  rw[ZY (by omega)]at hu
  exact weak (ha.2 i v u hv (by simpa using hu))
 ·rw[Zk (by omega)]at hv
  rw[Zc2 (by omega)]at hu
  have e1:v= .b9 []:=by
   have:=(Zb.1 hv).2
   simp at this;exact this.symm
  have e2:u=undef:=by
   have:=(R'.1 hu).2
   simp at this;exact this.symm
  rw[e1,e2]
  exact VR.undef
end
end Gi
