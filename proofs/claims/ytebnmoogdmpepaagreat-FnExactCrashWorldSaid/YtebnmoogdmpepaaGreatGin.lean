/- Of this proof. -/
import Derived.Test.YtebnmoogdmpepaaGreatGilc
set_option linter.unusedSimpArgs false
set_option linter.unusedVariables false
namespace Gi
open Go Go.RowKit
variable {KI:KF}
def L.clean :L→Bool
 | .pv _=>true
 | .nil=>true
 | .own _ _=>true
 | .down _ _=>true
 |_=>false
def V.clean :V→Bool
 | .one l=>l.clean
 | .agg ls=>ls.all L.clean
 | .tup xs=>xs.all fun x=>x.2.all L.clean
def qz [KF](M:Nat→Prop)(w:World)(xz:List V)(vals:List Value):Prop:=
 xz.length=vals.length∧∀(i:Nat)(x:V)(u:Value),xz[i]? =some x→vals[i]? =some u→VR M w [] [] x u
def vD [KF](M0:Nat→Prop)(base:Nat)(w:World)(r:V)(v:Value):Prop:=
 ∃ρ',HR M0 base w ρ' (thaw [] r).2∧VR (Mu M0 ρ' (thaw [] r).2) w ρ' (thaw [] r).2 (thaw [] r).1 v
def xQ [KF](Γ:Ctx)(P:Program)(f:FuncId)(xz:List V)(r:V):Prop:=
 r.clean=true∧∀(M0:Nat→Prop)(w:World)(vals:Array Value),Γ.G w→(∀b,M0 b→b<w.heap.size)→qz M0 w xz vals.toList→
  Calls P f vals w fun e w'=>∃v,e= .returned v∧Below w.heap.size w w'∧vD M0 w.heap.size w' r v
section
variable {Γ:Ctx}{P:Program}{M0:Nat→Prop}{base:Nat}{σ:St}{a:Act}{w:World}{ρ:List (Option Nat)}
def nO (n:Nat):L→L
 | .arr o=> .arr (n+o)
 |l=>l
theorem j3 :∀(ls:List L)(g h:List AObj),ls.all L.clean=true→thawL (h++g) ls=((thawL g ls).1.map (nO h.length),h++(thawL g ls).2)
 |[],g,h,_=>rfl
 |l::ls,g,h,hc=>by
  simp only[Zq,Zm]at hc
  cases l with
  |own z es=>
   have ih:=j3 ls (g++[.arr z es]) h hc.2
   simp only[thawL,Zo]at ih⊢
   rw[ih]
   simp[nO]
  |down z es=>
   have ih:=j3 ls (g++[.darr z es]) h hc.2
   simp only[thawL,Zo]at ih⊢
   rw[ih]
   simp[nO]
  |pv p=>simp only[thawL];rw[j3 ls g h hc.2];simp[nO]
  |nil=>simp only[thawL];rw[j3 ls g h hc.2];simp[nO]
  |_=>simp[L.clean]at hc
theorem Cg :∀(xs:List (Bool×List L))(g h:List AObj),(xs.all fun x=>x.2.all L.clean)=true→thawT (h++g) xs=((thawT g xs).1.map (fun x=>(x.1,x.2.map (nO h.length))),h++(thawT g xs).2)
 |[],g,h,_=>rfl
 |(b,ls)::xs,g,h,hc=>by
  simp only[Zq,Zm]at hc
  simp only[thawT]
  rw[j3 ls g h hc.1]
  simp only
  rw[Cg xs (thawL g ls).2 h hc.2]
  simp
def Br (n:Nat):V→V
 | .one l=> .one (nO n l)
 | .agg ls=> .agg (ls.map (nO n))
 | .tup xs=> .tup (xs.map fun x=>(x.1,x.2.map (nO n)))
theorem iS (h:List AObj)(l:L):∃l' h',thawL h [l]=([l'],h'):=by cases l<;>exact⟨_,_,rfl⟩
theorem Gf (r:V)(h:List AObj)(hc:r.clean=true):thaw h r=(Br h.length (thaw [] r).1,h++(thaw [] r).2):=by
 cases r with
 |one l=>
  have e:=j3 [l] [] h (by simpa[V.clean]using hc)
  simp only[Zz]at e
  obtain⟨l',h',e'⟩:=iS [] l
  simp only[thaw,e,e',Zv,Yb,Br]
 |agg ls=>
  have e:=j3 ls [] h (by simpa[V.clean]using hc)
  simp only[Zz]at e
  simp only[thaw,e,Br]
 |tup xs=>
  have e:=Cg xs [] h (by simpa[V.clean]using hc)
  simp only[Zz]at e
  simp only[thaw,e,Br]
def AObj.isArr :AObj→Prop
 | .arr _ _=>True
 | .darr _ _=>True
 |_=>False
def ou (h:List AObj):Prop:=∀ob∈h,ob.isArr
theorem px :∀(ls:List L)(g:List AObj),ou g→ou (thawL g ls).2
 |[],_,h=>h
 |l::ls,g,h=>by
  cases l with
  |own z es=>
   simp only[thawL]
   refine px ls _ (fun ob hob=> ?_)
   rcases Yw.1 hob with h1|h1
   ·exact h ob h1
   ·simp at h1;subst h1;trivial
  |down z es=>
   simp only[thawL]
   refine px ls _ (fun ob hob=> ?_)
   rcases Yw.1 hob with h1|h1
   ·exact h ob h1
   ·simp at h1;subst h1;trivial
  |_=>simp only[thawL];exact px ls g h
theorem Ib :∀(xs:List (Bool×List L))(g:List AObj),ou g→ou (thawT g xs).2
 |[],_,h=>h
 |(b,ls)::xs,g,h=>by simp only[thawT];exact Ib xs _ (px ls g h)
theorem LW (r:V):ou (thaw [] r).2:=by
 have h0:ou []:=fun ob h=>by cases h
 cases r with
 |one l=>
  obtain⟨l',h',e'⟩:=iS [] l
  have:=px [l] [] h0
  simp only[thaw,e']at this⊢
  exact this
 |agg ls=>exact px ls [] h0
 |tup xs=>exact Ib xs [] h0
def L.tame :L→Bool
 | .pv _=>true
 | .nil=>true
 | .arr _=>true
 |_=>false
theorem lW :∀(ls:List L)(g:List AObj),ls.all L.clean=true→(thawL g ls).1.all L.tame=true
 |[],_,_=>rfl
 |l::ls,g,hc=>by
  simp only[Zq,Zm]at hc
  cases l with
  |own z es=>simp only[thawL,Zq,L.tame,Bool.true_and];exact lW ls _ hc.2
  |down z es=>simp only[thawL,Zq,L.tame,Bool.true_and];exact lW ls _ hc.2
  |pv p=>simp only[thawL,Zq,L.tame,Bool.true_and];exact lW ls _ hc.2
  |nil=>simp only[thawL,Zq,L.tame,Bool.true_and];exact lW ls _ hc.2
  |_=>simp[L.clean]at hc
theorem Ge :∀(xs:List (Bool×List L))(g:List AObj),(xs.all fun x=>x.2.all L.clean)=true→((thawT g xs).1.all fun x=>x.2.all L.tame)=true
 |[],_,_=>rfl
 |(b,ls)::xs,g,hc=>by
  simp only[Zq,Zm]at hc
  simp only[thawT,Zq,Zm]
  exact⟨lW ls g hc.1,Ge xs _ hc.2⟩
mutual
theorem eE.up {κ κ':Nat→List Nat}{lo lo' n i i':Nat}{w:World}(hlo:lo'≤lo)(hκ:∀b,lo≤b→κ' b=match κ b with
 |o::τ=>(n+o)::τ
 |[]=>[])(hi:n+i=i'):∀(p:PV)(v:Value){τ:List Nat},eE κ lo w p ([i]++τ) v→eE κ' lo' w p ([i']++τ) v
 | .int _ _,_,_,r=>by simpa only[eE]using r
 | .bool _,_,_,r=>by simpa only[eE]using r
 | .str _,_,_,r=>by simpa only[eE]using r
 | .lst es,v,τ,r=>by
  simp only[eE]at r⊢
  rcases r with r|⟨b,c,z,cur,e,hb,hk,hz,hr,h1,h2,h3,ht⟩
  ·exact .inl r
  ·exact .inr ⟨b,c,z,cur,e,Zc hlo hb,by rw[hκ b hb,hk];simp[hi],hz,hr,h1,h2,h3,dY.up hlo hκ hi z es b 0 ht⟩
theorem fV.up {κ κ':Nat→List Nat}{lo lo' n i i':Nat}{w:World}(hlo:lo'≤lo)(hκ:∀b,lo≤b→κ' b=match κ b with
 |o::τ=>(n+o)::τ
 |[]=>[])(hi:n+i=i'):∀(ps:List PV)(b o:Nat){τ:List Nat},fV κ lo w ps ([i]++τ) b o→fV κ' lo' w ps ([i']++τ) b o
 |[],_,_,_,_=>by simp only[fV]
 |p::ps,b,o,τ,r=>by
  simp only[fV]at r⊢
  obtain⟨⟨v,hv,hp⟩,r⟩:=r
  rw[Zo]at hp
  refine⟨⟨v,hv,?_⟩,fV.up hlo hκ hi ps b (o+1) r⟩
  rw[Zo]
  exact eE.up hlo hκ hi p v hp
theorem dY.up {κ κ':Nat→List Nat}{lo lo' n i i':Nat}{w:World}(hlo:lo'≤lo)(hκ:∀b,lo≤b→κ' b=match κ b with
 |o::τ=>(n+o)::τ
 |[]=>[])(hi:n+i=i')(z:Nat):∀(es:List (List PV))(b o:Nat){τ:List Nat},dY κ lo w z es ([i]++τ) b o→dY κ' lo' w z es ([i']++τ) b o
 |[],_,_,_,_=>by simp only[dY]
 |e::es,b,o,τ,r=>by
  simp only[dY]at r⊢
  exact⟨r.1,fV.up hlo hκ hi e b o r.2.1,dY.up hlo hκ hi z es b (o+z) r.2.2⟩
end
theorem HR.join {h hr:List AObj}{ρr:List (Option Nat)}{w':World}(k:HR M0 base w ρ h)(hb:Below w.heap.size w w')(kr:HR (Mu M0 ρ h) w.heap.size w' ρr hr)(ha:ou hr):
 HR M0 base w' (ρ++ρr) (h++hr)∧Ch (Mu M0 ρ h) (Mu M0 (ρ++ρr) (h++hr)) w w' ρ (ρ++ρr) h (h++hr)∧(∀b,Mu M0 (ρ++ρr) (h++hr) b→Mu (Mu M0 ρ h) ρr hr b):=by
 have left:∀{i:Nat}{x:AObj},i<h.length→(h++hr)[i]? =some x→h[i]? =some x:=fun hi e=>by rwa[Ze hi]at e
 have leftr:∀{i:Nat}{x:Option Nat},i<h.length→(ρ++ρr)[i]? =some x→ρ[i]? =some x:=fun hi e=>by rwa[Ze (by rw[k.len];exact hi)]at e
 have right:∀{i:Nat}{x:AObj},¬i<h.length→(h++hr)[i]? =some x→hr[i-h.length]? =some x:=fun hi e=>by rwa[Zh (by omega)]at e
 have rightr:∀{i:Nat}{x:Option Nat},¬i<h.length→(ρ++ρr)[i]? =some x→ρr[i-h.length]? =some x:=fun hi e=>by rwa[Zh (by rw[k.len];omega),k.len]at e
 have mu:∀b,Mu M0 (ρ++ρr) (h++hr) b→Mu (Mu M0 ρ h) ρr hr b:=by
  intro b hm
  rcases hm with hm|⟨i,x,hi,hx,hri⟩
  ·exact .inl (.inl hm)
  ·by_cases hlt:i<h.length
   ·exact .inl (.inr ⟨i,x,left hlt hi,hx,leftr hlt hri⟩)
   ·exact .inr ⟨_,x,right hlt hi,hx,rightr hlt hri⟩
 have c:Ch (Mu M0 ρ h) (Mu M0 (ρ++ρr) (h++hr)) w w' ρ (ρ++ρr) h (h++hr):=by
  refine⟨⟨hb.size,fun b hlt hm=> ?_,fun b hlt _=>hb.block b hlt⟩,fun b cur hrw=>⟨cur,by obtain⟨T,hr'⟩:=hrw;exact⟨T,by rw[hb.block b (gg.lt ⟨T,hr'⟩)];exact hr'⟩,rfl⟩,fun i q x h1 h2 _=> ?_,fun o b z es p v h1 h2 _ hv=>by unfold World.cell? at hv⊢;rw[hb.block b ((k.objs o _ _ h2 h1).lt (by simp))];exact hv⟩
  ·rcases mu b hm with hm|⟨i,x,hi,hx,hri⟩
   ·exact hm
   ·have:=(kr.objs i x _ hi hri).base hx
    omega
  ·have hlt:i<h.length:=(Zb.1 h2).1
   exact⟨x,by rw[Ze (by rw[k.len];exact hlt)];exact h1,by rw[Ze hlt];exact h2,qQ.refl _⟩
 have deep:∃κ,Deep κ base w' (ρ++ρr) (h++hr)∧Zon κ M0 w' (h++hr):=by
  obtain⟨κ,d,n⟩:=k.deep
  obtain⟨κr,dr,nr⟩:=kr.deep
  refine⟨fun b=>if b<w.heap.size then κ b else match κr b with
   |o::τ=>(h.length+o)::τ
   |[]=>[],⟨fun i x b hi hx hri=> ?_,fun i x z es b hi hd hri=> ?_⟩,fun b hb'=> ?_,fun b o c τ z es e ho=> ?_⟩
  ·by_cases hlt:i<h.length
   ·have hl:=(k.objs i x _ (left hlt hi) (leftr hlt hri)).lt (AObj.mut_live hx)
    rw[if_pos hl]
    exact d.root i x b (left hlt hi) hx (leftr hlt hri)
   ·have hl:=(kr.objs _ x _ (right hlt hi) (rightr hlt hri)).base hx
    rw[if_neg (by omega),dr.root _ x b (right hlt hi) hx (rightr hlt hri)]
    simp;omega
  ·by_cases hlt:i<h.length
   ·have hl:=(k.objs i x _ (left hlt hi) (leftr hlt hri)).lt (AObj.mut_live (AObj.deep_mut hd))
    exact(d.tree i x z es b (left hlt hi) hd (leftr hlt hri)).go (Zl _) (fun o _=>by unfold World.cell?;rw[hb.block b hl]) ((k.objs i x _ (left hlt hi) (leftr hlt hri)).rows hd).2 (fun c b' τ hl' e=>⟨by rw[if_pos hl'];exact e,hb.block b' hl'⟩)
   ·have e0:h.length+(i-h.length)=i:=by omega
    have T:=dr.tree _ x z es b (right hlt hi) hd (rightr hlt hri)
    have hrows:=((kr.objs _ x _ (right hlt hi) (rightr hlt hri)).rows hd).2
    intro i1 e1 j1 p1 h1 h2
    obtain⟨v,hv,ht⟩:=T i1 e1 j1 p1 h1 h2
    exact⟨v,hv,eE.up k.le (fun b' hb'=>if_neg (by omega)) e0 p1 v ht⟩
  ·have:=hb.size
   rw[if_neg (by omega),nr.new b hb']
  ·by_cases hlt:o<h.length
   ·split at e
    ·exact n.zone b o c τ z es e (left hlt ho)
    ·split at e
     ·cases e;omega
     ·cases e
   ·exact(ha _ (Zk (right hlt ho))).elim
 refine⟨⟨⟨by simp[k.len,kr.len],fun b hm=>⟨Z3 (k.old b hm).1 hb.size,fun i x hi hx hri=> ?_⟩,Zc k.le hb.size,fun i x q hi hq=> ?_,fun i i' x x' b h1 h2 m1 m2 r1 r2=> ?_⟩,deep⟩,c,mu⟩
 ·by_cases hlt:i<h.length
  ·exact(k.old b hm).2 i x (left hlt hi) hx (leftr hlt hri)
  ·have:=(kr.objs _ x _ (right hlt hi) (rightr hlt hri)).base hx
   have:=(k.old b hm).1
   omega
 ·by_cases hlt:i<h.length
  ·have kx:=k.objs i x q (left hlt hi) (leftr hlt hq)
   exact kx.keep c (fun b e hd=>hb.block b (by subst e;exact kx.lt hd))
  ·have kx:=kr.objs _ x q (right hlt hi) (rightr hlt hq)
   have hx:=ha x (Zk (right hlt hi))
   have main:∀{z:Nat}{es:List (List PV)},wu (Mu (Mu M0 ρ h) ρr hr) w.heap.size w' ρr hr q (.arr z es)→wu (Mu M0 (ρ++ρr) (h++hr)) base w' (ρ++ρr) (h++hr) q (.arr z es):=by
    intro z es kx
    obtain⟨hz,hes,kx⟩:=kx
    refine⟨hz,hes,?_⟩
    cases q with
    |none=>exact kx
    |some b=>
     obtain⟨hbase,cur,cap,g1,g2,g3,g4,g5⟩:=kx
     refine⟨Zc k.le hbase,cur,cap,g1,g2,g3,g4,fun i1 e1 j1 p1 he1 hp1=> ?_⟩
     obtain⟨v,hv,hrd⟩:=g5 i1 e1 j1 p1 he1 hp1
     exact⟨v,hv,hrd.weak mu⟩
   cases x<;>first|exact main kx|exact hx.elim
 ·by_cases l1:i<h.length<;>by_cases l2:i'<h.length
  ·exact k.apart i i' x x' b (left l1 h1) (left l2 h2) m1 m2 (leftr l1 r1) (leftr l2 r2)
  ·have e1:=(k.objs i x _ (left l1 h1) (leftr l1 r1)).lt (AObj.mut_live m1)
   have e2:=(kr.objs _ x' _ (right l2 h2) (rightr l2 r2)).base m2
   omega
  ·have e1:=(k.objs i' x' _ (left l2 h2) (leftr l2 r2)).lt (AObj.mut_live m2)
   have e2:=(kr.objs _ x _ (right l1 h1) (rightr l1 r1)).base m1
   omega
  ·have:=kr.apart _ _ x x' b (right l1 h1) (right l2 h2) m1 m2 (rightr l1 r1) (rightr l2 r2)
   omega
theorem LR.shift {h hr:List AObj}{ρr:List (Option Nat)}{M M':Nat→Prop}(hl:ρ.length=h.length)(mu:∀b,M' b→M b){l:L}{v:Value}(ht:l.tame=true)(r:LR M w ρr hr l v):LR M' w (ρ++ρr) (h++hr) (nO h.length l) v:=by
 cases l with
 |pv p=>exact ap.weak mu r
 |nil=>exact r
 |arr o=>
  obtain⟨q,ob,h1,h2,hs⟩:=r
  refine⟨q,ob,?_,?_,hs⟩
  ·rw[Zh (by omega),hl];simpa using h1
  ·rw[Zh (by omega)];simpa using h2
 |_=>simp[L.tame]at ht
theorem ru.shift {h hr:List AObj}{ρr:List (Option Nat)}{M M':Nat→Prop}(hl:ρ.length=h.length)(mu:∀b,M' b→M b){ls:List L}{vs:List Value}(ht:ls.all L.tame=true)(r:ru M w ρr hr ls vs):ru M' w (ρ++ρr) (h++hr) (ls.map (nO h.length)) vs:=by
 refine⟨by simpa using r.1,fun i l v hl' hv=> ?_⟩
 simp only[Zp,Zj]at hl'
 obtain⟨l0,h0,rfl⟩:=hl'
 exact(r.2 i l0 v h0 hv).shift hl mu ((Zw.1 ht) l0 (Zk h0))
theorem VR.shift {h hr:List AObj}{ρr:List (Option Nat)}{M M':Nat→Prop}(hl:ρ.length=h.length)(mu:∀b,M' b→M b){x:V}{v:Value}(ht:(match x with| .one l=>l.tame| .agg ls=>ls.all L.tame| .tup xs=>xs.all fun x=>x.2.all L.tame)=true)(r:VR M w ρr hr x v):VR M' w (ρ++ρr) (h++hr) (Br h.length x) v:=by
 cases x with
 |one l=>exact LR.shift hl mu ht r
 |agg ls=>obtain⟨cs,rfl,hr'⟩:=r;exact⟨cs,rfl,hr'.shift hl mu ht⟩
 |tup xs=>
  obtain⟨vs,rfl,h1,h2⟩:=r
  refine⟨vs,rfl,by simpa using h1,fun i x u hx hu=> ?_⟩
  simp only[Zp,Zj]at hx
  obtain⟨x0,h0,rfl⟩:=hx
  have hth:=(Zw.1 ht) x0 (Zk h0)
  have:=h2 i x0 u h0 hu
  obtain⟨b,ls⟩:=x0
  cases b with
  |true=>obtain⟨cs,rfl,hr'⟩:=this;exact⟨cs,rfl,hr'.shift hl mu hth⟩
  |false=>
   match ls,this,hth with
   |[l],this,hth=>exact LR.shift hl mu (by simpa using hth) this
theorem Qq (r:V)(hc:r.clean=true):(match(thaw [] r).1 with| .one l=>l.tame| .agg ls=>ls.all L.tame| .tup xs=>xs.all fun x=>x.2.all L.tame)=true:=by
 cases r with
 |one l=>
  obtain⟨l',h',e'⟩:=iS [] l
  have:=lW [l] [] (by simpa[V.clean]using hc)
  simp only[thaw,e']at this⊢
  simpa using this
 |agg ls=>exact lW ls [] (by simpa[V.clean]using hc)
 |tup xs=>exact Ge xs [] (by simpa[V.clean]using hc)
def AObj.ow :AObj→AObj
 | .darr z es=> .arr z es
 |ob=>ob
theorem sw :∀(ls:List L)(g:List AObj),thawL (g.map AObj.ow) (ls.map L.ow)=((thawL g ls).1,(thawL g ls).2.map AObj.ow)
 |[],g=>rfl
 |l::ls,g=>by
  cases l with
  |own z es=>
   have e:=sw ls (g++[.arr z es])
   simp only[List.map_append,Zv,Yb,AObj.ow]at e
   simp only[Zv,L.ow,thawL,e,Zs]
  |down z es=>
   have e:=sw ls (g++[.darr z es])
   simp only[List.map_append,Zv,Yb,AObj.ow]at e
   simp only[Zv,L.ow,thawL,e,Zs]
  |_=>simp only[Zv,L.ow,thawL,sw ls g]
theorem LU :∀(xs:List (Bool×List L))(g:List AObj),thawT (g.map AObj.ow) (xs.map fun x=>(x.1,x.2.map L.ow))=((thawT g xs).1,(thawT g xs).2.map AObj.ow)
 |[],g=>rfl
 |(b,ls)::xs,g=>by
  simp only[Zv,thawT,sw,LU xs]
theorem OI (r:V):thaw [] r.ow=((thaw [] r).1,(thaw [] r).2.map AObj.ow):=by
 cases r with
 |one l=>
  have e:=sw [l] []
  obtain⟨l',h',e'⟩:=iS [] l
  simp only[Yb,Zv,e']at e
  simp only[V.ow,thaw,e,e']
 |agg ls=>
  have e:=sw ls []
  simp only[Yb]at e
  simp only[V.ow,thaw,e]
 |tup xs=>
  have e:=LU xs []
  simp only[Yb]at e
  simp only[V.ow,thaw,e]
theorem L.clean_ow {l:L}(h:l.clean=true):l.ow.clean=true:=by cases l<;>first|exact h|rfl
theorem Ls.clean_ow {ls:List L}(h:ls.all L.clean=true):(ls.map L.ow).all L.clean=true:=by
 rw[Zw]at h⊢
 intro x hx
 obtain⟨y,hy,rfl⟩:=Yo.1 hx
 exact L.clean_ow (h y hy)
theorem V.clean_ow {r:V}(h:r.clean=true):r.ow.clean=true:=by
 cases r with
 |one l=>exact L.clean_ow h
 |agg ls=>exact Ls.clean_ow h
 |tup xs=>
  simp only[V.ow,V.clean,Zw]at h⊢
  intro x hx
  obtain⟨y,hy,rfl⟩:=Yo.1 hx
  have:=Ls.clean_ow (Zw.2 (h y hy))
  exact Zw.1 this
theorem B3 {h:List AObj}{o:Nat}{ob:AObj}(e:(h.map AObj.ow)[o]? =some ob):∃ob',h[o]? =some ob'∧ob'.ow=ob:=by
 rw[Zp]at e
 cases q:h[o]? with
 |none=>rw[q]at e;cases e
 |some x=>rw[q]at e;exact⟨x,rfl,by simpa using e⟩
theorem Fx (ob:AObj):ob.ow.mut=ob.mut:=by cases ob<;>rfl
theorem Tp {M:Nat→Prop}{ρ:List (Option Nat)}{h:List AObj}:Mu M ρ (h.map AObj.ow)=Mu M ρ h:=by
 funext b
 apply propext
 unfold Mu
 constructor
 ·rintro(q|⟨o,ob,e,m,r⟩)
  ·exact .inl q
  ·obtain⟨ob',e',rfl⟩:=B3 e
   exact .inr ⟨o,ob',e',by rwa[Fx]at m,r⟩
 ·rintro(q|⟨o,ob,e,m,r⟩)
  ·exact .inl q
  ·exact .inr ⟨o,ob.ow,by rw[Zp,e];rfl,by rw[Fx];exact m,r⟩
theorem QJ {M:Nat→Prop}{ρ:List (Option Nat)}{h:List AObj}{l:L}{v:Value}(r:LR M w ρ h l v):LR M w ρ (h.map AObj.ow) l v:=by
 cases l with
 |ptr o i j=>
  obtain⟨r,ob,e1,e2,e3⟩:=r
  exact⟨r,ob.ow,e1,by rw[Zp,e2];rfl,by cases ob<;>exact e3⟩
 |arr o=>
  obtain⟨r,ob,e1,e2,e3⟩:=r
  exact⟨r,ob.ow,e1,by rw[Zp,e2];rfl,by cases ob<;>exact e3⟩
 |tp n=>
  obtain⟨o,b,e1,e2,e3⟩:=r
  exact⟨o,b,e1,by rw[Zp,e2];rfl,e3⟩
 |sub o c=>
  obtain⟨q,b,z,es,e1,e2,e3⟩:=r
  exact⟨q,b,z,es,e1,by rw[Zp,e2];rfl,e3⟩
 |win o l r'=>
  obtain⟨h1,q,ob,e1,e2,e3,e4⟩:=r
  exact⟨h1,q,ob.ow,e1,by rw[Zp,e2];rfl,by cases ob<;>simp_all[AObj.ow],fun hq=>by cases ob<;>first|exact e4 rfl|cases hq⟩
 |_=>exact r
theorem Mg {M:Nat→Prop}{ρ:List (Option Nat)}{h:List AObj}{ls:List L}{vs:List Value}(r:ru M w ρ h ls vs):ru M w ρ (h.map AObj.ow) ls vs:=⟨r.1,fun i l v a b=>QJ (r.2 i l v a b)⟩
theorem UB {M:Nat→Prop}{ρ:List (Option Nat)}{h:List AObj}{x:V}{v:Value}(r:VR M w ρ h x v):VR M w ρ (h.map AObj.ow) x v:=by
 cases x with
 |one l=>exact QJ r
 |agg ls=>
  obtain⟨cs,e,r⟩:=r
  exact⟨cs,e,Mg r⟩
 |tup xs=>
  obtain⟨vs,e,hl,r⟩:=r
  refine⟨vs,e,hl,fun i x u a b=> ?_⟩
  have:=r i x u a b
  split at this
  ·obtain⟨cs,e,r⟩:=this
   exact⟨cs,e,Mg r⟩
  ·exact QJ this
  ·exact this.elim
theorem Uy {ρ:List (Option Nat)}{h:List AObj}(k:HR M0 base w ρ h):HR M0 base w ρ (h.map AObj.ow):=by
 obtain⟨⟨k1,k2,k3,k4,k5⟩,κ,⟨d1,d2⟩,z1,z2⟩:=k
 refine⟨⟨by rw[Zs];exact k1,fun b hb=>⟨(k2 b hb).1,fun o ob e m=> ?_⟩,k3,fun o ob r e hr=> ?_,fun o o' ob ob' b e e' m m'=> ?_⟩,κ,⟨fun o ob b e m=> ?_,fun o ob z es b e hd=> ?_⟩,z1,fun b o c τ z es hk e=> ?_⟩
 ·obtain⟨ob',e',rfl⟩:=B3 e
  rw[Fx]at m
  exact(k2 b hb).2 o ob' e' m
 ·obtain⟨ob',e',rfl⟩:=B3 e
  have:=k4 o ob' r e' hr
  rw[Tp]
  cases ob' with
  |box cs=>
   obtain⟨b,cur,h1,h2,h3,h4⟩:=this
   exact⟨b,cur,h1,h2,h3,Mg h4⟩
  |_=>exact this
 ·obtain⟨q,f,rfl⟩:=B3 e
  obtain⟨q',f',rfl⟩:=B3 e'
  rw[Fx]at m m'
  exact k5 o o' q q' b f f' m m'
 ·obtain⟨q,f,rfl⟩:=B3 e
  rw[Fx]at m
  exact d1 o q b f m
 ·obtain⟨q,f,rfl⟩:=B3 e
  cases q with
  |zarr z' es'=>exact d2 o _ z es b f hd
  |_=>cases hd
 ·obtain⟨q,f,hq⟩:=B3 e
  cases q with
  |zarr z' es'=>cases hq;exact z2 b o c τ z es hk f
  |_=>cases hq
theorem vD.ow {r:V}{v:Value}(h:vD M0 base w r v):vD M0 base w r.ow v:=by
 obtain⟨ρ',h1,h2⟩:=h
 refine⟨ρ',?_,?_⟩
 ·rw[OI];exact Uy h1
 ·rw[OI,Tp];exact UB h2
theorem FC {h:List AObj}{w':World}{r:V}{v:Value}(k:HR M0 base w ρ h)(hb:Below w.heap.size w w')(hc:r.clean=true)(rr:vD (Mu M0 ρ h) w.heap.size w' r v):
 ∃ρ',HR M0 base w' ρ' (thaw h r).2∧Ch (Mu M0 ρ h) (Mu M0 ρ' (thaw h r).2) w w' ρ ρ' h (thaw h r).2∧VR (Mu M0 ρ' (thaw h r).2) w' ρ' (thaw h r).2 (thaw h r).1 v:=by
 obtain⟨ρr,kr,vr⟩:=rr
 obtain⟨g1,g2,g3⟩:=k.join hb kr (LW r)
 rw[Gf r h hc]
 exact⟨ρ++ρr,g1,g2,vr.shift k.len g3 (Qq r hc)⟩
end
end Gi
namespace Gi
open Go Go.RowKit
variable {KI:KF}
section
variable {Γ:Ctx}{P:Program}{M0:Nat→Prop}{base:Nat}{σ:St}{a:Act}{w:World}{ρ:List (Option Nat)}
theorem Mu.lt {h:List AObj}(k:HR M0 base w ρ h){b:Nat}(hm:Mu M0 ρ h b):b<w.heap.size:=by
 rcases hm with hm|⟨o,ob,ho,hmut,hr⟩
 ·exact(k.old b hm).1
 ·exact(k.objs o ob _ ho hr).lt (AObj.mut_live hmut)
def L.ob :L→Option AObj
 | .own z es=>some (.arr z es)
 | .down z es=>some (.darr z es)
 |_=>none
def AObj.lst :AObj→List (List PV)
 | .arr _ es=>es
 | .darr _ es=>es
 |_=>[]
def TR (g:List AObj)(ls:List L)(q:List L×List AObj):Prop:=
 q.1.length=ls.length∧(∃t,q.2=g++t)∧
  ∀(i:Nat)(l:L),ls[i]? =some l→∃l',q.1[i]? =some l'∧((∃ob o,l.ob=some ob∧l'= .arr o∧q.2[o]? =some ob)∨(l.ob=none∧l'=l))
theorem kV :∀(ls:List L)(g:List AObj),ls.all L.clean=true→TR g ls (thawL g ls)
 |[],g,_=>⟨rfl,⟨[],by simp[thawL]⟩,fun i l hl=>by simp at hl⟩
 |l::ls,g,hc=>by
  simp only[Zq,Zm]at hc
  have other:l.ob=none→thawL g (l::ls)=(l::(thawL g ls).1,(thawL g ls).2)→TR g (l::ls) (thawL g (l::ls)):=fun hno e=>by
   obtain⟨h1,⟨t,ht⟩,h3⟩:=kV ls g hc.2
   rw[e]
   refine⟨by simp[h1],⟨t,ht⟩,fun i l' hl=> ?_⟩
   cases i with
   |zero=>simp at hl;subst hl;exact⟨l,rfl, .inr ⟨hno,rfl⟩⟩
   |succ i=>simpa using h3 i l' (by simpa using hl)
  have mine:∀ob,l.ob=some ob→thawL g (l::ls)=(.arr g.length::(thawL (g++[ob]) ls).1,(thawL (g++[ob]) ls).2)→TR g (l::ls) (thawL g (l::ls)):=fun ob hob e=>by
   obtain⟨h1,⟨t,ht⟩,h3⟩:=kV ls (g++[ob]) hc.2
   rw[e]
   refine⟨by simp[h1],⟨[ob]++t,by simp only;rw[ht,Zo]⟩,fun i l' hl=> ?_⟩
   cases i with
   |zero=>
    simp at hl;subst hl
    refine⟨.arr g.length,rfl, .inl ⟨ob,g.length,hob,rfl,?_⟩⟩
    simp only
    rw[ht,Zo,Zh (Zl _)]
    simp
   |succ i=>simpa using h3 i l' (by simpa using hl)
  cases l with
  |own z es=>exact mine _ rfl rfl
  |down z es=>exact mine _ rfl rfl
  |pv p=>exact other rfl rfl
  |nil=>exact other rfl rfl
  |_=>simp[L.clean]at hc
theorem xB {h hr:List AObj}{ρr:List (Option Nat)}{w':World}(k:HR M0 base w ρ h)(hb:Below w.heap.size w w')(kr:HR (Mu M0 ρ h) w.heap.size w' ρr hr){l l':L}{v:Value}
 (hl:(∃ob o,l.ob=some ob∧l'= .arr o∧hr[o]? =some ob)∨(l.ob=none∧l'=l)) (hc:l.clean=true) (r:LR (Mu (Mu M0 ρ h) ρr hr) w' ρr hr l' v):LR (Mu M0 ρ h) w' ρ h (di l) v:=by
 have weak:∀b,Mu M0 ρ h b→Mu (Mu M0 ρ h) ρr hr b:=fun b hm=> .inl hm
 rcases hl with⟨ob,o,e0,rfl,ho⟩|⟨hno,rfl⟩
 ·obtain⟨q,ob',h1,h2,hs⟩:=r
  rw[ho]at h2;cases h2
  have main:∀{z:Nat}{es:List (List PV)},wu (Mu (Mu M0 ρ h) ρr hr) w.heap.size w' ρr hr q (.arr z es)→km w' (.arr z es) q v→ap (Mu M0 ρ h) w' (.lst es) v:=by
   intro z es k0 hs
   obtain⟨hz,hes,kx⟩:=k0
   cases q with
   |none=>
    obtain rfl:es=[]:=kx
    obtain⟨_,rfl⟩:=hs
    simp only[ap]
    exact .inl ⟨by trivial,_,_,rfl⟩
   |some b=>
    obtain⟨hbase,cur,cap,hrow,g1,g2,g3,g4⟩:=kx
    obtain⟨cur',cap',hrow',_,hc',_,rfl⟩:=hs
    exact tc hrow hes (fun hm=>by have:=Mu.lt k hm;omega) hc' (fun i e j p he hp=>by
     obtain⟨v,hv,hrd⟩:=g4 i e j p he hp
     exact⟨v,hv,hrd.weak weak⟩)
  have k0:=kr.objs o _ q ho h1
  cases l with
  |own z es=>cases e0;exact main k0 hs
  |down z es=>cases e0;exact main k0 hs
  |_=>cases e0
 ·cases l' with
  |pv p=>exact ap.weak weak r
  |nil=>exact r
  |own z es=>cases hno
  |down z es=>cases hno
  |_=>simp[L.clean]at hc
theorem B8 {h:List AObj}{ρr:List (Option Nat)}{w':World}(k:HR M0 base w ρ h)(hb:Below w.heap.size w w'){ls:List L}{vs:List Value}{g:List AObj}{hr:List AObj}(hhr:∃t,hr=(thawL g ls).2++t)(kr:HR (Mu M0 ρ h) w.heap.size w' ρr hr)(hc:ls.all L.clean=true)
 (r:ru (Mu (Mu M0 ρ h) ρr hr) w' ρr hr (thawL g ls).1 vs):ru (Mu M0 ρ h) w' ρ h (ls.map di) vs:=by
 obtain⟨h1,_,h3⟩:=kV ls g hc
 obtain⟨t,ht⟩:=hhr
 refine⟨by rw[Zs,←h1];exact r.1,fun i l v hl hv=> ?_⟩
 simp only[Zp,Zj]at hl
 obtain⟨l0,h0,rfl⟩:=hl
 obtain⟨l',hl',hcase⟩:=h3 i l0 h0
 refine xB k hb kr ?_ ((Zw.1 hc) l0 (Zk h0)) (r.2 i l' v hl' hv)
 rcases hcase with⟨ob,o,e1,e2,e3⟩|hcase
 ·exact .inl ⟨ob,o,e1,e2,by rw[ht,Ze (Zb.1 e3).1];exact e3⟩
 ·exact .inr hcase
theorem Ic :∀(xs:List (Bool×List L))(g:List AObj),(xs.all fun x=>x.2.all L.clean)=true→∃t,(thawT g xs).2=g++t
 |[],g,_=>⟨[],by simp[thawT]⟩
 |(b,ls)::xs,g,hc=>by
  simp only[Zq,Zm]at hc
  obtain⟨_,⟨t,ht⟩,_⟩:=kV ls g hc.1
  obtain⟨t',ht'⟩:=Ic xs (thawL g ls).2 hc.2
  exact⟨t++t',by simp only[thawT];rw[ht',ht,Zo]⟩
theorem Gb :∀(xs:List (Bool×List L))(g:List AObj),(xs.all fun x=>x.2.all L.clean)=true→(thawT g xs).1.length=xs.length∧
 ∀(i:Nat)(x:Bool×List L),xs[i]? =some x→∃g',(thawT g xs).1[i]? =some (x.1,(thawL g' x.2).1)∧∃t,(thawT g xs).2=(thawL g' x.2).2++t
 |[],g,_=>⟨rfl,fun i x hx=>by simp at hx⟩
 |(b,ls)::xs,g,hc=>by
  simp only[Zq,Zm]at hc
  obtain⟨h1,h2⟩:=Gb xs (thawL g ls).2 hc.2
  simp only[thawT]
  refine⟨by simp[h1],fun i x hx=> ?_⟩
  cases i with
  |zero=>simp at hx;subst hx;exact⟨g,rfl,Ic xs _ hc.2⟩
  |succ i=>simpa using h2 i x (by simpa using hx)
theorem Jh {h:List AObj}{w':World}{r:V}{v:Value}(k:HR M0 base w ρ h)(hb:Below w.heap.size w w')(hc:r.clean=true)(rr:vD (Mu M0 ρ h) w.heap.size w' r v):VR (Mu M0 ρ h) w' ρ h (dO r) v:=by
 obtain⟨ρr,kr,vr⟩:=rr
 cases r with
 |one l=>
  obtain⟨l',h',e'⟩:=iS [] l
  simp only[thaw,e']at kr vr
  have hcl:[l].all L.clean=true:=by simpa[V.clean]using hc
  obtain⟨_,_,h3⟩:=kV [l] [] hcl
  obtain⟨l'',hl'',hcase⟩:=h3 0 l rfl
  rw[e']at hl'' hcase
  simp at hl'';subst hl''
  exact xB k hb kr hcase (by simpa using hcl) vr
 |agg ls=>
  obtain⟨cs,rfl,hl⟩:=vr
  exact⟨cs,rfl,B8 k hb ⟨[],by simp[thaw]⟩ kr (by simpa[V.clean]using hc) hl⟩
 |tup xs=>
  have hcl:(xs.all fun x=>x.2.all L.clean)=true:=by simpa[V.clean]using hc
  obtain⟨vs,rfl,h1,h2⟩:=vr
  obtain⟨t1,t2⟩:=Gb xs [] hcl
  refine⟨vs,rfl,?_,fun i x u hx hu=> ?_⟩
  ·simp only[dO,Zs];rw[←t1];exact h1
  ·simp only[Zp,Zj]at hx
   obtain⟨x0,h0,rfl⟩:=hx
   obtain⟨g',e1,e2⟩:=t2 i x0 h0
   have:=h2 i _ u e1 hu
   have hx0:=(Zw.1 hcl) x0 (Zk h0)
   obtain⟨b,ls⟩:=x0
   cases b with
   |true=>obtain⟨cs,rfl,hr'⟩:=this;exact⟨cs,rfl,B8 k hb e2 kr hx0 hr'⟩
   |false=>
    match ls,this,hx0,e2 with
    |[l],this,hx0,e2=>
     obtain⟨l',h',e'⟩:=iS g' l
     simp only[e']at this
     obtain⟨_,_,h3⟩:=kV [l] g' hx0
     obtain⟨l'',hl'',hcase⟩:=h3 0 l rfl
     rw[e']at hl'' hcase
     simp at hl'';subst hl''
     obtain⟨t,ht⟩:=e2
     refine xB k hb kr ?_ (by simpa using hx0) this
     rcases hcase with⟨ob,o,q1,q2,q3⟩|hcase
     ·refine .inl ⟨ob,o,q1,q2,?_⟩
      have:(thaw [] (V.tup xs)).2=(thawT [] xs).2:=rfl
      rw[this,ht,e',Ze (Zb.1 q3).1]
      exact q3
     ·exact .inr hcase
    |[],this,_,_=>exact this.elim
    |l1::l2::ls',this,hx0,_=>
     have hlen:=(kV (l1::l2::ls') g' hx0).1
     revert this
     generalize (thawL g' (l1::l2::ls')).1=q at hlen
     intro this
     match q,hlen,this with
     |_::_::_,_,this=>exact this.elim
theorem xO.weak {M M':Nat→Prop}(h:∀b,M' b→M b){e:List PV}{u:Value}(r:xO M w e u):xO M' w e u:=
 r.go ⟨Zl _,fun b _=>h b,fun _ _ _=>rfl⟩
theorem xO.arg {M:Nat→Prop}{e:List PV}{u:Value}(r:xO M w e u):VR M w [] [] (ww e) u:=by
 obtain⟨b,o,rfl,hb,hlt,hr⟩:=r
 exact⟨b,o,rfl,hb,hlt,hr⟩
theorem jq {h:List AObj}{M:Nat→Prop}:∀{vs xz:List V}{us:List Value},am h vs=some xz→vs.length=us.length→(∀(i:Nat)(v:V)(u:Value),vs[i]? =some v→us[i]? =some u→VR (Mu M0 ρ h) w ρ h v u)→
 (∀(v:V)(l:L)(p:PV)(u:Value),v∈vs→l∈v.cells→LR (Mu M0 ρ h) w ρ h l u→l.view h=some p→ap M w p u)→(∀e u,xO (Mu M0 ρ h) w e u→xO M w e u)→qz M w xz us
 |[],xz,us,e,hl,_,_,_=>by
  simp[am]at e;subst e
  exact⟨hl,fun i x u hx=>by simp at hx⟩
 |v::vs,xz,[],e,hl,_,_,_=>by simp at hl
 |v::vs,xz,u::us,e,hl,hvr,hrd,hcap=>by
  unfold am at e
  split at e
  ·rename_i p ps h1 h2
   cases e
   obtain⟨i1,i2⟩:=jq h2 (by simpa using hl) (fun i v' u' hv hu=>hvr (i+1) v' u' (by simpa using hv) (by simpa using hu)) (fun v' l p u' hv=>hrd v' l p u' (by simp[hv])) hcap
   refine⟨by simp[i1],fun i x u' hx hu=> ?_⟩
   cases i with
   |succ i=>exact i2 i x u' (by simpa using hx) (by simpa using hu)
   |zero=>
    simp at hx hu
    subst hx;subst hu
    have r:=hvr 0 v u rfl rfl
    cases v with
    |one l=>
     by_cases hfn:∃k caps,l= .fn k caps
     ·obtain⟨k,caps,rfl⟩:=hfn
      simp only[V.view]at h1
      cases h1
      obtain⟨f,cs,rfl,hk,hl2,hc⟩:=r
      refine⟨f,cs,rfl,hk,hl2,fun i e u' he hu'=> ?_⟩
      exact hcap _ _ (hc i e u' he hu')
     ·have h1':(match l.view h with|some p=>some (V.one (.pv p))|none=>none)=some p:=by
       cases l with
       |fn k caps=>exact absurd ⟨k,caps,rfl⟩ hfn
       |_=>exact h1
      split at h1'
      ·rename_i q hq
       cases h1'
       exact hrd (.one l) l q u (by simp) (by simp[V.cells]) r hq
      ·cases h1'
    |agg ls=>
     simp only[V.view]at h1
     split at h1
     ·rename_i qs hqs
      cases h1
      obtain⟨cs,rfl,hls⟩:=r
      obtain⟨e1,e2⟩:=mX hqs
      refine⟨cs,rfl,by rw[Zs,e1];exact hls.1,fun j l c hl' hc=> ?_⟩
      simp only[Zp,Zj]at hl'
      obtain⟨q,hq,rfl⟩:=hl'
      have hj:j<ls.length:=by rw[←e1];exact(Zb.1 hq).1
      have hlj:ls[j]? =some ls[j]:=by simp[hj]
      obtain⟨q',hq',hv'⟩:=e2 j _ hlj
      rw[hq]at hq';cases hq'
      exact hrd (.agg ls) ls[j] q c (by simp) (Zg hj) (hls.2 j _ c hlj hc) hv'
     ·cases h1
    |tup xs=>cases h1
  ·cases e
theorem Mu.nil (b:Nat):Mu M0 [] [] b↔M0 b:=by simp[Mu]
theorem LB {fn:AFn}{xz:List V}{vals:Array Value}(hG:Γ.G w)(h0:∀b,M0 b→b<w.heap.size)(ha:qz M0 w xz vals.toList):
 SR Γ M0 w.heap.size (start fn xz) {tmps:=vals++Array.replicate (fn.ntmps-vals.size) undef,defers:=[]} w []:=by
 have hl:xz.length=vals.size:=by rw[ha.1];simp
 refine⟨⟨⟨rfl,fun b hb=>⟨h0 b hb,fun o ob ho=>by simp[start]at ho⟩,Zl _,fun o ob r ho=>by simp[start]at ho,fun o o' ob ob' b ho=>by simp[start]at ho⟩,fun _=>[],⟨fun o ob b ho=>by simp[start]at ho,fun o ob z es b ho=>by simp[start]at ho⟩,fun _ _=>rfl,nofun⟩,⟨rfl,by simp[start,hl],fun i v u hv hu=> ?_⟩,hG,Γ.size w hG⟩
 have weak:∀{x:V}{u:Value},VR M0 w [] [] x u→VR (Mu M0 [] []) w [] [] x u:=fun r=>r.ch ⟨⟨Zl _,fun b _ hm=>(Mu.nil b).1 hm,fun _ _ _=>rfl⟩,fun _ cur hr=>⟨cur,hr,rfl⟩,fun o r ob hr=>by simp at hr,fun o b z es c v hr=>by simp at hr⟩
 simp only[start]at hv
 by_cases hi:i<xz.length
 ·rw[Ze hi]at hv
  rw[Yn (by omega)]at hu
  exact weak (ha.2 i v u hv (by simpa using hu))
 ·rw[Zh (by omega)]at hv
  rw[Array.getElem?_append_right (by omega)]at hu
  have e1:v= .tup []:=by
   have:=(Zb.1 hv).2
   simp at this;exact this.symm
  have e2:u=undef:=by
   have:=(Y6.1 hu).2
   simp at this;exact this.symm
  rw[e1,e2]
  exact VR.undef
end
end Gi
