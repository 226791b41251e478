/- Of this proof. -/
import Derived.Test.YtgmnakghjemjlaaGreatGilc
set_option linter.unusedSimpArgs false
set_option linter.unusedVariables false
namespace Gi
open Go Go.RowKit
variable {KI:KF}
def L.clean :L→Bool
 | .pv _=>true
 | .nil=>true
 | .own _ _=>true
 | .down _ _=>true
 |_=>false
def V.clean :V→Bool
 | .one l=>l.clean
 | .agg ls=>ls.all L.clean
 | .tup xs=>xs.all fun x=>x.2.all L.clean
def oW [KF](M:Nat→Prop)(w:World)(xz:List V)(vals:List Value):Prop:=
 xz.length=vals.length∧∀(i:Nat)(x:V)(u:Value),xz[i]? =some x→vals[i]? =some u→VR M w [] [] x u
def tK [KF](M0:Nat→Prop)(base:Nat)(w:World)(r:V)(v:Value):Prop:=
 ∃ρ',HR M0 base w ρ' (thaw [] r).2∧VR (Mu M0 ρ' (thaw [] r).2) w ρ' (thaw [] r).2 (thaw [] r).1 v
def yS [KF](Γ:Ctx)(P:Program)(f:FuncId)(xz:List V)(r:V):Prop:=
 r.clean=true∧∀(M0:Nat→Prop)(w:World)(vals:Array Value),Γ.G w→(∀b,M0 b→b<w.heap.size)→oW M0 w xz vals.toList→
  Calls P f vals w fun e w'=>∃v,e= .returned v∧Below w.heap.size w w'∧tK M0 w.heap.size w' r v
section
variable {Γ:Ctx}{P:Program}{M0:Nat→Prop}{base:Nat}{σ:St}{a:Act}{w:World}{ρ:List (Option Nat)}
def mr (n:Nat):L→L
 | .arr o=> .arr (n+o)
 |l=>l
theorem ji :∀(ls:List L)(g h:List AObj),ls.all L.clean=true→thawL (h++g) ls=((thawL g ls).1.map (mr h.length),h++(thawL g ls).2)
 |[],g,h,_=>rfl
 |l::ls,g,h,hc=>by
  simp only[List.all_cons,Bool.and_eq_true]at hc
  cases l with
  |own z es=>
   have ih:=ji ls (g++[.arr z es]) h hc.2
   simp only[thawL,List.append_assoc]at ih⊢
   rw[ih]
   simp[mr]
  |down z es=>
   have ih:=ji ls (g++[.darr z es]) h hc.2
   simp only[thawL,List.append_assoc]at ih⊢
   rw[ih]
   simp[mr]
  |pv p=>simp only[thawL];rw[ji ls g h hc.2];simp[mr]
  |nil=>simp only[thawL];rw[ji ls g h hc.2];simp[mr]
  |_=>simp[L.clean]at hc
theorem zD :∀(xs:List (Bool×List L))(g h:List AObj),(xs.all fun x=>x.2.all L.clean)=true→thawT (h++g) xs=((thawT g xs).1.map (fun x=>(x.1,x.2.map (mr h.length))),h++(thawT g xs).2)
 |[],g,h,_=>rfl
 |(b,ls)::xs,g,h,hc=>by
  simp only[List.all_cons,Bool.and_eq_true]at hc
  simp only[thawT]
  rw[ji ls g h hc.1]
  simp only
  rw[zD xs (thawL g ls).2 h hc.2]
  simp
def yF (n:Nat):V→V
 | .one l=> .one (mr n l)
 | .agg ls=> .agg (ls.map (mr n))
 | .tup xs=> .tup (xs.map fun x=>(x.1,x.2.map (mr n)))
theorem hX (h:List AObj)(l:L):∃l' h',thawL h [l]=([l'],h'):=by cases l<;>exact⟨_,_,rfl⟩
theorem Do (r:V)(h:List AObj)(hc:r.clean=true):thaw h r=(yF h.length (thaw [] r).1,h++(thaw [] r).2):=by
 cases r with
 |one l=>
  have e:=ji [l] [] h (by simpa[V.clean]using hc)
  simp only[List.append_nil]at e
  obtain⟨l',h',e'⟩:=hX [] l
  simp only[thaw,e,e',List.map_cons,List.map_nil,yF]
 |agg ls=>
  have e:=ji ls [] h (by simpa[V.clean]using hc)
  simp only[List.append_nil]at e
  simp only[thaw,e,yF]
 |tup xs=>
  have e:=zD xs [] h (by simpa[V.clean]using hc)
  simp only[List.append_nil]at e
  simp only[thaw,e,yF]
def AObj.isArr :AObj→Prop
 | .arr _ _=>True
 | .darr _ _=>True
 |_=>False
def mL (h:List AObj):Prop:=∀ob∈h,ob.isArr
theorem nC :∀(ls:List L)(g:List AObj),mL g→mL (thawL g ls).2
 |[],_,h=>h
 |l::ls,g,h=>by
  cases l with
  |own z es=>
   simp only[thawL]
   refine nC ls _ (fun ob hob=> ?_)
   rcases List.mem_append.1 hob with h1|h1
   ·exact h ob h1
   ·simp at h1;subst h1;trivial
  |down z es=>
   simp only[thawL]
   refine nC ls _ (fun ob hob=> ?_)
   rcases List.mem_append.1 hob with h1|h1
   ·exact h ob h1
   ·simp at h1;subst h1;trivial
  |_=>simp only[thawL];exact nC ls g h
theorem E4 :∀(xs:List (Bool×List L))(g:List AObj),mL g→mL (thawT g xs).2
 |[],_,h=>h
 |(b,ls)::xs,g,h=>by simp only[thawT];exact E4 xs _ (nC ls g h)
theorem Iy (r:V):mL (thaw [] r).2:=by
 have h0:mL []:=fun ob h=>by cases h
 cases r with
 |one l=>
  obtain⟨l',h',e'⟩:=hX [] l
  have:=nC [l] [] h0
  simp only[thaw,e']at this⊢
  exact this
 |agg ls=>exact nC ls [] h0
 |tup xs=>exact E4 xs [] h0
def L.tame :L→Bool
 | .pv _=>true
 | .nil=>true
 | .arr _=>true
 |_=>false
theorem kH :∀(ls:List L)(g:List AObj),ls.all L.clean=true→(thawL g ls).1.all L.tame=true
 |[],_,_=>rfl
 |l::ls,g,hc=>by
  simp only[List.all_cons,Bool.and_eq_true]at hc
  cases l with
  |own z es=>simp only[thawL,List.all_cons,L.tame,Bool.true_and];exact kH ls _ hc.2
  |down z es=>simp only[thawL,List.all_cons,L.tame,Bool.true_and];exact kH ls _ hc.2
  |pv p=>simp only[thawL,List.all_cons,L.tame,Bool.true_and];exact kH ls _ hc.2
  |nil=>simp only[thawL,List.all_cons,L.tame,Bool.true_and];exact kH ls _ hc.2
  |_=>simp[L.clean]at hc
theorem Dn :∀(xs:List (Bool×List L))(g:List AObj),(xs.all fun x=>x.2.all L.clean)=true→((thawT g xs).1.all fun x=>x.2.all L.tame)=true
 |[],_,_=>rfl
 |(b,ls)::xs,g,hc=>by
  simp only[List.all_cons,Bool.and_eq_true]at hc
  simp only[thawT,List.all_cons,Bool.and_eq_true]
  exact⟨kH ls g hc.1,Dn xs _ hc.2⟩
mutual
theorem dU.up {κ κ':Nat→List Nat}{lo lo' n i i':Nat}{w:World}(hlo:lo'≤lo)(hκ:∀b,lo≤b→κ' b=match κ b with
 |o::τ=>(n+o)::τ
 |[]=>[])(hi:n+i=i'):∀(p:PV)(v:Value){τ:List Nat},dU κ lo w p ([i]++τ) v→dU κ' lo' w p ([i']++τ) v
 | .int _ _,_,_,r=>by simpa only[dU]using r
 | .bool _,_,_,r=>by simpa only[dU]using r
 | .str _,_,_,r=>by simpa only[dU]using r
 | .lst es,v,τ,r=>by
  simp only[dU]at r⊢
  rcases r with r|⟨b,c,z,cur,e,hb,hk,hz,hr,h1,h2,h3,ht⟩
  ·exact .inl r
  ·exact .inr ⟨b,c,z,cur,e,Nat.le_trans hlo hb,by rw[hκ b hb,hk];simp[hi],hz,hr,h1,h2,h3,dv.up hlo hκ hi z es b 0 ht⟩
theorem ft.up {κ κ':Nat→List Nat}{lo lo' n i i':Nat}{w:World}(hlo:lo'≤lo)(hκ:∀b,lo≤b→κ' b=match κ b with
 |o::τ=>(n+o)::τ
 |[]=>[])(hi:n+i=i'):∀(ps:List PV)(b o:Nat){τ:List Nat},ft κ lo w ps ([i]++τ) b o→ft κ' lo' w ps ([i']++τ) b o
 |[],_,_,_,_=>by simp only[ft]
 |p::ps,b,o,τ,r=>by
  simp only[ft]at r⊢
  obtain⟨⟨v,hv,hp⟩,r⟩:=r
  rw[List.append_assoc]at hp
  refine⟨⟨v,hv,?_⟩,ft.up hlo hκ hi ps b (o+1) r⟩
  rw[List.append_assoc]
  exact dU.up hlo hκ hi p v hp
theorem dv.up {κ κ':Nat→List Nat}{lo lo' n i i':Nat}{w:World}(hlo:lo'≤lo)(hκ:∀b,lo≤b→κ' b=match κ b with
 |o::τ=>(n+o)::τ
 |[]=>[])(hi:n+i=i')(z:Nat):∀(es:List (List PV))(b o:Nat){τ:List Nat},dv κ lo w z es ([i]++τ) b o→dv κ' lo' w z es ([i']++τ) b o
 |[],_,_,_,_=>by simp only[dv]
 |e::es,b,o,τ,r=>by
  simp only[dv]at r⊢
  exact⟨r.1,ft.up hlo hκ hi e b o r.2.1,dv.up hlo hκ hi z es b (o+z) r.2.2⟩
end
theorem HR.join {h hr:List AObj}{ρr:List (Option Nat)}{w':World}(k:HR M0 base w ρ h)(hb:Below w.heap.size w w')(kr:HR (Mu M0 ρ h) w.heap.size w' ρr hr)(ha:mL hr):
 HR M0 base w' (ρ++ρr) (h++hr)∧Ch (Mu M0 ρ h) (Mu M0 (ρ++ρr) (h++hr)) w w' ρ (ρ++ρr) h (h++hr)∧(∀b,Mu M0 (ρ++ρr) (h++hr) b→Mu (Mu M0 ρ h) ρr hr b):=by
 have left:∀{i:Nat}{x:AObj},i<h.length→(h++hr)[i]? =some x→h[i]? =some x:=fun hi e=>by rwa[List.getElem?_append_left hi]at e
 have leftr:∀{i:Nat}{x:Option Nat},i<h.length→(ρ++ρr)[i]? =some x→ρ[i]? =some x:=fun hi e=>by rwa[List.getElem?_append_left (by rw[k.len];exact hi)]at e
 have right:∀{i:Nat}{x:AObj},¬i<h.length→(h++hr)[i]? =some x→hr[i-h.length]? =some x:=fun hi e=>by rwa[List.getElem?_append_right (by omega)]at e
 have rightr:∀{i:Nat}{x:Option Nat},¬i<h.length→(ρ++ρr)[i]? =some x→ρr[i-h.length]? =some x:=fun hi e=>by rwa[List.getElem?_append_right (by rw[k.len];omega),k.len]at e
 have mu:∀b,Mu M0 (ρ++ρr) (h++hr) b→Mu (Mu M0 ρ h) ρr hr b:=by
  intro b hm
  rcases hm with hm|⟨i,x,hi,hx,hri⟩
  ·exact .inl (.inl hm)
  ·by_cases hlt:i<h.length
   ·exact .inl (.inr ⟨i,x,left hlt hi,hx,leftr hlt hri⟩)
   ·exact .inr ⟨_,x,right hlt hi,hx,rightr hlt hri⟩
 have c:Ch (Mu M0 ρ h) (Mu M0 (ρ++ρr) (h++hr)) w w' ρ (ρ++ρr) h (h++hr):=by
  refine⟨⟨hb.size,fun b hlt hm=> ?_,fun b hlt _=>hb.block b hlt⟩,fun b cur hrw=>⟨cur,by obtain⟨T,hr'⟩:=hrw;exact⟨T,by rw[hb.block b (gC.lt ⟨T,hr'⟩)];exact hr'⟩,rfl⟩,fun i q x h1 h2 _=> ?_,fun o b z es p v h1 h2 _ hv=>by unfold World.cell? at hv⊢;rw[hb.block b ((k.objs o _ _ h2 h1).lt (by simp))];exact hv⟩
  ·rcases mu b hm with hm|⟨i,x,hi,hx,hri⟩
   ·exact hm
   ·have:=(kr.objs i x _ hi hri).base hx
    omega
  ·have hlt:i<h.length:=(List.getElem?_eq_some_iff.1 h2).1
   exact⟨x,by rw[List.getElem?_append_left (by rw[k.len];exact hlt)];exact h1,by rw[List.getElem?_append_left hlt];exact h2,qc.refl _⟩
 have deep:∃κ,Deep κ base w' (ρ++ρr) (h++hr)∧Zon κ M0 w' (h++hr):=by
  obtain⟨κ,d,n⟩:=k.deep
  obtain⟨κr,dr,nr⟩:=kr.deep
  refine⟨fun b=>if b<w.heap.size then κ b else match κr b with
   |o::τ=>(h.length+o)::τ
   |[]=>[],⟨fun i x b hi hx hri=> ?_,fun i x z es b hi hd hri=> ?_⟩,fun b hb'=> ?_,fun b o c τ z es e ho=> ?_⟩
  ·by_cases hlt:i<h.length
   ·have hl:=(k.objs i x _ (left hlt hi) (leftr hlt hri)).lt (AObj.mut_live hx)
    rw[if_pos hl]
    exact d.root i x b (left hlt hi) hx (leftr hlt hri)
   ·have hl:=(kr.objs _ x _ (right hlt hi) (rightr hlt hri)).base hx
    rw[if_neg (by omega),dr.root _ x b (right hlt hi) hx (rightr hlt hri)]
    simp;omega
  ·by_cases hlt:i<h.length
   ·have hl:=(k.objs i x _ (left hlt hi) (leftr hlt hri)).lt (AObj.mut_live (AObj.deep_mut hd))
    exact(d.tree i x z es b (left hlt hi) hd (leftr hlt hri)).go (Nat.le_refl _) (fun o _=>by unfold World.cell?;rw[hb.block b hl]) ((k.objs i x _ (left hlt hi) (leftr hlt hri)).rows hd).2 (fun c b' τ hl' e=>⟨by rw[if_pos hl'];exact e,hb.block b' hl'⟩)
   ·have e0:h.length+(i-h.length)=i:=by omega
    have T:=dr.tree _ x z es b (right hlt hi) hd (rightr hlt hri)
    have hrows:=((kr.objs _ x _ (right hlt hi) (rightr hlt hri)).rows hd).2
    intro i1 e1 j1 p1 h1 h2
    obtain⟨v,hv,ht⟩:=T i1 e1 j1 p1 h1 h2
    exact⟨v,hv,dU.up k.le (fun b' hb'=>if_neg (by omega)) e0 p1 v ht⟩
  ·have:=hb.size
   rw[if_neg (by omega),nr.new b hb']
  ·by_cases hlt:o<h.length
   ·split at e
    ·exact n.zone b o c τ z es e (left hlt ho)
    ·split at e
     ·cases e;omega
     ·cases e
   ·exact(ha _ (List.mem_of_getElem? (right hlt ho))).elim
 refine⟨⟨⟨by simp[k.len,kr.len],fun b hm=>⟨Nat.lt_of_lt_of_le (k.old b hm).1 hb.size,fun i x hi hx hri=> ?_⟩,Nat.le_trans k.le hb.size,fun i x q hi hq=> ?_,fun i i' x x' b h1 h2 m1 m2 r1 r2=> ?_⟩,deep⟩,c,mu⟩
 ·by_cases hlt:i<h.length
  ·exact(k.old b hm).2 i x (left hlt hi) hx (leftr hlt hri)
  ·have:=(kr.objs _ x _ (right hlt hi) (rightr hlt hri)).base hx
   have:=(k.old b hm).1
   omega
 ·by_cases hlt:i<h.length
  ·have kx:=k.objs i x q (left hlt hi) (leftr hlt hq)
   exact kx.keep c (fun b e hd=>hb.block b (by subst e;exact kx.lt hd))
  ·have kx:=kr.objs _ x q (right hlt hi) (rightr hlt hq)
   have hx:=ha x (List.mem_of_getElem? (right hlt hi))
   have main:∀{z:Nat}{es:List (List PV)},tJ (Mu (Mu M0 ρ h) ρr hr) w.heap.size w' ρr hr q (.arr z es)→tJ (Mu M0 (ρ++ρr) (h++hr)) base w' (ρ++ρr) (h++hr) q (.arr z es):=by
    intro z es kx
    obtain⟨hz,hes,kx⟩:=kx
    refine⟨hz,hes,?_⟩
    cases q with
    |none=>exact kx
    |some b=>
     obtain⟨hbase,cur,cap,g1,g2,g3,g4,g5⟩:=kx
     refine⟨Nat.le_trans k.le hbase,cur,cap,g1,g2,g3,g4,fun i1 e1 j1 p1 he1 hp1=> ?_⟩
     obtain⟨v,hv,hrd⟩:=g5 i1 e1 j1 p1 he1 hp1
     exact⟨v,hv,hrd.weak mu⟩
   cases x<;>first|exact main kx|exact hx.elim
 ·by_cases l1:i<h.length<;>by_cases l2:i'<h.length
  ·exact k.apart i i' x x' b (left l1 h1) (left l2 h2) m1 m2 (leftr l1 r1) (leftr l2 r2)
  ·have e1:=(k.objs i x _ (left l1 h1) (leftr l1 r1)).lt (AObj.mut_live m1)
   have e2:=(kr.objs _ x' _ (right l2 h2) (rightr l2 r2)).base m2
   omega
  ·have e1:=(k.objs i' x' _ (left l2 h2) (leftr l2 r2)).lt (AObj.mut_live m2)
   have e2:=(kr.objs _ x _ (right l1 h1) (rightr l1 r1)).base m1
   omega
  ·have:=kr.apart _ _ x x' b (right l1 h1) (right l2 h2) m1 m2 (rightr l1 r1) (rightr l2 r2)
   omega
theorem LR.shift {h hr:List AObj}{ρr:List (Option Nat)}{M M':Nat→Prop}(hl:ρ.length=h.length)(mu:∀b,M' b→M b){l:L}{v:Value}(ht:l.tame=true)(r:LR M w ρr hr l v):LR M' w (ρ++ρr) (h++hr) (mr h.length l) v:=by
 cases l with
 |pv p=>exact ak.weak mu r
 |nil=>exact r
 |arr o=>
  obtain⟨q,ob,h1,h2,hs⟩:=r
  refine⟨q,ob,?_,?_,hs⟩
  ·rw[List.getElem?_append_right (by omega),hl];simpa using h1
  ·rw[List.getElem?_append_right (by omega)];simpa using h2
 |_=>simp[L.tame]at ht
theorem pG.shift {h hr:List AObj}{ρr:List (Option Nat)}{M M':Nat→Prop}(hl:ρ.length=h.length)(mu:∀b,M' b→M b){ls:List L}{vs:List Value}(ht:ls.all L.tame=true)(r:pG M w ρr hr ls vs):pG M' w (ρ++ρr) (h++hr) (ls.map (mr h.length)) vs:=by
 refine⟨by simpa using r.1,fun i l v hl' hv=> ?_⟩
 simp only[List.getElem?_map,Option.map_eq_some_iff]at hl'
 obtain⟨l0,h0,rfl⟩:=hl'
 exact(r.2 i l0 v h0 hv).shift hl mu ((List.all_eq_true.1 ht) l0 (List.mem_of_getElem? h0))
theorem VR.shift {h hr:List AObj}{ρr:List (Option Nat)}{M M':Nat→Prop}(hl:ρ.length=h.length)(mu:∀b,M' b→M b){x:V}{v:Value}(ht:(match x with| .one l=>l.tame| .agg ls=>ls.all L.tame| .tup xs=>xs.all fun x=>x.2.all L.tame)=true)(r:VR M w ρr hr x v):VR M' w (ρ++ρr) (h++hr) (yF h.length x) v:=by
 cases x with
 |one l=>exact LR.shift hl mu ht r
 |agg ls=>obtain⟨cs,rfl,hr'⟩:=r;exact⟨cs,rfl,hr'.shift hl mu ht⟩
 |tup xs=>
  obtain⟨vs,rfl,h1,h2⟩:=r
  refine⟨vs,rfl,by simpa using h1,fun i x u hx hu=> ?_⟩
  simp only[List.getElem?_map,Option.map_eq_some_iff]at hx
  obtain⟨x0,h0,rfl⟩:=hx
  have hth:=(List.all_eq_true.1 ht) x0 (List.mem_of_getElem? h0)
  have:=h2 i x0 u h0 hu
  obtain⟨b,ls⟩:=x0
  cases b with
  |true=>obtain⟨cs,rfl,hr'⟩:=this;exact⟨cs,rfl,hr'.shift hl mu hth⟩
  |false=>
   match ls,this,hth with
   |[l],this,hth=>exact LR.shift hl mu (by simpa using hth) this
theorem Mv (r:V)(hc:r.clean=true):(match(thaw [] r).1 with| .one l=>l.tame| .agg ls=>ls.all L.tame| .tup xs=>xs.all fun x=>x.2.all L.tame)=true:=by
 cases r with
 |one l=>
  obtain⟨l',h',e'⟩:=hX [] l
  have:=kH [l] [] (by simpa[V.clean]using hc)
  simp only[thaw,e']at this⊢
  simpa using this
 |agg ls=>exact kH ls [] (by simpa[V.clean]using hc)
 |tup xs=>exact Dn xs [] (by simpa[V.clean]using hc)
def AObj.ow :AObj→AObj
 | .darr z es=> .arr z es
 |ob=>ob
theorem p9 :∀(ls:List L)(g:List AObj),thawL (g.map AObj.ow) (ls.map L.ow)=((thawL g ls).1,(thawL g ls).2.map AObj.ow)
 |[],g=>rfl
 |l::ls,g=>by
  cases l with
  |own z es=>
   have e:=p9 ls (g++[.arr z es])
   simp only[List.map_append,List.map_cons,List.map_nil,AObj.ow]at e
   simp only[List.map_cons,L.ow,thawL,e,List.length_map]
  |down z es=>
   have e:=p9 ls (g++[.darr z es])
   simp only[List.map_append,List.map_cons,List.map_nil,AObj.ow]at e
   simp only[List.map_cons,L.ow,thawL,e,List.length_map]
  |_=>simp only[List.map_cons,L.ow,thawL,p9 ls g]
theorem Iw :∀(xs:List (Bool×List L))(g:List AObj),thawT (g.map AObj.ow) (xs.map fun x=>(x.1,x.2.map L.ow))=((thawT g xs).1,(thawT g xs).2.map AObj.ow)
 |[],g=>rfl
 |(b,ls)::xs,g=>by
  simp only[List.map_cons,thawT,p9,Iw xs]
theorem KT (r:V):thaw [] r.ow=((thaw [] r).1,(thaw [] r).2.map AObj.ow):=by
 cases r with
 |one l=>
  have e:=p9 [l] []
  obtain⟨l',h',e'⟩:=hX [] l
  simp only[List.map_nil,List.map_cons,e']at e
  simp only[V.ow,thaw,e,e']
 |agg ls=>
  have e:=p9 ls []
  simp only[List.map_nil]at e
  simp only[V.ow,thaw,e]
 |tup xs=>
  have e:=Iw xs []
  simp only[List.map_nil]at e
  simp only[V.ow,thaw,e]
theorem L.clean_ow {l:L}(h:l.clean=true):l.ow.clean=true:=by cases l<;>first|exact h|rfl
theorem Ls.clean_ow {ls:List L}(h:ls.all L.clean=true):(ls.map L.ow).all L.clean=true:=by
 rw[List.all_eq_true]at h⊢
 intro x hx
 obtain⟨y,hy,rfl⟩:=List.mem_map.1 hx
 exact L.clean_ow (h y hy)
theorem V.clean_ow {r:V}(h:r.clean=true):r.ow.clean=true:=by
 cases r with
 |one l=>exact L.clean_ow h
 |agg ls=>exact Ls.clean_ow h
 |tup xs=>
  simp only[V.ow,V.clean,List.all_eq_true]at h⊢
  intro x hx
  obtain⟨y,hy,rfl⟩:=List.mem_map.1 hx
  have:=Ls.clean_ow (List.all_eq_true.2 (h y hy))
  exact List.all_eq_true.1 this
theorem zo {h:List AObj}{o:Nat}{ob:AObj}(e:(h.map AObj.ow)[o]? =some ob):∃ob',h[o]? =some ob'∧ob'.ow=ob:=by
 rw[List.getElem?_map]at e
 cases q:h[o]? with
 |none=>rw[q]at e;cases e
 |some x=>rw[q]at e;exact⟨x,rfl,by simpa using e⟩
theorem CI (ob:AObj):ob.ow.mut=ob.mut:=by cases ob<;>rfl
theorem O3 {M:Nat→Prop}{ρ:List (Option Nat)}{h:List AObj}:Mu M ρ (h.map AObj.ow)=Mu M ρ h:=by
 funext b
 apply propext
 unfold Mu
 constructor
 ·rintro(q|⟨o,ob,e,m,r⟩)
  ·exact .inl q
  ·obtain⟨ob',e',rfl⟩:=zo e
   exact .inr ⟨o,ob',e',by rwa[CI]at m,r⟩
 ·rintro(q|⟨o,ob,e,m,r⟩)
  ·exact .inl q
  ·exact .inr ⟨o,ob.ow,by rw[List.getElem?_map,e];rfl,by rw[CI];exact m,r⟩
theorem MN {M:Nat→Prop}{ρ:List (Option Nat)}{h:List AObj}{l:L}{v:Value}(r:LR M w ρ h l v):LR M w ρ (h.map AObj.ow) l v:=by
 cases l with
 |ptr o i j=>
  obtain⟨r,ob,e1,e2,e3⟩:=r
  exact⟨r,ob.ow,e1,by rw[List.getElem?_map,e2];rfl,by cases ob<;>exact e3⟩
 |arr o=>
  obtain⟨r,ob,e1,e2,e3⟩:=r
  exact⟨r,ob.ow,e1,by rw[List.getElem?_map,e2];rfl,by cases ob<;>exact e3⟩
 |mp o=>
  obtain⟨b,kvs,e1,e2,e3⟩:=r
  exact⟨b,kvs,e1,by rw[List.getElem?_map,e2];rfl,e3⟩
 |tp n=>
  obtain⟨o,b,e1,e2,e3⟩:=r
  exact⟨o,b,e1,by rw[List.getElem?_map,e2];rfl,e3⟩
 |sub o c=>
  obtain⟨q,b,z,es,e1,e2,e3⟩:=r
  exact⟨q,b,z,es,e1,by rw[List.getElem?_map,e2];rfl,e3⟩
 |_=>exact r
theorem IV {M:Nat→Prop}{ρ:List (Option Nat)}{h:List AObj}{ls:List L}{vs:List Value}(r:pG M w ρ h ls vs):pG M w ρ (h.map AObj.ow) ls vs:=⟨r.1,fun i l v a b=>MN (r.2 i l v a b)⟩
theorem P1 {M:Nat→Prop}{ρ:List (Option Nat)}{h:List AObj}{x:V}{v:Value}(r:VR M w ρ h x v):VR M w ρ (h.map AObj.ow) x v:=by
 cases x with
 |one l=>exact MN r
 |agg ls=>
  obtain⟨cs,e,r⟩:=r
  exact⟨cs,e,IV r⟩
 |tup xs=>
  obtain⟨vs,e,hl,r⟩:=r
  refine⟨vs,e,hl,fun i x u a b=> ?_⟩
  have:=r i x u a b
  split at this
  ·obtain⟨cs,e,r⟩:=this
   exact⟨cs,e,IV r⟩
  ·exact MN this
  ·exact this.elim
theorem PY {ρ:List (Option Nat)}{h:List AObj}(k:HR M0 base w ρ h):HR M0 base w ρ (h.map AObj.ow):=by
 obtain⟨⟨k1,k2,k3,k4,k5⟩,κ,⟨d1,d2⟩,z1,z2⟩:=k
 refine⟨⟨by rw[List.length_map];exact k1,fun b hb=>⟨(k2 b hb).1,fun o ob e m=> ?_⟩,k3,fun o ob r e hr=> ?_,fun o o' ob ob' b e e' m m'=> ?_⟩,κ,⟨fun o ob b e m=> ?_,fun o ob z es b e hd=> ?_⟩,z1,fun b o c τ z es hk e=> ?_⟩
 ·obtain⟨ob',e',rfl⟩:=zo e
  rw[CI]at m
  exact(k2 b hb).2 o ob' e' m
 ·obtain⟨ob',e',rfl⟩:=zo e
  have:=k4 o ob' r e' hr
  rw[O3]
  cases ob' with
  |box cs=>
   obtain⟨b,cur,h1,h2,h3,h4⟩:=this
   exact⟨b,cur,h1,h2,h3,IV h4⟩
  |_=>exact this
 ·obtain⟨q,f,rfl⟩:=zo e
  obtain⟨q',f',rfl⟩:=zo e'
  rw[CI]at m m'
  exact k5 o o' q q' b f f' m m'
 ·obtain⟨q,f,rfl⟩:=zo e
  rw[CI]at m
  exact d1 o q b f m
 ·obtain⟨q,f,rfl⟩:=zo e
  cases q with
  |zarr z' es'=>exact d2 o _ z es b f hd
  |_=>cases hd
 ·obtain⟨q,f,hq⟩:=zo e
  cases q with
  |zarr z' es'=>cases hq;exact z2 b o c τ z es hk f
  |_=>cases hq
theorem tK.ow {r:V}{v:Value}(h:tK M0 base w r v):tK M0 base w r.ow v:=by
 obtain⟨ρ',h1,h2⟩:=h
 refine⟨ρ',?_,?_⟩
 ·rw[KT];exact PY h1
 ·rw[KT,O3];exact P1 h2
theorem CN {h:List AObj}{w':World}{r:V}{v:Value}(k:HR M0 base w ρ h)(hb:Below w.heap.size w w')(hc:r.clean=true)(rr:tK (Mu M0 ρ h) w.heap.size w' r v):
 ∃ρ',HR M0 base w' ρ' (thaw h r).2∧Ch (Mu M0 ρ h) (Mu M0 ρ' (thaw h r).2) w w' ρ ρ' h (thaw h r).2∧VR (Mu M0 ρ' (thaw h r).2) w' ρ' (thaw h r).2 (thaw h r).1 v:=by
 obtain⟨ρr,kr,vr⟩:=rr
 obtain⟨g1,g2,g3⟩:=k.join hb kr (Iy r)
 rw[Do r h hc]
 exact⟨ρ++ρr,g1,g2,vr.shift k.len g3 (Mv r hc)⟩
end
end Gi
