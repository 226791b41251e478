/- Of this proof. -/
import Derived.Test.YtebnmoogdmpepaaGreatGiob
set_option linter.unusedSimpArgs false
set_option linter.unusedVariables false
namespace Gi
open Go Go.RowKit
variable {KI:KF}
def V.allL (f:L→Bool):V→Bool
 | .one l=>f l
 | .agg ls=>ls.all f
 | .tup xs=>xs.all fun x=>x.2.all f
def V.mapL (g:L→L):V→V
 | .one l=> .one (g l)
 | .agg ls=> .agg (ls.map g)
 | .tup xs=> .tup (xs.map fun x=>(x.1,x.2.map g))
theorem Ng (n:Nat)(v:V):Br n v=v.mapL (nO n):=by cases v<;>rfl
def L.cl :L→Bool
 | .pv p=>p.bare
 | .nil=>true
 | .arr _=>true
 |_=>false
def AObj.cl :AObj→Bool
 | .arr _ es=>eS es
 | .darr _ _=>true
 |_=>false
theorem qq :∀(ls:List L)(g:List AObj),ls.all L.closed=true→g.all AObj.cl=true→(thawL g ls).1.all L.cl=true∧(thawL g ls).2.all AObj.cl=true
 |[],g,_,hg=>⟨rfl,hg⟩
 |l::ls,g,h,hg=>by
  simp only[Zq,Zm]at h
  cases l with
  |own z es=>
   obtain⟨i1,i2⟩:=qq ls (g++[.arr z es]) h.2 (by
    have:eS es=true:=h.1
    simp only[List.all_append,hg,Zq,List.all_nil,AObj.cl,this,Yr])
   exact⟨by simp only[thawL,Zq,L.cl,i1,Yr],i2⟩
  |down z es=>
   obtain⟨i1,i2⟩:=qq ls (g++[.darr z es]) h.2 (by simp only[List.all_append,hg,Zq,List.all_nil,AObj.cl,Yr])
   exact⟨by simp only[thawL,Zq,L.cl,i1,Yr],i2⟩
  |pv p=>
   obtain⟨i1,i2⟩:=qq ls g h.2 hg
   have:p.bare=true:=h.1
   exact⟨by simp only[thawL,Zq,L.cl,i1,this,Yr],i2⟩
  |nil=>
   obtain⟨i1,i2⟩:=qq ls g h.2 hg
   exact⟨by simp only[thawL,Zq,L.cl,i1,Yr],i2⟩
  |_=>simp[L.closed]at h
theorem LS :∀(xs:List (Bool×List L))(g:List AObj),(xs.all fun x=>x.2.all L.closed)=true→g.all AObj.cl=true→((thawT g xs).1.all fun x=>x.2.all L.cl)=true∧(thawT g xs).2.all AObj.cl=true
 |[],g,_,hg=>⟨rfl,hg⟩
 |(b,ls)::xs,g,h,hg=>by
  simp only[Zq,Zm]at h
  obtain⟨i1,i2⟩:=qq ls g h.1 hg
  obtain⟨j1,j2⟩:=LS xs (thawL g ls).2 h.2 i2
  exact⟨by simp only[thawT,Zq,i1,j1,Yr],j2⟩
theorem OH (r:V)(h:r.closed=true):(thaw [] r).1.allL L.cl=true∧(thaw [] r).2.all AObj.cl=true:=by
 cases r with
 |one l=>
  obtain⟨l',h',e'⟩:=iS [] l
  have:=qq [l] [] (by simpa[V.closed]using h) rfl
  rw[e']at this
  simp only[thaw,e']
  exact⟨by simpa[V.allL]using this.1,this.2⟩
 |agg ls=>exact qq ls [] (by simpa[V.closed]using h) rfl
 |tup xs=>exact LS xs [] (by simpa[V.closed]using h) rfl
section
variable {Γ:Ctx}{P:Program}{M0:Nat→Prop}{base:Nat}{σ:St}{a:Act}{w:World}{ρ:List (Option Nat)}{h:List AObj}
theorem VR.mapL {M M':Nat→Prop}{w':World}{ρ':List (Option Nat)}{h':List AObj}{f:L→Bool}{g:L→L}(hl:∀l u,f l=true→LR M w ρ h l u→LR M' w' ρ' h' (g l) u){v:V}{u:Value}(hv:v.allL f=true)(r:VR M w ρ h v u):VR M' w' ρ' h' (v.mapL g) u:=by
 have rows:∀{ls:List L}{us:List Value},ls.all f=true→ru M w ρ h ls us→ru M' w' ρ' h' (ls.map g) us:=fun{ls us}ha hr=>
  ⟨by rw[Zs];exact hr.1,fun i l u hi hu=>by
   simp only[Zp,Zj]at hi
   obtain⟨l0,h0,rfl⟩:=hi
   exact hl l0 u ((Zw.1 ha) l0 (Zk h0)) (hr.2 i l0 u h0 hu)⟩
 cases v with
 |one l=>exact hl l u hv r
 |agg ls=>obtain⟨cs,rfl,hr⟩:=r;exact⟨cs,rfl,rows hv hr⟩
 |tup xs=>
  obtain⟨vs,rfl,h1,h2⟩:=r
  refine⟨vs,rfl,by rw[Zs];exact h1,fun i x u hx hu=> ?_⟩
  simp only[Zp,Zj]at hx
  obtain⟨x0,h0,rfl⟩:=hx
  have hth:=(Zw.1 hv) x0 (Zk h0)
  have:=h2 i x0 u h0 hu
  obtain⟨b,ls⟩:=x0
  cases b with
  |true=>obtain⟨cs,rfl,hr⟩:=this;exact⟨cs,rfl,rows hth hr⟩
  |false=>
   match ls,this,hth with
   |[l],this,hth=>exact hl l u (by simpa using hth) this
theorem DR {M M':Nat→Prop}{p:PV}{v:Value}(hb:p.bare=true)(r:ap M w p v):ap M' w p v:=by
 cases p with
 |lst es=>
  cases es with
  |cons e es=>simp[PV.bare]at hb
  |nil=>
   simp only[ap]at r⊢
   rcases r with r|⟨b,o,c,z,rfl,_⟩
   ·exact .inl r
   ·exact .inl ⟨by trivial,_,_,rfl⟩
 |_=>simpa only[ap]using r
theorem Kh {b0:Nat}{w':World}{ρr:List (Option Nat)}{hr:List AObj}{κ:Nat→List Nat}(kr:HR0 (fun _=>False) b0 w' ρr hr)(d:Deep κ b0 w' ρr hr){i z b:Nat}{es:List (List PV)}{ob:AObj}(hi:hr[i]? =some ob)(hD:ob.isArrD z es)(hc:ob.cl=true)(hri:ρr[i]? =some (some b)):qA κ b0 w' z es [i] b:=by
 rcases hD with rfl|rfl
 ·intro i1 e j p he hp
  obtain⟨_,_,_,cur,cap,hrow,_,_,_,h4⟩:=kr.objs i _ _ hi hri
  obtain⟨v,hv,hrd⟩:=h4 i1 e j p he hp
  exact⟨v,by rw[hrow.cell];exact hv,zT (BG hc he hp) hrd⟩
 ·exact d.tree i _ z es b hi rfl hri
theorem Ms {ob:AObj}(hc:ob.cl=true):∃z es,ob.isArrD z es:=by
 cases ob<;>first|(cases hc;done)|exact⟨_,_, .inl rfl⟩|exact⟨_,_, .inr rfl⟩
theorem DW {ob:AObj}(hc:ob.cl=true):ob.mut=true:=by cases ob<;>first|rfl|cases hc
theorem vD.weaken {M:Nat→Prop}{b0:Nat}{w':World}{r:V}{v:Value}(hc:r.closed=true)(hM:∀b,M b→b<b0)(rr:vD (fun _=>False) b0 w' r v):vD M b0 w' r v:=by
 obtain⟨ρr,kr,vr⟩:=rr
 obtain⟨c1,c2⟩:=OH r hc
 obtain⟨κ,d,n⟩:=kr.deep
 have nomu:∀{i x b:Nat}{τ:List Nat},κ b=i::x::τ→b0≤b→¬Mu M ρr (thaw [] r).2 b:=fun{i x b τ}e hb hm=>by
  rcases hm with hm|⟨j,y,hy,hmy,hrj⟩
  ·have:=hM b hm;omega
  ·rw[d.root j y b hy hmy hrj]at e;cases e
 refine⟨ρr,⟨⟨kr.len,fun b hm=>⟨Z3 (hM b hm) kr.le,fun i x hi hx hri=> ?_⟩,kr.le,fun i x q hi hri=> ?_,kr.apart⟩,κ,d,n.new,fun b o c τ z es e ho=> ?_⟩,?_⟩
 ·have:=(kr.objs i x _ hi hri).base hx
  have:=hM b hm
  omega
 ·have hcx:=(Zw.1 c2) x (Zk hi)
  obtain⟨z,es,hD⟩:=Ms hcx
  have kx:=kr.objs i x q hi hri
  have main:wu (Mu (fun _=>False) ρr (thaw [] r).2) b0 w' ρr (thaw [] r).2 q (.arr z es)→wu (Mu M ρr (thaw [] r).2) b0 w' ρr (thaw [] r).2 q (.arr z es):=by
   intro kx
   obtain⟨hz,hes,kx⟩:=kx
   refine⟨hz,hes,?_⟩
   cases q with
   |none=>exact kx
   |some b=>
    obtain⟨g0,cur,cap,g1,g2,g3,g4,_⟩:=kx
    refine⟨g0,cur,cap,g1,g2,g3,g4,fun i1 e j p he hp=> ?_⟩
    obtain⟨v1,hv1,ht⟩:=Kh kr.toHR0 d hi hD hcx hri i1 e j p he hp
    exact⟨v1,by rw[←g1.cell];exact hv1,eE.reads p _ v1 (fun b' τ hb' e'=>nomu (show κ b'=i::(i1*z+j)::τ from e') hb') ht⟩
  rcases hD with rfl|rfl<;>exact main kx
 ·have:=(Zw.1 c2) _ (Zk ho)
  cases this
 ·have:=VR.mapL (g:=id) (M':=Mu M ρr (thaw [] r).2) (w':=w') (ρ':=ρr) (h':=(thaw [] r).2) (fun l u hl hr=>by
   cases l with
   |pv p=>exact DR hl hr
   |nil=>exact hr
   |arr o=>exact hr
   |_=>cases hl) c1 vr
  have e:∀v:V,v.mapL id=v:=fun v=>by
   cases v with
   |one l=>rfl
   |agg ls=>simp[V.mapL]
   |tup xs=>simp[V.mapL]
  rwa[e]at this
theorem P8 (k:HR M0 base w ρ h){w':World}{r:V}{v:Value}(hb:Below w.heap.size w w')(hcl:r.clean=true)(hc:r.closed=true)(rr:vD (fun _=>False) w.heap.size w' r v):
 ∃M0' ρ',(∀b,M0 b→M0' b)∧HR M0' base w' ρ' (m8 h r).2∧Ch (Mu M0 ρ h) (Mu M0' ρ' (m8 h r).2) w w' ρ ρ' h (m8 h r).2∧VR (Mu M0' ρ' (m8 h r).2) w' ρ' (m8 h r).2 (m8 h r).1 v:=by
 obtain⟨ρr,kr,vr⟩:=rr
 obtain⟨c1,c2⟩:=OH r hc
 obtain⟨κ,d,n⟩:=k.deep
 obtain⟨κr,dr,nr⟩:=kr.deep
 have hv:(thaw h r).1=(thaw [] r).1.mapL (nO h.length):=by rw[Gf r h hcl,Ng]
 simp only[m8,hv]
 generalize (thaw [] r).2=hr at*
 generalize (thaw [] r).1=vv at*
 have hrl:ρr.length=hr.length:=kr.len
 have left:∀{i:Nat}{x:AObj},i<h.length→(h++hr.map AObj.zone)[i]? =some x→h[i]? =some x:=fun hi e=>by rwa[Ze hi]at e
 have leftr:∀{i:Nat}{x:Option Nat},i<h.length→(ρ++ρr)[i]? =some x→ρ[i]? =some x:=fun hi e=>by rwa[Ze (by rw[k.len];exact hi)]at e
 have right:∀{i:Nat}{x:AObj},¬i<h.length→(h++hr.map AObj.zone)[i]? =some x→∃y z es,hr[i-h.length]? =some y∧y.isArrD z es∧y.cl=true∧x= .zarr z es:=fun{i x}hi e=>by
  rw[Zh (by omega)]at e
  simp only[Zp,Zj]at e
  obtain⟨y,hy,rfl⟩:=e
  have hcy:=(Zw.1 c2) y (Zk hy)
  obtain⟨z,es,hD⟩:=Ms hcy
  refine⟨y,z,es,hy,hD,hcy,?_⟩
  rcases hD with rfl|rfl<;>rfl
 have rightr:∀{i:Nat}{x:Option Nat},¬i<h.length→(ρ++ρr)[i]? =some x→ρr[i-h.length]? =some x:=fun hi e=>by rwa[Zh (by rw[k.len];omega),k.len]at e
 have rbase:∀{i b:Nat}{y:AObj},hr[i]? =some y→y.cl=true→ρr[i]? =some (some b)→w.heap.size≤b:=fun{i b y}hy hcy hri=>(kr.objs i y _ hy hri).base (DW hcy)
 let M1:Nat→Prop:=fun b=>M0 b∨(w.heap.size≤b∧b<w'.heap.size∧∀i:Nat,ρr[i]? ≠some (some b))
 have cls:∀b,b<w.heap.size→Mu M1 (ρ++ρr) (h++hr.map AObj.zone) b→Mu M0 ρ h b:=fun b hlt hm=>by
  rcases hm with(hm|⟨hm,_⟩)|⟨i,x,hi,hx,hri⟩
  ·exact .inl hm
  ·omega
  ·by_cases hl:i<h.length
   ·exact .inr ⟨i,x,left hl hi,hx,leftr hl hri⟩
   ·obtain⟨y,z,es,hy,_,hcy,_⟩:=right hl hi
    have:=rbase hy hcy (rightr hl hri)
    omega
 have C:Ch (Mu M0 ρ h) (Mu M1 (ρ++ρr) (h++hr.map AObj.zone)) w w' ρ (ρ++ρr) h (h++hr.map AObj.zone):=by
  refine⟨⟨hb.size,fun b hlt hm=>cls b hlt hm,fun b hlt _=>hb.block b hlt⟩,fun b cur hrw=>⟨cur,by obtain⟨T,hr'⟩:=hrw;exact⟨T,by rw[hb.block b (gg.lt ⟨T,hr'⟩)];exact hr'⟩,rfl⟩,fun i q x h1 h2 _=> ?_,fun o b z es p v h1 h2 _ hv=>by unfold World.cell? at hv⊢;rw[hb.block b ((k.objs o _ _ h2 h1).lt (by simp))];exact hv⟩
  have hlt:i<h.length:=(Zb.1 h2).1
  exact⟨x,by rw[Ze (by rw[k.len];exact hlt)];exact h1,by rw[Ze hlt];exact h2,qQ.refl _⟩
 refine⟨M1,ρ++ρr,fun b hm=> .inl hm,⟨⟨by simp[k.len,hrl],fun b hm=>⟨?_,fun i x hi hx hri=> ?_⟩,Zc k.le hb.size,fun i x q hi hq=> ?_,fun i i' x x' b h1 h2 m1 m2 r1 r2=> ?_⟩,
  fun b=>if b<w.heap.size then(match κ b with
   |o::τ=>if o<h.length then o::τ else []
   |[]=>[])else match κr b with
   |o::τ=>(h.length+o)::τ
   |[]=>[],⟨fun i x b hi hx hri=> ?_,fun i x z es b hi hd hri=> ?_⟩,fun b hb'=> ?_,fun b o c τ z es e ho=> ?_⟩,C,?_⟩
 ·rcases hm with hm|⟨_,hm,_⟩
  ·exact Z3 (k.old b hm).1 hb.size
  ·exact hm
 ·by_cases hl:i<h.length
  ·rcases hm with hm|⟨hm,_,_⟩
   ·exact(k.old b hm).2 i x (left hl hi) hx (leftr hl hri)
   ·have:=(k.objs i x _ (left hl hi) (leftr hl hri)).lt (AObj.mut_live hx)
    omega
  ·rcases hm with hm|⟨_,_,hm⟩
   ·obtain⟨y,z,es,hy,_,hcy,_⟩:=right hl hi
    have:=rbase hy hcy (rightr hl hri)
    have:=(k.old b hm).1
    omega
   ·exact hm _ (rightr hl hri)
 ·by_cases hl:i<h.length
  ·have kx:=k.objs i x q (left hl hi) (leftr hl hq)
   exact kx.keep C (fun b e hd=>hb.block b (by subst e;exact kx.lt hd))
  ·obtain⟨y,z,es,hy,hD,hcy,rfl⟩:=right hl hi
   have kx:wu (Mu (fun _=>False) ρr hr) w.heap.size w' ρr hr q (.arr z es):=by
    have:=kr.objs _ y q hy (rightr hl hq)
    rcases hD with rfl|rfl<;>exact this
   obtain⟨hz,hes,kx⟩:=kx
   refine⟨hz,hes,?_⟩
   cases q with
   |none=>exact kx
   |some b=>
    obtain⟨g0,cur,cap,g1,g2,g3,g4,_⟩:=kx
    exact⟨Zc k.le g0,cur,cap,g1,g2,g3,g4⟩
 ·by_cases l1:i<h.length<;>by_cases l2:i'<h.length
  ·exact k.apart i i' x x' b (left l1 h1) (left l2 h2) m1 m2 (leftr l1 r1) (leftr l2 r2)
  ·have e1:=(k.objs i x _ (left l1 h1) (leftr l1 r1)).lt (AObj.mut_live m1)
   obtain⟨y,z,es,hy,_,hcy,_⟩:=right l2 h2
   have:=rbase hy hcy (rightr l2 r2)
   omega
  ·have e1:=(k.objs i' x' _ (left l2 h2) (leftr l2 r2)).lt (AObj.mut_live m2)
   obtain⟨y,z,es,hy,_,hcy,_⟩:=right l1 h1
   have:=rbase hy hcy (rightr l1 r1)
   omega
  ·obtain⟨y,z,es,hy,_,hcy,_⟩:=right l1 h1
   obtain⟨y',z',es',hy',_,hcy',_⟩:=right l2 h2
   have:=kr.apart _ _ y y' b hy hy' (DW hcy) (DW hcy') (rightr l1 r1) (rightr l2 r2)
   omega
 ·by_cases hl:i<h.length
  ·have hlt:=(k.objs i x _ (left hl hi) (leftr hl hri)).lt (AObj.mut_live hx)
   rw[if_pos hlt,d.root i x b (left hl hi) hx (leftr hl hri)]
   simp only[hl,if_true]
  ·obtain⟨y,z,es,hy,_,hcy,_⟩:=right hl hi
   have:=rbase hy hcy (rightr hl hri)
   rw[if_neg (by omega),dr.root _ y b hy (DW hcy) (rightr hl hri)]
   simp;omega
 ·by_cases hl:i<h.length
  ·have hlt:=(k.objs i x _ (left hl hi) (leftr hl hri)).lt (AObj.mut_live (AObj.deep_mut hd))
   exact(d.tree i x z es b (left hl hi) hd (leftr hl hri)).go (Zl _) (fun o _=>by unfold World.cell?;rw[hb.block b hlt]) ((k.objs i x _ (left hl hi) (leftr hl hri)).rows hd).2 (fun c b' τ hl' e=>⟨by rw[if_pos hl',e];simp only[Zf,Zi,hl,if_true],hb.block b' hl'⟩)
  ·obtain⟨y,z1,es1,hy,hD,hcy,rfl⟩:=right hl hi
   cases hd
   have e0:h.length+(i-h.length)=i:=by omega
   intro i1 e1 j1 p1 h1 h2
   obtain⟨v,hv,ht⟩:=Kh kr.toHR0 dr hy hD hcy (rightr hl hri) i1 e1 j1 p1 h1 h2
   exact⟨v,hv,eE.up k.le (fun b' hb'=>if_neg (by omega)) e0 p1 v ht⟩
 ·have:=hb.size
  rw[if_neg (by omega),nr.new b hb']
 ·by_cases hl:o<h.length
  ·split at e
   ·split at e
    ·rename_i o' τ' hk
     split at e
     ·cases e
      exact .inl (n.zone b o c τ z es hk (left hl ho))
     ·cases e
    ·cases e
   ·split at e
    ·cases e;omega
    ·cases e
  ·split at e
   ·split at e
    ·split at e
     ·cases e;omega
     ·cases e
    ·cases e
   ·rename_i hge
    split at e
    ·rename_i o' τ' hk
     cases e
     refine .inr ⟨by omega,?_,fun i hri=> ?_⟩
     ·by_cases hlt:b<w'.heap.size
      ·exact hlt
      ·rw[nr.new b (by omega)]at hk;cases hk
     ·have hi:i<hr.length:=by rw[←hrl];exact(Zb.1 hri).1
      have hy:hr[i]? =some hr[i]:=by simp[hi]
      have hcy:=(Zw.1 c2) _ (Zg hi)
      rw[dr.root i _ b hy (DW hcy) hri]at hk
      cases hk
    ·cases e
 ·refine VR.mapL (fun l u hl hr'=> ?_) c1 vr
  cases l with
  |pv p=>exact DR hl hr'
  |nil=>exact hr'
  |arr o=>
   obtain⟨q,y,h1,h2,h3⟩:=hr'
   refine⟨q,y.zone,?_,?_,?_⟩
   ·rw[Zh (by rw[k.len];omega),k.len];simpa using h1
   ·rw[Zh (by omega)];simp[h2]
   ·have hcy:=(Zw.1 c2) y (Zk h2)
    obtain⟨z,es,hD⟩:=Ms hcy
    rcases hD with rfl|rfl<;>exact h3
  |_=>cases hl
end
end Gi
