/- Of this proof. -/
import Derived.Test.YtebnmoogdmpepaaGreatGile
set_option linter.unusedSimpArgs false
set_option linter.unusedVariables false
namespace Gi
open Go Go.RowKit
variable {KI:KF}
section
variable {Γ:Ctx}{P:Program}{M0:Nat→Prop}{base:Nat}{σ:St}{a:Act}{w:World}{ρ:List (Option Nat)}
def OX (xo yo:Option Nat)(N m:Nat):List Nat→List Nat
 |[]=>[]
 |x::τ=>if xo=some x then N::τ else if yo=some x then(match τ with
  |[]=>[]
  |c::τ'=>N::(m+c)::τ')else x::τ
theorem H5 {h:List AObj}{z:Nat}{x:V}{src:Option (Nat×List (List PV))}(h0:fD h z x=some src):(x= .one .nil∧src=none)∨∃o es,x= .one (.arr o)∧src=some (o,es)∧aX h o=some (z,es):=by
 unfold fD at h0
 split at h0
 ·cases h0;exact .inl ⟨rfl,rfl⟩
 ·rename_i o
  split at h0
  ·rename_i z' es hd
   split at h0
   ·rename_i e;subst e;cases h0
    exact .inr ⟨o,es,rfl,rfl,hd⟩
   ·cases h0
  ·cases h0
 ·cases h0
theorem So {h:List AObj}{z:Nat}{src:Option (Nat×List (List PV))}{y:V}{ys:List (List PV)}(h0:m9 h z src y=some ys):
 (∃o,y= .one (.arr o)∧aX h o=some (z,ys)∧ct src o=true)∨(y= .one (.pv (.lst ys))∧mL ys=true)∨(y= .one .nil∧ys=[]):=by
 unfold m9 at h0
 split at h0
 ·rename_i o
  split at h0
  ·rename_i z' ys' hd
   split at h0
   ·rename_i e;obtain⟨rfl,e⟩:=e;cases h0
    exact .inl ⟨o,rfl,hd,e⟩
   ·cases h0
  ·cases h0
 ·split at h0
  ·rename_i hf;cases h0;exact .inr (.inl ⟨rfl,hf⟩)
  ·cases h0
 ·cases h0;exact .inr (.inr ⟨rfl,rfl⟩)
 ·cases h0
theorem Km {h:List AObj}{o z:Nat}{es:List (List PV)}(hd:aX h o=some (z,es)):L.view h (.arr o)=some (.lst es):=by
 unfold aX at hd
 split at hd
 ·rename_i ho
  split at hd
  ·cases hd;simp[L.view,ho]
  ·cases hd
 ·rename_i ho;cases hd;simp[L.view,ho]
 ·cases hd
theorem Mx {h:List AObj}{o z:Nat}{es:List (List PV)}(hd:aX h o=some (z,es)):L.mov h (.arr o)=true:=by
 unfold aX at hd
 split at hd
 ·rename_i ho
  split at hd
  ·rename_i hb;cases hd;simp[L.mov,ho,hb]
  ·cases hd
 ·rename_i ho;cases hd;simp[L.mov,ho]
 ·cases hd
theorem HR.deepen {h:List AObj}{z:Nat}{es:List (List PV)}{κ:Nat→List Nat}(k:HR M0 base w ρ (h++[.arr z es]))(d:Deep κ base w ρ (h++[.darr z es])∧Zon κ M0 w (h++[.darr z es])):
 HR M0 base w ρ (h++[.darr z es])∧Ch (Mu M0 ρ (h++[.arr z es])) (Mu M0 ρ (h++[.darr z es])) w w ρ ρ (h++[.arr z es]) (h++[.darr z es]):=by
 have ho:(h++[AObj.arr z es])[h.length]? =some (.arr z es):=by simp
 obtain⟨r,hr⟩:=k.mem ho
 have hset:(h++[AObj.arr z es]).set h.length (.darr z es)=h++[.darr z es]:=by simp
 obtain⟨g1,g2⟩:=k.toHR0.upd (w':=w) (ob':= .darr z es) ho hr rfl ⟨rfl,rfl⟩ rfl (fun _ _=>rfl) (fun b cur _ hr=>⟨cur,hr,rfl⟩) (fun c=>by
  obtain⟨hz,hes,kx⟩:=k.objs _ _ r ho hr
  refine⟨hz,hes,?_⟩
  cases r with
  |none=>exact kx
  |some b=>
   obtain⟨hbase,cur,cap,g1,g2,g3,g4,g5⟩:=kx
   exact⟨hbase,cur,cap,g1,g2,g3,g4,fun i e j p he hp=>by
    obtain⟨v,hv,hrd⟩:=g5 i e j p he hp
    exact⟨v,hv,ap.go c.go p v hrd⟩⟩)
 rw[hset]at g1 g2
 exact⟨⟨g1,κ,d⟩,g2⟩
theorem Deep.append {κ:Nat→List Nat}{h h1:List AObj}(k:HR0 M0 base w ρ h)(k1:HR0 M0 base w ρ h1)(d:Deep κ base w ρ h){xo yo:Option Nat}{r0 r':Option Nat}{z:Nat}{es ys:List (List PV)}{news:List Value}{w':World}{N:Nat}
 (hlen:h1.length=N) (stay:∀(i:Nat)(x:AObj),(match xo with|some o=>h1.set o .dead|none=>h1)[i]? =some x→x.mut=true→h[i]? =some x∧h1[i]? =some x∧xo≠some i∧yo≠some i)
 (hx:∀o,xo=some o→ρ[o]? =some r0∧∃ob,h1[o]? =some ob∧ob.mut=true) (hx0:xo=none→r0=none) (hρ:ρ.length=N)
 (hz:0<z) (hes:∀e∈es,e.length=z) (hys:∀e∈ys,e.length=z)
 (hold:∀b,r0=some b→∃o,xo=some o∧κ b=[o]∧qA κ base w z es [o] b) (hn0:r0=none→es=[])
 (hnew:∀(i:Nat)(e:List PV)(j:Nat)(p:PV),ys[i]? =some e→e[j]? =some p→∃v,news[i*z+j]? =some v∧((∃o,yo=some o∧eE κ base w p ([o]++[i*z+j]) v)∨∀κ' π w',eE κ' base w' p π v))
 (hne:∀o,xo=some o→yo≠some o)
 (hb':∀b',r'=some b'→(r0=some b'∨w.heap.size≤b')∧(∀c,c<es.length*z→∀b0,r0=some b0→w'.cell? ⟨b',c,none⟩=w.cell? ⟨b0,c,none⟩)∧
  (∀(c:Nat)v,news[c]? =some v→w'.cell? ⟨b',es.length*z+c,none⟩=some v)) (hsame:∀b,b<w.heap.size→r0≠some b→w'.heap[b]? =w.heap[b]?) (nz:Zon κ M0 w h) (hsz:w.heap.size≤w'.heap.size) (hr':∀b,r'=some b→b<w'.heap.size):
 ∃κ',Deep κ' base w' (ρ++[r']) ((match xo with|some o=>h1.set o .dead|none=>h1)++[.darr z (es++ys)])∧Zon κ' M0 w' ((match xo with|some o=>h1.set o .dead|none=>h1)++[.darr z (es++ys)]):=by
 have hlen':(match xo with|some o=>h1.set o .dead|none=>h1).length=N:=by
  cases xo<;>simp[hlen]
 generalize hH:(match xo with|some o=>h1.set o .dead|none=>h1)=H at stay hlen'⊢
 have hkeep:∀{b:Nat}{i c:Nat}{τ:List Nat},b<w.heap.size→κ b=i::c::τ→r0≠some b∧r'≠some b:=by
  intro b i c τ hb e
  have h0:r0≠some b:=fun e0=>by
   obtain⟨o,_,e1,_⟩:=hold b e0
   rw[e]at e1;cases e1
  refine⟨h0,fun e0=> ?_⟩
  rcases(hb' b e0).1 with h1|h1
  ·exact h0 h1
  ·omega
 refine⟨fun b=>if r'=some b then [N]else OX xo yo N (es.length*z) (κ b),⟨fun i x b hi hm hri=> ?_,fun i x z1 es1 b hi hd hri=> ?_⟩,fun b hb=> ?_,fun b i c τ z1 es1 e hi=> ?_⟩
 ·by_cases hlt:i<N
  ·rw[Ze (by omega)]at hi
   rw[Ze (by omega)]at hri
   obtain⟨g1,g2,g3,g4⟩:=stay i x hi hm
   have hb:=(k.objs i x _ g1 hri).lt (AObj.mut_live hm)
   have hr:r'≠some b:=fun e=>by
    rcases(hb' b e).1 with h2|h2
    ·obtain⟨o,e1,_,_⟩:=hold b h2
     obtain⟨e3,ob,e4,e5⟩:=hx o e1
     have:=k1.apart i o x ob b g2 e4 hm e5 hri (by rw[e3,h2])
     subst this
     exact g3 e1
    ·omega
   rw[if_neg hr,d.root i x b g1 hm hri]
   simp only[OX,g3,g4,if_false]
  ·have h1:=(Zb.1 hi).1
   simp[hlen']at h1
   obtain rfl:i=N:=by omega
   rw[←hρ]at hri
   simp at hri
   exact if_pos hri
 ·by_cases hlt:i<N
  ·rw[Ze (by omega)]at hi
   rw[Ze (by omega)]at hri
   have hm:=AObj.deep_mut hd
   obtain⟨g1,g2,g3,g4⟩:=stay i x hi hm
   have hb:=(k.objs i x _ g1 hri).lt (AObj.mut_live hm)
   have hr0:r0≠some b:=fun h2=>by
    obtain⟨o,e1,_,_⟩:=hold b h2
    obtain⟨e3,ob,e4,e5⟩:=hx o e1
    have:=k1.apart i o x ob b g2 e4 hm e5 hri (by rw[e3,h2])
    subst this
    exact g3 e1
   exact(d.tree i x z1 es1 b g1 hd hri).go (Zl _) (fun o _=>by unfold World.cell?;rw[hsame b hb hr0]) ((k.objs i x _ g1 hri).rows hd).2 (fun c b2 τ hb2 e=>by
    obtain⟨q1,q2⟩:=hkeep hb2 e
    refine⟨?_,hsame b2 hb2 q1⟩
    rw[if_neg q2,e]
    simp only[Zf,Zi,OX,g3,g4,if_false])
  ·have h1:=(Zb.1 hi).1
   simp[hlen']at h1
   obtain rfl:i=N:=by omega
   rw[←hρ]at hri
   simp at hri
   have hi':x= .darr z (es++ys):=by
    have:(H++[AObj.darr z (es++ys)])[H.length]? =some (.darr z (es++ys)):=by simp
    rw[hlen',hi]at this
    cases this;rfl
   subst hi'
   cases hd
   obtain⟨c1,c2,c3⟩:=hb' b hri
   intro i1 e1 j1 p1 he1 hp1
   by_cases hi1:i1<es.length
   ·rw[Ze hi1]at he1
    have hj1:=(Zb.1 hp1).1
    rw[hes e1 (Zk he1)]at hj1
    have hc:i1*z+j1<es.length*z:=by
     calc i1*z+j1<i1*z+z:=by omega
      _=(i1+1)*z:=by rw[Z7,Yv]
      _≤es.length*z:=Zx _ hi1
    cases hr0:r0 with
    |none=>rw[hn0 hr0]at hi1;cases hi1
    |some b0=>
     obtain⟨o,ex,ek,hcs⟩:=hold b0 hr0
     obtain⟨v,hv,ht⟩:=hcs i1 e1 j1 p1 he1 hp1
     refine⟨v,(c2 _ hc b0 hr0).trans hv,eE.go (Zl _) p1 _ _ v (fun b2 τ hb2 e=> ?_) ht⟩
     obtain⟨q1,q2⟩:=hkeep hb2 e
     refine⟨?_,hsame b2 hb2 q1⟩
     rw[if_neg q2,e]
     simp only[Zf,Zi,OX,ex,if_true,hρ]
   ·rw[Zh (by omega)]at he1
    obtain⟨v,hv,hcase⟩:=hnew _ e1 j1 p1 he1 hp1
    have hpos:i1*z+j1=es.length*z+((i1-es.length)*z+j1):=by
     have:i1=es.length+(i1-es.length):=by omega
     rw[this,Z7];simp;omega
    refine⟨v,by rw[hpos];exact c3 _ v hv,?_⟩
    rcases hcase with⟨o,ey,ht⟩|ht
    ·refine eE.go (Zl _) p1 _ _ v (fun b2 τ hb2 e=> ?_) ht
     obtain⟨q1,q2⟩:=hkeep hb2 e
     refine⟨?_,hsame b2 hb2 q1⟩
     have hxo:xo≠some o:=fun ex=>hne o ex ey
     rw[if_neg q2,e]
     simp only[Zf,Zi,OX,hxo,ey,if_false,if_true,hρ,hpos]
    ·exact ht _ _ _
 ·rw[if_neg fun e=>by have:=hr' b e;omega,nz.new b (by omega)]
  rfl
 ·split at e
  ·cases e
  ·have hlt:i<N:=by
    have h1:=(Zb.1 hi).1
    simp[hlen']at h1
    by_cases hN:i=N
    ·subst hN
     rw[←hlen']at hi
     simp at hi
    ·omega
   rw[Ze (by omega)]at hi
   obtain⟨g1,g2,g3,g4⟩:=stay i _ hi rfl
   cases hk:κ b with
   |nil=>rw[hk]at e;cases e
   |cons x τ0=>
    rw[hk]at e
    simp only[OX]at e
    split at e
    ·cases e;omega
    ·split at e
     ·cases τ0 with
      |nil=>cases e
      |cons c0 τ1=>cases e;omega
     ·cases e
      exact nz.zone b i c τ z1 es1 hk g1
theorem HM {M:Nat→Prop}{w':World}{κ:Nat→List Nat}{lo:Nat}{π:List Nat}{p:PV}{v:Value}(hb:p.flat=true)(r:ap M w p v):eE κ lo w' p π v:=by
 cases p with
 |lst es=>cases hb
 |_=>simpa only[eE,ap]using r
theorem KR {es:List (List PV)}(h:mL es=true){i j:Nat}{e:List PV}{p:PV}(he:es[i]? =some e)(hp:e[j]? =some p):p.flat=true:=by
 simp only[mL,Zw]at h
 exact h e (Zk he) p (Zk hp)
theorem HR.flatten {h:List AObj}(k:HR M0 base w ρ h){o z:Nat}{es:List (List PV)}(ho:h[o]? =some (.darr z es)):
 HR M0 base w ρ (h.set o (.arr z es))∧Ch (Mu M0 ρ h) (Mu M0 ρ (h.set o (.arr z es))) w w ρ ρ h (h.set o (.arr z es)):=by
 obtain⟨r,hr⟩:=k.mem ho
 exact k.upd (ob':= .arr z es) ho hr rfl ⟨rfl,rfl⟩ rfl (fun _ _=>rfl) (fun b cur _ hr=>⟨cur,hr,rfl⟩) (fun c=>by
  obtain⟨hz,hes,kx⟩:=k.objs _ _ r ho hr
  refine⟨hz,hes,?_⟩
  cases r with
  |none=>exact kx
  |some b=>
   obtain⟨hbase,cur,cap,g1,g2,g3,g4,g5⟩:=kx
   exact⟨hbase,cur,cap,g1,g2,g3,g4,fun i e j p he hp=>by
    obtain⟨v,hv,hrd⟩:=g5 i e j p he hp
    exact⟨v,hv,ap.go c.go p v hrd⟩⟩)
theorem HR.asArr {h:List AObj}(k:HR M0 base w ρ h){o z:Nat}{es:List (List PV)}{ob:AObj}(ho:h[o]? =some ob)(hd:ob.isArrD z es):
 ∃h2,h2[o]? =some (.arr z es)∧h2.length=h.length∧(∀x,h2.set o x=h.set o x)∧HR M0 base w ρ h2∧Ch (Mu M0 ρ h) (Mu M0 ρ h2) w w ρ ρ h h2:=by
 rcases hd with rfl|rfl
 ·exact⟨h,ho,rfl,fun _=>rfl,k,Ch.refl _ _ _ _⟩
 ·obtain⟨g1,g2⟩:=k.flatten ho
  exact⟨_,Zd (Zb.1 ho).1,by simp,fun x=>by simp,g1,g2⟩
theorem Io (s:SR Γ M0 base σ a w ρ){o:Oper}{t e:TypeId}{i:TypeInfo}{v0:Value}{ox oy:Operand}{x y:Opd}(hu:P.underlying t=some (.slice e))(hi:P.info? e=some i)(hz':i.zero=some v0)(hv0:v0.cells.size=i.size)
 (aq:∀{r:Value}{w':World},(Builtin.append_ #[t,t] o.type #[a.eval ox,a.eval oy]).run P w= .ok r w'→(execOp a.eval o).run P w= .ok (.value r) w') (hx:gl ox=some x) (hy:gl oy=some y)
 {sc:Option (Nat×List (List PV))} {ys:List (List PV)} (hsrc:fD σ.h i.size (x.ev σ)=some sc) (hys:m9 σ.h i.size sc (y.ev σ)=some ys) (hyz:∀e∈ys,e.length=i.size) (hz0:0<i.size)
 (hbytes:((br sc).length+ys.length)*i.bytes≤140737488355328) (h63:(br sc).length+ys.length≤9223372036854775807):
 jC P M0 base σ w ρ (.one (.arr σ.h.length)) (bd sc (freezeLs σ.h (y.ev σ).cells)++[.darr i.size (br sc++ys)]) (execOp a.eval o):=by
 obtain⟨κ,d,nz⟩:=s.hr.deep
 obtain⟨k1,c1⟩:=s.hr.freezeLs (y.ev σ).cells
 have s1:SR Γ M0 base ⟨σ.t,freezeLs σ.h (y.ev σ).cells⟩ a w ρ:=⟨k1,s.fr.ch c1,s.inv,s.b0⟩
 have ry:=(aw s hy).ch c1
 have rx:=(aw s hx).ch c1
 obtain⟨yo,y1,y2,y3,y4⟩:∃yo:Option Nat,asList σ.h (y.ev σ)=some ys∧(∀o,yo=some o→y.ev σ= .one (.arr o)∧aX σ.h o=some (i.size,ys)∧ct sc o=true)∧(yo=none→mL ys=true)∧∀o,L.arr o∈(y.ev σ).cells→yo=some o:=by
  rcases So hys with⟨o,e1,e2,e3⟩|⟨e1,e2⟩|⟨e1,rfl⟩
  ·refine⟨some o,?_,fun o' e=> ?_,nofun,fun o' h=> ?_⟩
   ·rw[e1];simp only[asList,Km e2]
   ·cases e;exact⟨e1,e2,e3⟩
   ·rw[e1]at h;simp[V.cells]at h;rw[h]
  ·exact⟨none,by rw[e1];simp[asList,L.view],nofun,fun _=>e2,fun o' h=>by rw[e1]at h;simp[V.cells]at h⟩
  ·exact⟨none,by rw[e1];simp[asList,L.view],nofun,fun _=>rfl,fun o' h=>by rw[e1]at h;simp[V.cells]at h⟩
 have hys1:asList (freezeLs σ.h (y.ev σ).cells) (y.ev σ)=some ys:=by
  have e0:∀v:V,asList (freezeLs σ.h (y.ev σ).cells) v=asList σ.h v:=fun v=>by
   cases v with
   |one l=>simp only[asList,ii]
   |_=>rfl
  rw[e0];exact y1
 obtain⟨ad,cc,news,ey,hnl,hfirst,hones,hrows,hnews⟩:=src (P:=P) s1 ry hys1 hyz hz0
 have hlen:(freezeLs σ.h (y.ev σ).cells).length=σ.h.length:=mM _
 have hgone:∀(i:Nat)(x:AObj),(freezeLs σ.h (y.ev σ).cells)[i]? =some x→x.mut=true→σ.h[i]? =some x∧yo≠some i:=fun i x hx hm=>by
  refine⟨kd _ hx hm,fun e=> ?_⟩
  obtain⟨e1,e2,_⟩:=y2 i e
  refine v7 (fun o ho=> ?_) hx hm (pA.2 (by rw[e1];simp[V.cells]))
  obtain⟨_,e4,_⟩:=y2 o (y4 o ho)
  exact Mx e4
 have hnew:∀(i':Nat)(e:List PV)(j:Nat)(p:PV),ys[i']? =some e→e[j]? =some p→∃v,news[i'*i.size+j]? =some v∧((∃o,yo=some o∧eE κ base w p ([o]++[i'*i.size+j]) v)∨∀κ' π w',eE κ' base w' p π v):=by
  intro i' e j p he hp
  obtain⟨v,hv,hrd⟩:=hrows i' e j p he hp
  refine⟨v,hv,?_⟩
  cases hyo:yo with
  |none=>exact .inr fun κ' π w'=>HM (KR (y3 hyo) he hp) hrd
  |some o=>
   refine .inl ⟨o,rfl,?_⟩
   obtain⟨e1,e2,e3⟩:=y2 o hyo
   have ry0:=aw s hy
   rw[e1]at ry0
   obtain⟨r,ob,hr,hob,hs⟩:=ry0
   obtain⟨ob',hob',hD,_,k0,hc⟩:=jP s.hr.toHR0 d e2 hr
   rw[hob']at hob;cases hob
   have hs':km w (.arr i.size ys) r (a.eval oy):=by rcases hD with rfl|rfl<;>exact hs
   cases r with
   |none=>
    obtain⟨_,_,k0⟩:=k0
    obtain rfl:ys=[]:=k0
    simp at he
   |some b=>
    obtain⟨cur,cap,hrow,_,_,_,ev⟩:=hs'
    obtain⟨v',hv',ht⟩:=(hc b rfl).2 i' e j p he hp
    have:=hnews _ v hv b 0 cap ev
    rw[Yc,hv']at this
    cases this
    exact ht
 have hlast:∀{w':World}{r':Option Nat}{h0:List AObj}{es0:List (List PV)},HR M0 base w' (ρ++[r']) (h0++[.arr i.size es0])→∀b,r'=some b→b<w'.heap.size:=fun{w' r' h0 es0}k b e=>by
  have hl:ρ.length=h0.length:=by have:=k.len;simpa using this
  exact(k.objs h0.length (.arr i.size es0) (some b) (by simp) (by rw[←hl,←e];simp)).lt (by simp)
 have ht':P.underlying t=some .string∨∃e',P.underlying t=some (.slice e'):= .inr ⟨e,hu⟩
 have hlenOf:∀w,(Builtin.lenOf (a.eval oy)).run P w= .ok ys.length w:=by intro w;rw[ey];rfl
 rcases H5 hsrc with⟨ex,rfl⟩|⟨ob,es,ex,rfl,hdp⟩
 ·
  rw[ex]at rx
  obtain⟨n,u,w',ρ',g1,g2,g3,g4,g5,g6,r',rfl,g7,g8⟩:=append_nil s1 hu ht' hi hz' hv0 aq hlenOf hyz hz0 hnl hfirst hones hrows rx (by simpa[br]using hbytes) (by simpa[br]using h63)
  obtain⟨κ',d'⟩:=Deep.append (w':=w') (r':=r') s.hr.toHR0 k1.toHR0 d (xo:=none) (yo:=yo) (r0:=none) (es:=[]) hlen (fun i x hx hm=>⟨(hgone i x hx hm).1,hx,nofun,(hgone i x hx hm).2⟩) nofun (fun _=>rfl) s.hr.len hz0 (fun _ h=>by cases h) hyz nofun (fun _=>rfl) hnew nofun (fun b' e=>by simpa using g7 b' e) g8 nz g5.go.size (hlast g4)
  obtain⟨q1,q2⟩:=g4.deepen d'
  refine⟨n,u,w',_,g1,g2,g3,q1,c1.trans (g5.trans q2),?_⟩
  have:=g6.ch q2
  rw[show(St.mk σ.t (freezeLs σ.h (y.ev σ).cells)).h.length=σ.h.length from hlen]at this
  exact this
 ·rw[ex]at rx
  have hna:(y.ev σ).cells.all (L.notArr ob)=true:=by
   rw[Zw]
   intro l hl
   cases l with
   |arr o'=>
    obtain⟨_,_,e3⟩:=y2 o' (y4 o' hl)
    simp only[ct,Yk,beq_eq_false_iff_ne]at e3
    simp only[L.notArr,Yk,beq_eq_false_iff_ne]
    exact fun e=>e3 e.symm
   |_=>rfl
  obtain⟨r0,hr0⟩:∃r0,ρ[ob]? =some r0:=by
   obtain⟨r,ob',hr,_⟩:=rx
   exact⟨r,hr⟩
  obtain⟨obj,hobj,hD,hm,k0,hcell⟩:=jP s.hr.toHR0 d hdp hr0
  have hobj1:=p8 (y.ev σ).cells hna hobj
  obtain⟨h2,e1,e2,e3,k2,c2⟩:=k1.asArr hobj1 hD
  have s2:SR Γ M0 base ⟨σ.t,h2⟩ a w ρ:=⟨k2,s1.fr.ch c2,s.inv,s.b0⟩
  obtain⟨n,u,w',ρ',g1,g2,g3,g4,g5,g6,r1,hr1,r',rfl,g7,g8⟩:=wv s2 hu ht' hi hz' hv0 aq hlenOf hyz hz0 hnl hfirst hones (fun i' e j p he hp=>by
   obtain⟨v,hv,hrd⟩:=hrows i' e j p he hp
   exact⟨v,hv,ap.go c2.go p v hrd⟩) e1 (rx.ch c2) hbytes h63
  rw[hr0]at hr1;cases hr1
  rw[show(St.mk σ.t h2).h.set ob .dead=(freezeLs σ.h (y.ev σ).cells).set ob .dead from e3 _]at g4 g5 g6
  rw[show(St.mk σ.t h2).h.length=σ.h.length from e2.trans hlen]at g6
  obtain⟨κ',d'⟩:=Deep.append (w':=w') (r':=r') s.hr.toHR0 k1.toHR0 d (xo:=some ob) (yo:=yo) (r0:=r0) (es:=es) hlen (fun i x hx hm'=>by
   by_cases hi:ob=i
   ·subst hi
    rw[Zd (by have:=(Zb.1 hobj1).1;exact this)]at hx
    cases hx;cases hm'
   ·simp only[Za hi]at hx
    exact⟨(hgone i x hx hm').1,hx,fun e=>hi (by cases e;rfl),(hgone i x hx hm').2⟩) (fun o e=>by cases e;exact⟨hr0,obj,hobj1,hm⟩) nofun s.hr.len hz0 k0.2.1 hyz (fun b e=>⟨ob,rfl,hcell b e⟩) (fun e=>by subst e;exact k0.2.2) hnew (fun o e e'=>by
   cases e
   obtain⟨_,_,e3⟩:=y2 _ e'
   simp[ct]at e3) (fun b' e=>g7 b' e) g8 nz g5.go.size (hlast g4)
  obtain⟨q1,q2⟩:=g4.deepen d'
  exact⟨n,u,w',_,g1,g2,g3,q1,c1.trans (c2.trans (g5.trans q2)),g6.ch q2⟩
theorem Gs (s:SR Γ M0 base σ a w ρ){o:Oper}{dm:Md}{v:V}{h':List AObj}{call:Nat→List V→Option V}{c:Call}{z bytes:Nat}{x y:Opd}(hop:o.op= .call c)
 (hc:eV P kf dm o.op=some (.append z bytes x y)) (he:cf call σ (.appendD z bytes x y)=some (v,h')):jC P M0 base σ w ρ v h' (execOp a.eval o):=by
 rw[hop]at hc;simp only[eV]at hc
 split at hc
 ·split at hc
  ·(repeat' (split at hc))<;>cases hc
  ·cases hc
 ·(repeat' (split at hc))<;>cases hc
 ·split at hc
  ·(repeat' (split at hc))<;>cases hc
  ·cases hc
 ·rename_i hcal
  split at hc
  ·rename_i ox oy t u hargs htys
   split at hc
   ·rename_i e e' x0 y0 ht _ hx hy
    split at hc
    ·rename_i z0 b0 v0 hsz hby hz
     split at hc
     ·rename_i hcond
      obtain⟨hv0,rfl⟩:=hcond
      cases hc
      obtain⟨i,hi,hz',hs',hb'⟩:∃i,P.info? e=some i∧i.zero=some v0∧i.size=z∧i.bytes=bytes:=by
       unfold m4 at hz;unfold o7 at hsz;unfold NQ at hby
       cases hi:P.info? e with
       |none=>simp[hi]at hz
       |some i=>simp[hi]at hz hsz hby;exact⟨i,rfl,hz,hsz,hby⟩
      subst hs' hb'
      have hu:P.underlying t=some (.slice e):=by
       unfold gJ at ht
       split at ht<;>cases ht
       assumption
      have aq:∀{r:Value}{w':World},(Builtin.append_ #[t,t] o.type #[a.eval ox,a.eval oy]).run P w= .ok r w'→(execOp a.eval o).run P w= .ok (.value r) w':=by
       intro r w' hr
       have e2:c.args.map a.eval= #[a.eval ox,a.eval oy]:=Array.ext' (by rw[Yj,hargs];rfl)
       have e3:c.argTypes= #[t,t]:=Array.ext' htys
       simp only[execOp,hop,resolve,hcal,Sem.run_bind,Sem.run_pure,Result.andThen_ok,invoke,e3,e2,builtin,hr]
      simp only[cf]at he
      split at he
      ·cases he
      ·rename_i sc hsc
       split at he
       ·cases he
       ·rename_i ys hys
        split at he
        ·rename_i hchk
         obtain⟨hyz',hz0,hbytes,h63⟩:=hchk
         cases he
         exact Io s hu hi hz' hv0 aq hx hy hsc hys (by simpa using hyz') hz0 hbytes h63
        ·cases he
     ·cases hc
    ·cases hc
   ·(repeat' (split at hc))<;>cases hc
   ·cases hc
  ·cases hc
 ·split at hc
  ·(repeat' (split at hc))<;>cases hc
  ·cases hc
 ·split at hc
  ·(repeat' (split at hc))<;>cases hc
  ·cases hc
 ·cases hc
end
end Gi
namespace Gi
open Go Go.RowKit
variable {KI:KF}
theorem AObj.unz_mut (ob:AObj):ob.unz.mut=ob.mut:=by cases ob<;>rfl
theorem AObj.unz_deep (ob:AObj):ob.unz.deep=ob.deep:=by cases ob<;>rfl
theorem mP {h:List AObj}{i:Nat}{x:AObj}(e:(lent h)[i]? =some x):∃ob,h[i]? =some ob∧x=ob.unz:=by
 simp only[lent,Zp,Zj]at e
 obtain⟨ob,h1,rfl⟩:=e
 exact⟨ob,h1,rfl⟩
theorem vx {h:List AObj}{i:Nat}{ob:AObj}(e:h[i]? =some ob):(lent h)[i]? =some ob.unz:=by simp[lent,e]
section
variable {Γ:Ctx}{P:Program}{M0:Nat→Prop}{base:Nat}{σ:St}{a:Act}{w:World}{ρ:List (Option Nat)}{h:List AObj}
mutual
theorem eE.reads {κ:Nat→List Nat}{lo:Nat}{M:Nat→Prop}:∀(p:PV)(π:List Nat)(v:Value),(∀b τ,lo≤b→κ b=π++τ→¬M b)→eE κ lo w p π v→ap M w p v
 | .int _ _,_,_,_,r=>by simpa only[eE,ap]using r
 | .bool _,_,_,_,r=>by simpa only[eE,ap]using r
 | .str _,_,_,_,r=>by simpa only[eE,ap]using r
 | .lst es,π,v,hm,r=>by
  simp only[eE]at r
  simp only[ap]
  rcases r with r|⟨b,c,z,cur,e,hb,hk,hz,hr,h1,h2,h3,ht⟩
  ·exact .inl r
  ·exact .inr ⟨b,0,c,z,e,hm b [] hb (by simp[hk]),hr.lt,dY.reads z es π b 0 hm ht,h2⟩
theorem fV.reads {κ:Nat→List Nat}{lo:Nat}{M:Nat→Prop}:∀(ps:List PV)(π:List Nat)(b o:Nat),(∀b τ,lo≤b→κ b=π++τ→¬M b)→fV κ lo w ps π b o→dV M w ps b o
 |[],_,_,_,_,_=>by simp only[dV]
 |p::ps,π,b,o,hm,r=>by
  simp only[fV]at r
  simp only[dV]
  obtain⟨⟨v,hv,hp⟩,r⟩:=r
  exact⟨⟨v,hv,eE.reads p _ v (fun b τ hl e=>hm b (o::τ) hl (by rw[e];simp)) hp⟩,fV.reads ps π b (o+1) hm r⟩
theorem dY.reads {κ:Nat→List Nat}{lo:Nat}{M:Nat→Prop}(z:Nat):∀(es:List (List PV))(π:List Nat)(b o:Nat),(∀b τ,lo≤b→κ b=π++τ→¬M b)→dY κ lo w z es π b o→cZ M w z es b o
 |[],_,_,_,_,_=>by simp only[cZ]
 |e::es,π,b,o,hm,r=>by
  simp only[dY]at r
  simp only[cZ]
  exact⟨r.1,fV.reads e π b o hm r.2.1,dY.reads z es π b (o+z) hm r.2.2⟩
end
theorem Mu.unz {b:Nat}(hm:Mu (fun _=>False) ρ (lent h) b):∃(o:Nat)(ob:AObj),h[o]? =some ob∧ob.mut=true∧ρ[o]? =some (some b):=by
 rcases hm with hm|⟨o,x,hx,hmx,hr⟩
 ·exact hm.elim
 ·obtain⟨ob,h1,rfl⟩:=mP hx
  exact⟨o,ob,h1,by rw[←AObj.unz_mut];exact hmx,hr⟩
theorem Mu.unz_le {b:Nat}(hm:Mu (fun _=>False) ρ (lent h) b):Mu M0 ρ h b:= .inr (Mu.unz hm)
theorem LR.unz {l:L}{v:Value}(r:LR (Mu M0 ρ h) w ρ h l v):LR (Mu (fun _=>False) ρ (lent h)) w ρ (lent h) l.unsub v:=by
 have mu:∀b,Mu (fun _=>False) ρ (lent h) b→Mu M0 ρ h b:=fun b hm=>Mu.unz_le hm
 cases l with
 |pv p=>exact ap.weak mu r
 |ptr o i j=>
  obtain⟨q,ob,h1,h2,h3⟩:=r
  refine⟨q,_,h1,vx h2,?_⟩
  cases ob<;>exact h3
 |ip e j=>obtain⟨b,o,rfl,hb,hlt,hr⟩:=r;exact⟨b,o,rfl,fun k=>hb (mu b k),hlt,dV.go ⟨Zl _,fun b _=>mu b,fun _ _ _=>rfl⟩ e b o hb hlt hr⟩
 |arr o=>
  obtain⟨q,ob,h1,h2,h3⟩:=r
  refine⟨q,_,h1,vx h2,?_⟩
  cases ob<;>exact h3
 |nil=>exact r
 |own z es=>exact r
 |down z es=>exact r
 |fn k caps=>
  obtain⟨f,cs,rfl,hk,hn,hc⟩:=r
  exact⟨f,cs,rfl,hk,hn,fun i e u he hu=>(hc i e u he hu).go ⟨Zl _,fun b _=>mu b,fun _ _ _=>rfl⟩⟩
 |tp n=>
  obtain⟨o,b,h1,h2,rfl⟩:=r
  exact⟨o,b,h1,vx h2,rfl⟩
 |sub o c=>exact r.1
 |win o l r'=>
  obtain⟨h1,q,ob,e1,e2,e3,e4⟩:=r
  exact⟨h1,q,_,e1,vx e2,by cases ob<;>simp_all[AObj.unz],fun hq=>by cases ob<;>first|exact e4 rfl|cases hq⟩
 |junk=>exact r
theorem HR.unz (k:HR M0 base w ρ h):HR (fun _=>False) base w ρ (lent h):=by
 obtain⟨κ,d,n⟩:=k.deep
 have mu:∀b,Mu (fun _=>False) ρ (lent h) b→Mu M0 ρ h b:=fun b hm=>Mu.unz_le hm
 refine⟨⟨by simp[lent,k.len],fun b hb=>hb.elim,k.le,fun o x r ho hr=> ?_,fun o o' x x' b h1 h2 m1 m2 r1 r2=> ?_⟩,κ,⟨fun o x b ho hm hr=> ?_,fun o x z es b ho hd hr=> ?_⟩,n.new,fun b o c τ z es e ho=> ?_⟩
 ·obtain⟨ob,h1,rfl⟩:=mP ho
  have kx:=k.objs o ob r h1 hr
  have c:Ch (Mu M0 ρ h) (Mu (fun _=>False) ρ (lent h)) w w ρ ρ h h:=⟨⟨Zl _,fun b _=>mu b,fun _ _ _=>rfl⟩,fun _ cur r=>⟨cur,r,rfl⟩,fun _ _ ob hr ho _=>⟨ob,hr,ho,qQ.refl ob⟩,fun _ _ _ _ _ _ _ _ _ h=>h⟩
  have keep:∀x:AObj,wu (Mu M0 ρ h) base w ρ h r x→(∀cs,x≠ .box cs)→wu (Mu (fun _=>False) ρ (lent h)) base w ρ (lent h) r x:=fun x kx hx=>by
   have:=kx.keep c (fun _ _ _=>rfl)
   cases x<;>first|exact this|exact absurd rfl (hx _)
  cases ob with
  |zarr z es=>
   obtain⟨hz,hes,kx⟩:=kx
   refine⟨hz,hes,?_⟩
   cases r with
   |none=>exact kx
   |some b=>
    obtain⟨g0,cur,cap,g1,g2,g3,g4⟩:=kx
    refine⟨g0,cur,cap,g1,g2,g3,g4,fun i e j p he hp=> ?_⟩
    obtain⟨v,hv,ht⟩:=d.tree o _ z es b h1 rfl hr i e j p he hp
    refine⟨v,by rw[←g1.cell];exact hv,eE.reads p _ v (fun b' τ _ e' hm=> ?_) ht⟩
    obtain⟨o',ob',q1,q2,q3⟩:=Mu.unz hm
    rw[d.root o' ob' b' q1 q2 q3]at e'
    simp at e'
  |box cs=>
   obtain⟨b,cur,rfl,g0,g1,hls⟩:=kx
   refine⟨b,cur,rfl,g0,g1,by rw[Zs];exact hls.1,fun i l v hl hv=> ?_⟩
   simp only[Zp,Zj]at hl
   obtain⟨l0,h0,rfl⟩:=hl
   exact(hls.2 i l0 v h0 hv).unz
  |arr z es=>exact keep (.arr z es) kx (by simp)
  |froz z es=>exact keep (.froz z es) kx (by simp)
  |darr z es=>exact keep (.darr z es) kx (by simp)
  |fbox ps=>exact keep (.fbox ps) kx (by simp)
  |tbox n=>exact keep (.tbox n) kx (by simp)
  |res=>exact keep .res kx (by simp)
  |dead=>trivial
 ·obtain⟨ob,q1,rfl⟩:=mP h1
  obtain⟨ob',q2,rfl⟩:=mP h2
  rw[AObj.unz_mut]at m1 m2
  exact k.apart o o' ob ob' b q1 q2 m1 m2 r1 r2
 ·obtain⟨ob,h1,rfl⟩:=mP ho
  rw[AObj.unz_mut]at hm
  exact d.root o ob b h1 hm hr
 ·obtain⟨ob,h1,rfl⟩:=mP ho
  rw[AObj.unz_deep]at hd
  exact d.tree o ob z es b h1 hd hr
 ·obtain⟨ob,h1,e1⟩:=mP ho
  cases ob<;>cases e1
def V.unsub :V→V
 | .one l=> .one l.unsub
 | .agg ls=> .agg (ls.map L.unsub)
 | .tup xs=> .tup (xs.map fun x=>(x.1,x.2.map L.unsub))
theorem ru.unz {ls:List L}{vs:List Value}(r:ru (Mu M0 ρ h) w ρ h ls vs):ru (Mu (fun _=>False) ρ (lent h)) w ρ (lent h) (ls.map L.unsub) vs:=
 ⟨by rw[Zs];exact r.1,fun i l v hl hv=>by
  simp only[Zp,Zj]at hl
  obtain⟨l0,h0,rfl⟩:=hl
  exact(r.2 i l0 v h0 hv).unz⟩
theorem VR.unz {v:V}{u:Value}(r:VR (Mu M0 ρ h) w ρ h v u):VR (Mu (fun _=>False) ρ (lent h)) w ρ (lent h) v.unsub u:=by
 cases v with
 |one l=>exact LR.unz r
 |agg ls=>obtain⟨cs,rfl,hl⟩:=r;exact⟨cs,rfl,hl.unz⟩
 |tup xs=>
  obtain⟨vs,rfl,hl,hr⟩:=r
  refine⟨vs,rfl,by rw[Zs];exact hl,fun i x u hx hu=> ?_⟩
  simp only[Zp,Zj]at hx
  obtain⟨x0,h0,rfl⟩:=hx
  have:=hr i x0 u h0 hu
  obtain⟨b,ls⟩:=x0
  cases b with
  |true=>obtain⟨cs,rfl,hl⟩:=this;exact⟨cs,rfl,hl.unz⟩
  |false=>
   match ls,this with
   |[l],this=>exact LR.unz this
theorem SR.unz (s:SR Γ M0 base σ a w ρ):SR Γ (fun _=>False) base ⟨σ.t.map V.unsub,lent σ.h⟩ a w ρ:=
 ⟨s.hr.unz,⟨s.fr.defers,by rw[Zs];exact s.fr.size,fun i v u hv hu=>by
  simp only[Zp,Zj]at hv
  obtain⟨v0,h0,rfl⟩:=hv
  exact(s.fr.tmps i v0 u h0 hu).unz⟩,s.inv,s.b0⟩
theorem Ee (x:Opd):x.ev ⟨σ.t.map V.unsub,h⟩=(x.ev σ).unsub:=by
 cases x with
 |tmp n=>
  simp only[Opd.ev,List.getD,Zp]
  cases σ.t[n]? <;>rfl
 |_=>rfl
theorem K0 (v:V):isInt v.unsub=isInt v:=by
 cases v with
 |one l=>cases l<;>rfl
 |_=>rfl
theorem Iq (v:V):asList h v.unsub=asList h v:=by
 cases v with
 |one l=>cases l<;>rfl
 |_=>rfl
theorem Gz (z:Nat)(v:V)(i:Nat):aG h z v.unsub i=aG h z v i:=by
 cases v with
 |one l=>cases l<;>rfl
 |_=>rfl
theorem S3 {call:Nat→List V→Option V}(x:Opd):bj call σ (.lenZ x)=bj call ⟨σ.t.map V.unsub,lent σ.h⟩ (.len x):=by
 simp only[bj,Ee,Iq]
theorem PO {call:Nat→List V→Option V}(z:Nat)(x i:Opd):bj call σ (.indexZ z x i)=bj call ⟨σ.t.map V.unsub,lent σ.h⟩ (.indexA z x i):=by
 simp only[bj,Ee,K0,Gz]
theorem K6 (s:SR Γ M0 base σ a w ρ){o:Oper}{dm:Md}{t:TypeId}{x:Operand}{y':Opd}(hop:o.op= .load t x)(hc:eV P kf dm o.op=some (.load false 1 y'))
 {ob i j z:Nat} {es:List (List PV)} {e:List PV} {l:List (List PV)} (hev:y'.ev σ= .one (.ptr ob i j)) (hob:σ.h[ob]? =some (.zarr z es)) (hei:es[i]? =some e) (hej:e[j]? =some (.lst l)):
 ∃u,(execOp a.eval o).run P w= .ok (.value u) w∧VR (Mu M0 ρ σ.h) w ρ σ.h (.one (.sub ob (i*z+j))) u:=by
 rw[hop]at hc;simp only[eV]at hc
 split at hc
 ·rename_i g n y h1 h2 h3
  split at hc
  ·cases hc
  ·cases hc
   have r:=aw s h3
   rw[hev]at r
   obtain⟨r0,ob',hr0,hob',hpt⟩:=r
   rw[hob]at hob';cases hob'
   obtain⟨b,rfl,hu⟩:=hpt
   obtain⟨κ,d,nz⟩:=s.hr.deep
   obtain⟨v,hv,ht⟩:=d.tree ob _ z es b hob rfl hr0 i e j _ hei hej
   refine⟨v,?_,ht.one,b,z,es,hr0,hob,⟨i,e,j,l,hei,hej,rfl⟩,hv⟩
   have h4:(loadVar t ⟨b,i*z+j,none⟩).run P w= .ok v w:=by
    have:(load ⟨b,i*z+j,none⟩).run P w= .ok v w:=by simp[load,Sem.run,hv]
    simp only[loadVar,Sem.run_bind,r8 h1,Result.andThen_ok,Z0,if_false,this]
   simp only[AObj.z]at hu
   simp only[execOp,hop,hu,Instr.loadAt,Instr.sureAddr,Sem.run_bind,Sem.run_pure,Result.andThen_ok,h4]
 ·cases hc
theorem Jp (s:SR Γ M0 base σ a w ρ){o:Oper}{dm:Md}{t:TypeId}{x y:Operand}{x' y':Opd}(hop:o.op= .store t x y)(hc:eV P kf dm o.op=some (.store 1 x' y'))
 {ob i j z:Nat} {es:List (List PV)} {e:List PV} {p q:PV} (hev:x'.ev σ= .one (.ptr ob i j)) (hob:σ.h[ob]? =some (.zarr z es)) (hei:es[i]? =some e) (hyv:y'.ev σ= .one (.pv p)) (hej:e[j]? =some q) (hp:p.flat=true) (hq:q.flat=true):
 jC P M0 base σ w ρ (.tup []) (σ.h.set ob (.zarr z (es.set i (e.set j p)))) (execOp a.eval o):=by
 rw[hop]at hc;simp only[eV]at hc
 split at hc
 ·rename_i n1 x1 y1 hn hx hy
  cases hc
  have rx:=aw s hx
  have ry:=aw s hy
  rw[hev]at rx
  rw[hyv]at ry
  obtain⟨r0,obj,hr0,hob',hpt⟩:=rx
  rw[hob]at hob';cases hob'
  obtain⟨b,rfl,hu⟩:=hpt
  simp only[AObj.z]at hu
  obtain⟨κ,d,nz⟩:=s.hr.deep
  obtain⟨hz,hes,hbase,cur,cap,hrow,h1,h2,h3⟩:=s.hr.objs ob _ (some b) hob hr0
  have hls:=ry.cells (fun xs=>by simp)
  obtain⟨u,hcl⟩:∃u,(a.eval y).cells.toList=[u]:=Ye.1 (by rw[←hls.1];rfl)
  have hru:ap (Mu M0 ρ σ.h) w p u:=hls.2 0 _ u rfl (by rw[hcl];rfl)
  have hsz:(a.eval y).cells.size=1:=by
   have:=congrArg List.length hcl
   simpa using this
  have hez:e.length=z:=hes e (Zk hei)
  have hilt:i<es.length:=(Zb.1 hei).1
  have hjlt:j<e.length:=(Zb.1 hej).1
  have hfit:i*z+j+1≤cur.size:=by
   rw[h1]
   calc i*z+j+1≤i*z+z:=by omega
    _=(i+1)*z:=by rw[Z7,Yv]
    _≤cap*z:=Zx _ (by omega)
  have hrun:=oh (P:=P) hn hrow hsz hfit hls.ones
  rw[hcl]at hrun
  obtain⟨cur',hrow',hsz',hget⟩:=de b [u] (i*z+j) w cur hrow (by simpa using hfit)
  have hother:∀k,some b≠some k→(w.setCells b (i*z+j) [u]).heap[k]? =w.heap[k]? :=fun k hk=>co b _ _ w k (fun e=>hk (by rw[e]))
  have cell:∀{i1 j1:Nat}{e1:List PV}{p1:PV},(es.set i (e.set j p))[i1]? =some e1→e1[j1]? =some p1→(p1=p∧cur'[i1*z+j1]? =some u)∨(∃e0,es[i1]? =some e0∧e0[j1]? =some p1∧(i1=i→j1≠j)∧cur'[i1*z+j1]? =cur[i1*z+j1]?):=by
   intro i1 j1 e1 p1 hi1 hj1
   rw[hget]
   by_cases hii:i=i1
   ·subst hii
    rw[Zd hilt]at hi1
    cases hi1
    by_cases hjj:j=j1
    ·subst hjj
     rw[Zd hjlt]at hj1
     cases hj1
     exact .inl ⟨rfl,by rw[if_pos (by simp)];simp⟩
    ·rw[Za hjj]at hj1
     exact .inr ⟨e,hei,hj1,fun _ h=>hjj h.symm,by rw[if_neg (by simp;omega)]⟩
   ·rw[Za hii]at hi1
    have hj1z:j1<z:=by rw[←hes e1 (Zk hi1)];exact(Zb.1 hj1).1
    refine .inr ⟨e1,hi1,hj1,fun h=>absurd h.symm hii,?_⟩
    rw[if_neg]
    intro hin
    simp at hin
    exact hii (uz hj1z (by omega:j<z) (by omega)).1.symm
  have lst:∀{i1 j1:Nat}{e1:List PV}{l:List (List PV)},es[i1]? =some e1→e1[j1]? =some (.lst l)→¬(i1=i∧j1=j):=by
   rintro i1 j1 e1 l h4 h5 ⟨rfl,rfl⟩
   rw[hei]at h4;cases h4
   rw[hej]at h5;cases h5
   cases hq
  obtain⟨g1,g2⟩:=s.hr.toHR0.upd (w':=w.setCells b (i*z+j) [u]) (ob':= .zarr z (es.set i (e.set j p))) hob hr0 rfl ⟨rfl,by simp,fun c⟨i1,e1,j1,l,h4,h5,h6⟩=>by
   have hne:=lst h4 h5
   by_cases hii:i=i1
   ·subst hii
    rw[hei]at h4;cases h4
    exact⟨i,e.set j p,j1,l,Zd hilt,by rw[Za fun h=>hne ⟨rfl,h.symm⟩];exact h5,h6⟩
   ·exact⟨i1,e1,j1,l,by rw[Za hii];exact h4,h5,h6⟩⟩ (cr b _ _ w).symm hother
   (fun k c e hr=>by cases e;rw[hr.inj hrow];exact⟨cur',hrow',hsz'⟩)
   (fun c=>⟨hz,fun e1 he1=>by
    rcases Xn he1 with hm|rfl
    ·exact hes e1 hm
    ·simpa using hez,hbase,cur',cap,hrow',by rw[hsz'];exact h1,by simpa using h2,h3⟩)
   (fun z1 es1 b1 c v e0 eb⟨i1,e1,j1,l,h4,h5,h6⟩hv=>by
    cases e0;cases eb
    have hne:=lst h4 h5
    have hj1z:j1<z:=by rw[←hes e1 (Zk h4)];exact(Zb.1 h5).1
    rw[hrow'.cell,hget,if_neg]
    ·rw[←hrow.cell];exact hv
    ·intro hin
     simp at hin
     have:=uz hj1z (by omega:j<z) (by omega:i1*z+j1=i*z+j)
     exact hne this)
  refine⟨.skip,undef,_,ρ,?_, .inr ⟨rfl,rfl⟩,bN b base hbase _ _ w w (Below.refl _ _),⟨g1,κ,d.upd s.hr.toHR0 hob hr0 rfl hother (fun z1 es1 b1 e0 eb=> ?_),fun b' hb'=>nz.new b' (by rw[cr]at hb';exact hb'),fun b' i' c τ z1 es1 e0 hi'=> ?_⟩,g2,VR.undef⟩
  ·simp[execOp,hop,hu,hrun]
  ·cases e0;cases eb
   have hκ:=d.root ob _ b hob rfl hr0
   intro i1 e1 j1 p1 hi1 hj1
   rcases cell hi1 hj1 with⟨rfl,hc⟩|⟨e2,he2,hp2,_,hc⟩
   ·exact⟨u,by rw[hrow'.cell];exact hc,HM hp hru⟩
   ·obtain⟨v,hv,ht⟩:=d.tree ob _ z es b hob rfl hr0 i1 e2 j1 p1 he2 hp2
    refine⟨v,by rw[hrow'.cell,hc,←hrow.cell];exact hv,eE.go (Zl _) p1 _ _ v (fun b2 τ _ e3=>⟨e3,hother b2 fun e4=> ?_⟩) ht⟩
    cases e4
    rw[hκ]at e3
    simp at e3
  ·by_cases hi2:ob=i'
   ·subst hi2
    exact nz.zone b' ob c τ z es e0 hob
   ·rw[Za hi2]at hi'
    exact nz.zone b' i' c τ z1 es1 e0 hi'
 ·cases hc
end
end Gi
