/- Of this proof. -/
import Derived.Test.YtbeaonmepfkmmaaGreatGiled
set_option linter.unusedSimpArgs false
set_option linter.unusedVariables false
namespace Gi
open Go Go.RowKit
variable {KI:KF}
section
variable {Γ:Ctx}{P:Program}{M0:Nat→Prop}{base:Nat}{σ:St}{a:Act}{w:World}{ρ:List (Option Nat)}
def Nj (xo yo:Option Nat)(N m:Nat):List Nat→List Nat
 |[]=>[]
 |x::τ=>if xo=some x then N::τ else if yo=some x then(match τ with
  |[]=>[]
  |c::τ'=>N::(m+c)::τ')else x::τ
theorem Fa {h:List AObj}{z:Nat}{x:V}{src:Option (Nat×List (List PV))}(h0:eS h z x=some src):(x= .one .nil∧src=none)∨∃o es,x= .one (.arr o)∧src=some (o,es)∧aT h o=some (z,es):=by
 unfold eS at h0
 split at h0
 ·cases h0;exact .inl ⟨rfl,rfl⟩
 ·rename_i o
  split at h0
  ·rename_i z' es hd
   split at h0
   ·rename_i e;subst e;cases h0
    exact .inr ⟨o,es,rfl,rfl,hd⟩
   ·cases h0
  ·cases h0
 ·cases h0
theorem Q3 {h:List AObj}{z:Nat}{src:Option (Nat×List (List PV))}{y:V}{ys:List (List PV)}(h0:mf h z src y=some ys):
 (∃o,y= .one (.arr o)∧aT h o=some (z,ys)∧bZ src o=true)∨(y= .one (.pv (.lst ys))∧lG ys=true)∨(y= .one .nil∧ys=[]):=by
 unfold mf at h0
 split at h0
 ·rename_i o
  split at h0
  ·rename_i z' ys' hd
   split at h0
   ·rename_i e;obtain⟨rfl,e⟩:=e;cases h0
    exact .inl ⟨o,rfl,hd,e⟩
   ·cases h0
  ·cases h0
 ·split at h0
  ·rename_i hf;cases h0;exact .inr (.inl ⟨rfl,hf⟩)
  ·cases h0
 ·cases h0;exact .inr (.inr ⟨rfl,rfl⟩)
 ·cases h0
theorem H8 {h:List AObj}{o z:Nat}{es:List (List PV)}(hd:aT h o=some (z,es)):L.view h (.arr o)=some (.lst es):=by
 unfold aT at hd
 split at hd
 ·rename_i ho
  split at hd
  ·cases hd;simp[L.view,ho]
  ·cases hd
 ·rename_i ho;cases hd;simp[L.view,ho]
 ·cases hd
theorem Kp {h:List AObj}{o z:Nat}{es:List (List PV)}(hd:aT h o=some (z,es)):L.mov h (.arr o)=true:=by
 unfold aT at hd
 split at hd
 ·rename_i ho
  split at hd
  ·rename_i hb;cases hd;simp[L.mov,ho,hb]
  ·cases hd
 ·rename_i ho;cases hd;simp[L.mov,ho]
 ·cases hd
theorem HR.deepen {h:List AObj}{z:Nat}{es:List (List PV)}{κ:Nat→List Nat}(k:HR M0 base w ρ (h++[.arr z es]))(d:Deep κ base w ρ (h++[.darr z es])∧Zon κ M0 w (h++[.darr z es])):
 HR M0 base w ρ (h++[.darr z es])∧Ch (Mu M0 ρ (h++[.arr z es])) (Mu M0 ρ (h++[.darr z es])) w w ρ ρ (h++[.arr z es]) (h++[.darr z es]):=by
 have ho:(h++[AObj.arr z es])[h.length]? =some (.arr z es):=by simp
 obtain⟨r,hr⟩:=k.mem ho
 have hset:(h++[AObj.arr z es]).set h.length (.darr z es)=h++[.darr z es]:=by simp
 obtain⟨g1,g2⟩:=k.toHR0.upd (w':=w) (ob':= .darr z es) ho hr rfl ⟨rfl,rfl⟩ rfl (fun _ _=>rfl) (fun b cur _ hr=>⟨cur,hr,rfl⟩) (fun c=>by
  obtain⟨hz,hes,kx⟩:=k.objs _ _ r ho hr
  refine⟨hz,hes,?_⟩
  cases r with
  |none=>exact kx
  |some b=>
   obtain⟨hbase,cur,cap,g1,g2,g3,g4,g5⟩:=kx
   exact⟨hbase,cur,cap,g1,g2,g3,g4,fun i e j p he hp=>by
    obtain⟨v,hv,hrd⟩:=g5 i e j p he hp
    exact⟨v,hv,ar.go c.go p v hrd⟩⟩)
 rw[hset]at g1 g2
 exact⟨⟨g1,κ,d⟩,g2⟩
theorem Deep.append {κ:Nat→List Nat}{h h1:List AObj}(k:HR0 M0 base w ρ h)(k1:HR0 M0 base w ρ h1)(d:Deep κ base w ρ h){xo yo:Option Nat}{r0 r':Option Nat}{z:Nat}{es ys:List (List PV)}{news:List Value}{w':World}{N:Nat}
 (hlen:h1.length=N) (stay:∀(i:Nat)(x:AObj),(match xo with|some o=>h1.set o .dead|none=>h1)[i]? =some x→x.mut=true→h[i]? =some x∧h1[i]? =some x∧xo≠some i∧yo≠some i)
 (hx:∀o,xo=some o→ρ[o]? =some r0∧∃ob,h1[o]? =some ob∧ob.mut=true) (hx0:xo=none→r0=none) (hρ:ρ.length=N)
 (hz:0<z) (hes:∀e∈es,e.length=z) (hys:∀e∈ys,e.length=z)
 (hold:∀b,r0=some b→∃o,xo=some o∧κ b=[o]∧pj κ base w z es [o] b) (hn0:r0=none→es=[])
 (hnew:∀(i:Nat)(e:List PV)(j:Nat)(p:PV),ys[i]? =some e→e[j]? =some p→∃v,news[i*z+j]? =some v∧((∃o,yo=some o∧d6 κ base w p ([o]++[i*z+j]) v)∨∀κ' π w',d6 κ' base w' p π v))
 (hne:∀o,xo=some o→yo≠some o)
 (hb':∀b',r'=some b'→(r0=some b'∨w.heap.size≤b')∧(∀c,c<es.length*z→∀b0,r0=some b0→w'.cell? ⟨b',c,none⟩=w.cell? ⟨b0,c,none⟩)∧
  (∀(c:Nat)v,news[c]? =some v→w'.cell? ⟨b',es.length*z+c,none⟩=some v)) (hsame:∀b,b<w.heap.size→r0≠some b→w'.heap[b]? =w.heap[b]?) (nz:Zon κ M0 w h) (hsz:w.heap.size≤w'.heap.size) (hr':∀b,r'=some b→b<w'.heap.size):
 ∃κ',Deep κ' base w' (ρ++[r']) ((match xo with|some o=>h1.set o .dead|none=>h1)++[.darr z (es++ys)])∧Zon κ' M0 w' ((match xo with|some o=>h1.set o .dead|none=>h1)++[.darr z (es++ys)]):=by
 have hlen':(match xo with|some o=>h1.set o .dead|none=>h1).length=N:=by
  cases xo<;>simp[hlen]
 generalize hH:(match xo with|some o=>h1.set o .dead|none=>h1)=H at stay hlen'⊢
 have hkeep:∀{b:Nat}{i c:Nat}{τ:List Nat},b<w.heap.size→κ b=i::c::τ→r0≠some b∧r'≠some b:=by
  intro b i c τ hb e
  have h0:r0≠some b:=fun e0=>by
   obtain⟨o,_,e1,_⟩:=hold b e0
   rw[e]at e1;cases e1
  refine⟨h0,fun e0=> ?_⟩
  rcases(hb' b e0).1 with h1|h1
  ·exact h0 h1
  ·omega
 refine⟨fun b=>if r'=some b then [N]else Nj xo yo N (es.length*z) (κ b),⟨fun i x b hi hm hri=> ?_,fun i x z1 es1 b hi hd hri=> ?_⟩,fun b hb=> ?_,fun b i c τ z1 es1 e hi=> ?_⟩
 ·by_cases hlt:i<N
  ·rw[List.getElem?_append_left (by omega)]at hi
   rw[List.getElem?_append_left (by omega)]at hri
   obtain⟨g1,g2,g3,g4⟩:=stay i x hi hm
   have hb:=(k.objs i x _ g1 hri).lt (AObj.mut_live hm)
   have hr:r'≠some b:=fun e=>by
    rcases(hb' b e).1 with h2|h2
    ·obtain⟨o,e1,_,_⟩:=hold b h2
     obtain⟨e3,ob,e4,e5⟩:=hx o e1
     have:=k1.apart i o x ob b g2 e4 hm e5 hri (by rw[e3,h2])
     subst this
     exact g3 e1
    ·omega
   rw[if_neg hr,d.root i x b g1 hm hri]
   simp only[Nj,g3,g4,if_false]
  ·have h1:=(List.getElem?_eq_some_iff.1 hi).1
   simp[hlen']at h1
   obtain rfl:i=N:=by omega
   rw[←hρ]at hri
   simp at hri
   exact if_pos hri
 ·by_cases hlt:i<N
  ·rw[List.getElem?_append_left (by omega)]at hi
   rw[List.getElem?_append_left (by omega)]at hri
   have hm:=AObj.deep_mut hd
   obtain⟨g1,g2,g3,g4⟩:=stay i x hi hm
   have hb:=(k.objs i x _ g1 hri).lt (AObj.mut_live hm)
   have hr0:r0≠some b:=fun h2=>by
    obtain⟨o,e1,_,_⟩:=hold b h2
    obtain⟨e3,ob,e4,e5⟩:=hx o e1
    have:=k1.apart i o x ob b g2 e4 hm e5 hri (by rw[e3,h2])
    subst this
    exact g3 e1
   exact(d.tree i x z1 es1 b g1 hd hri).go (Nat.le_refl _) (fun o _=>by unfold World.cell?;rw[hsame b hb hr0]) ((k.objs i x _ g1 hri).rows hd).2 (fun c b2 τ hb2 e=>by
    obtain⟨q1,q2⟩:=hkeep hb2 e
    refine⟨?_,hsame b2 hb2 q1⟩
    rw[if_neg q2,e]
    simp only[List.cons_append,List.nil_append,Nj,g3,g4,if_false])
  ·have h1:=(List.getElem?_eq_some_iff.1 hi).1
   simp[hlen']at h1
   obtain rfl:i=N:=by omega
   rw[←hρ]at hri
   simp at hri
   have hi':x= .darr z (es++ys):=by
    have:(H++[AObj.darr z (es++ys)])[H.length]? =some (.darr z (es++ys)):=by simp
    rw[hlen',hi]at this
    cases this;rfl
   subst hi'
   cases hd
   obtain⟨c1,c2,c3⟩:=hb' b hri
   intro i1 e1 j1 p1 he1 hp1
   by_cases hi1:i1<es.length
   ·rw[List.getElem?_append_left hi1]at he1
    have hj1:=(List.getElem?_eq_some_iff.1 hp1).1
    rw[hes e1 (List.mem_of_getElem? he1)]at hj1
    have hc:i1*z+j1<es.length*z:=by
     calc i1*z+j1<i1*z+z:=by omega
      _=(i1+1)*z:=by rw[Nat.add_mul,Nat.one_mul]
      _≤es.length*z:=Nat.mul_le_mul_right _ hi1
    cases hr0:r0 with
    |none=>rw[hn0 hr0]at hi1;cases hi1
    |some b0=>
     obtain⟨o,ex,ek,hcs⟩:=hold b0 hr0
     obtain⟨v,hv,ht⟩:=hcs i1 e1 j1 p1 he1 hp1
     refine⟨v,(c2 _ hc b0 hr0).trans hv,d6.go (Nat.le_refl _) p1 _ _ v (fun b2 τ hb2 e=> ?_) ht⟩
     obtain⟨q1,q2⟩:=hkeep hb2 e
     refine⟨?_,hsame b2 hb2 q1⟩
     rw[if_neg q2,e]
     simp only[List.cons_append,List.nil_append,Nj,ex,if_true,hρ]
   ·rw[List.getElem?_append_right (by omega)]at he1
    obtain⟨v,hv,hcase⟩:=hnew _ e1 j1 p1 he1 hp1
    have hpos:i1*z+j1=es.length*z+((i1-es.length)*z+j1):=by
     have:i1=es.length+(i1-es.length):=by omega
     rw[this,Nat.add_mul];simp;omega
    refine⟨v,by rw[hpos];exact c3 _ v hv,?_⟩
    rcases hcase with⟨o,ey,ht⟩|ht
    ·refine d6.go (Nat.le_refl _) p1 _ _ v (fun b2 τ hb2 e=> ?_) ht
     obtain⟨q1,q2⟩:=hkeep hb2 e
     refine⟨?_,hsame b2 hb2 q1⟩
     have hxo:xo≠some o:=fun ex=>hne o ex ey
     rw[if_neg q2,e]
     simp only[List.cons_append,List.nil_append,Nj,hxo,ey,if_false,if_true,hρ,hpos]
    ·exact ht _ _ _
 ·rw[if_neg fun e=>by have:=hr' b e;omega,nz.new b (by omega)]
  rfl
 ·split at e
  ·cases e
  ·have hlt:i<N:=by
    have h1:=(List.getElem?_eq_some_iff.1 hi).1
    simp[hlen']at h1
    by_cases hN:i=N
    ·subst hN
     rw[←hlen']at hi
     simp at hi
    ·omega
   rw[List.getElem?_append_left (by omega)]at hi
   obtain⟨g1,g2,g3,g4⟩:=stay i _ hi rfl
   cases hk:κ b with
   |nil=>rw[hk]at e;cases e
   |cons x τ0=>
    rw[hk]at e
    simp only[Nj]at e
    split at e
    ·cases e;omega
    ·split at e
     ·cases τ0 with
      |nil=>cases e
      |cons c0 τ1=>cases e;omega
     ·cases e
      exact nz.zone b i c τ z1 es1 hk g1
theorem ER {M:Nat→Prop}{w':World}{κ:Nat→List Nat}{lo:Nat}{π:List Nat}{p:PV}{v:Value}(hb:p.flat=true)(r:ar M w p v):d6 κ lo w' p π v:=by
 cases p with
 |lst es=>cases hb
 |_=>simpa only[d6,ar]using r
theorem IE {es:List (List PV)}(h:lG es=true){i j:Nat}{e:List PV}{p:PV}(he:es[i]? =some e)(hp:e[j]? =some p):p.flat=true:=by
 simp only[lG,List.all_eq_true]at h
 exact h e (List.mem_of_getElem? he) p (List.mem_of_getElem? hp)
theorem HR.flatten {h:List AObj}(k:HR M0 base w ρ h){o z:Nat}{es:List (List PV)}(ho:h[o]? =some (.darr z es)):
 HR M0 base w ρ (h.set o (.arr z es))∧Ch (Mu M0 ρ h) (Mu M0 ρ (h.set o (.arr z es))) w w ρ ρ h (h.set o (.arr z es)):=by
 obtain⟨r,hr⟩:=k.mem ho
 exact k.upd (ob':= .arr z es) ho hr rfl ⟨rfl,rfl⟩ rfl (fun _ _=>rfl) (fun b cur _ hr=>⟨cur,hr,rfl⟩) (fun c=>by
  obtain⟨hz,hes,kx⟩:=k.objs _ _ r ho hr
  refine⟨hz,hes,?_⟩
  cases r with
  |none=>exact kx
  |some b=>
   obtain⟨hbase,cur,cap,g1,g2,g3,g4,g5⟩:=kx
   exact⟨hbase,cur,cap,g1,g2,g3,g4,fun i e j p he hp=>by
    obtain⟨v,hv,hrd⟩:=g5 i e j p he hp
    exact⟨v,hv,ar.go c.go p v hrd⟩⟩)
theorem HR.asArr {h:List AObj}(k:HR M0 base w ρ h){o z:Nat}{es:List (List PV)}{ob:AObj}(ho:h[o]? =some ob)(hd:ob.isArrD z es):
 ∃h2,h2[o]? =some (.arr z es)∧h2.length=h.length∧(∀x,h2.set o x=h.set o x)∧HR M0 base w ρ h2∧Ch (Mu M0 ρ h) (Mu M0 ρ h2) w w ρ ρ h h2:=by
 rcases hd with rfl|rfl
 ·exact⟨h,ho,rfl,fun _=>rfl,k,Ch.refl _ _ _ _⟩
 ·obtain⟨g1,g2⟩:=k.flatten ho
  exact⟨_,List.getElem?_set_self (List.getElem?_eq_some_iff.1 ho).1,by simp,fun x=>by simp,g1,g2⟩
theorem Fw (s:SR Γ M0 base σ a w ρ){o:Oper}{t e:TypeId}{i:TypeInfo}{v0:Value}{ox oy:Operand}{x y:Opd}(hu:P.underlying t=some (.slice e))(hi:P.info? e=some i)(hz':i.zero=some v0)(hv0:v0.cells.size=i.size)
 (au:∀{r:Value}{w':World},(Builtin.append_ #[t,t] o.type #[a.eval ox,a.eval oy]).run P w= .ok r w'→(execOp a.eval o).run P w= .ok (.value r) w') (hx:fw ox=some x) (hy:fw oy=some y)
 {sc:Option (Nat×List (List PV))} {ys:List (List PV)} (hsrc:eS σ.h i.size (x.ev σ)=some sc) (hys:mf σ.h i.size sc (y.ev σ)=some ys) (hyz:∀e∈ys,e.length=i.size) (hz0:0<i.size)
 (hbytes:((bc sc).length+ys.length)*i.bytes≤140737488355328) (h63:(bc sc).length+ys.length≤9223372036854775807):
 jd P M0 base σ w ρ (.one (.arr σ.h.length)) (aU sc (freezeLs σ.h (y.ev σ).cells)++[.darr i.size (bc sc++ys)]) (execOp a.eval o):=by
 obtain⟨κ,d,nz⟩:=s.hr.deep
 obtain⟨k1,c1⟩:=s.hr.freezeLs (y.ev σ).cells
 have s1:SR Γ M0 base ⟨σ.t,freezeLs σ.h (y.ev σ).cells⟩ a w ρ:=⟨k1,s.fr.ch c1,s.inv,s.b0⟩
 have ry:=(aA s hy).ch c1
 have rx:=(aA s hx).ch c1
 obtain⟨yo,y1,y2,y3,y4⟩:∃yo:Option Nat,asList σ.h (y.ev σ)=some ys∧(∀o,yo=some o→y.ev σ= .one (.arr o)∧aT σ.h o=some (i.size,ys)∧bZ sc o=true)∧(yo=none→lG ys=true)∧∀o,L.arr o∈(y.ev σ).cells→yo=some o:=by
  rcases Q3 hys with⟨o,e1,e2,e3⟩|⟨e1,e2⟩|⟨e1,rfl⟩
  ·refine⟨some o,?_,fun o' e=> ?_,nofun,fun o' h=> ?_⟩
   ·rw[e1];simp only[asList,H8 e2]
   ·cases e;exact⟨e1,e2,e3⟩
   ·rw[e1]at h;simp[V.cells]at h;rw[h]
  ·exact⟨none,by rw[e1];simp[asList,L.view],nofun,fun _=>e2,fun o' h=>by rw[e1]at h;simp[V.cells]at h⟩
  ·exact⟨none,by rw[e1];simp[asList,L.view],nofun,fun _=>rfl,fun o' h=>by rw[e1]at h;simp[V.cells]at h⟩
 have hys1:asList (freezeLs σ.h (y.ev σ).cells) (y.ev σ)=some ys:=by
  have e0:∀v:V,asList (freezeLs σ.h (y.ev σ).cells) v=asList σ.h v:=fun v=>by
   cases v with
   |one l=>simp only[asList,gX]
   |_=>rfl
  rw[e0];exact y1
 obtain⟨ad,cc,news,ey,hnl,hfirst,hones,hrows,hnews⟩:=src (P:=P) s1 ry hys1 hyz hz0
 have hlen:(freezeLs σ.h (y.ev σ).cells).length=σ.h.length:=lH _
 have hgone:∀(i:Nat)(x:AObj),(freezeLs σ.h (y.ev σ).cells)[i]? =some x→x.mut=true→σ.h[i]? =some x∧yo≠some i:=fun i x hx hm=>by
  refine⟨jM _ hx hm,fun e=> ?_⟩
  obtain⟨e1,e2,_⟩:=y2 i e
  refine ue (fun o ho=> ?_) hx hm (ov.2 (by rw[e1];simp[V.cells]))
  obtain⟨_,e4,_⟩:=y2 o (y4 o ho)
  exact Kp e4
 have hnew:∀(i':Nat)(e:List PV)(j:Nat)(p:PV),ys[i']? =some e→e[j]? =some p→∃v,news[i'*i.size+j]? =some v∧((∃o,yo=some o∧d6 κ base w p ([o]++[i'*i.size+j]) v)∨∀κ' π w',d6 κ' base w' p π v):=by
  intro i' e j p he hp
  obtain⟨v,hv,hrd⟩:=hrows i' e j p he hp
  refine⟨v,hv,?_⟩
  cases hyo:yo with
  |none=>exact .inr fun κ' π w'=>ER (IE (y3 hyo) he hp) hrd
  |some o=>
   refine .inl ⟨o,rfl,?_⟩
   obtain⟨e1,e2,e3⟩:=y2 o hyo
   have ry0:=aA s hy
   rw[e1]at ry0
   obtain⟨r,ob,hr,hob,hs⟩:=ry0
   obtain⟨ob',hob',hD,_,k0,hc⟩:=pp s.hr.toHR0 d e2 hr
   rw[hob']at hob;cases hob
   have hs':nL w (.arr i.size ys) r (a.eval oy):=by rcases hD with rfl|rfl<;>exact hs
   cases r with
   |none=>
    obtain⟨_,_,k0⟩:=k0
    obtain rfl:ys=[]:=k0
    simp at he
   |some b=>
    obtain⟨cur,cap,hrow,_,_,_,ev⟩:=hs'
    obtain⟨v',hv',ht⟩:=(hc b rfl).2 i' e j p he hp
    have:=hnews _ v hv b 0 cap ev
    rw[Nat.zero_add,hv']at this
    cases this
    exact ht
 have hlast:∀{w':World}{r':Option Nat}{h0:List AObj}{es0:List (List PV)},HR M0 base w' (ρ++[r']) (h0++[.arr i.size es0])→∀b,r'=some b→b<w'.heap.size:=fun{w' r' h0 es0}k b e=>by
  have hl:ρ.length=h0.length:=by have:=k.len;simpa using this
  exact(k.objs h0.length (.arr i.size es0) (some b) (by simp) (by rw[←hl,←e];simp)).lt (by simp)
 have ht':P.underlying t=some .string∨∃e',P.underlying t=some (.slice e'):= .inr ⟨e,hu⟩
 have hlenOf:∀w,(Builtin.lenOf (a.eval oy)).run P w= .ok ys.length w:=by intro w;rw[ey];rfl
 rcases Fa hsrc with⟨ex,rfl⟩|⟨ob,es,ex,rfl,hdp⟩
 ·
  rw[ex]at rx
  obtain⟨n,u,w',ρ',g1,g2,g3,g4,g5,g6,r',rfl,g7,g8⟩:=append_nil s1 hu ht' hi hz' hv0 au hlenOf hyz hz0 hnl hfirst hones hrows rx (by simpa[bc]using hbytes) (by simpa[bc]using h63)
  obtain⟨κ',d'⟩:=Deep.append (w':=w') (r':=r') s.hr.toHR0 k1.toHR0 d (xo:=none) (yo:=yo) (r0:=none) (es:=[]) hlen (fun i x hx hm=>⟨(hgone i x hx hm).1,hx,nofun,(hgone i x hx hm).2⟩) nofun (fun _=>rfl) s.hr.len hz0 (fun _ h=>by cases h) hyz nofun (fun _=>rfl) hnew nofun (fun b' e=>by simpa using g7 b' e) g8 nz g5.go.size (hlast g4)
  obtain⟨q1,q2⟩:=g4.deepen d'
  refine⟨n,u,w',_,g1,g2,g3,q1,c1.trans (g5.trans q2),?_⟩
  have:=g6.ch q2
  rw[show(St.mk σ.t (freezeLs σ.h (y.ev σ).cells)).h.length=σ.h.length from hlen]at this
  exact this
 ·rw[ex]at rx
  have hna:(y.ev σ).cells.all (L.notArr ob)=true:=by
   rw[List.all_eq_true]
   intro l hl
   cases l with
   |arr o'=>
    obtain⟨_,_,e3⟩:=y2 o' (y4 o' hl)
    simp only[bZ,Bool.not_eq_true',beq_eq_false_iff_ne]at e3
    simp only[L.notArr,Bool.not_eq_true',beq_eq_false_iff_ne]
    exact fun e=>e3 e.symm
   |_=>rfl
  obtain⟨r0,hr0⟩:∃r0,ρ[ob]? =some r0:=by
   obtain⟨r,ob',hr,_⟩:=rx
   exact⟨r,hr⟩
  obtain⟨obj,hobj,hD,hm,k0,hcell⟩:=pp s.hr.toHR0 d hdp hr0
  have hobj1:=oJ (y.ev σ).cells hna hobj
  obtain⟨h2,e1,e2,e3,k2,c2⟩:=k1.asArr hobj1 hD
  have s2:SR Γ M0 base ⟨σ.t,h2⟩ a w ρ:=⟨k2,s1.fr.ch c2,s.inv,s.b0⟩
  obtain⟨n,u,w',ρ',g1,g2,g3,g4,g5,g6,r1,hr1,r',rfl,g7,g8⟩:=uz s2 hu ht' hi hz' hv0 au hlenOf hyz hz0 hnl hfirst hones (fun i' e j p he hp=>by
   obtain⟨v,hv,hrd⟩:=hrows i' e j p he hp
   exact⟨v,hv,ar.go c2.go p v hrd⟩) e1 (rx.ch c2) hbytes h63
  rw[hr0]at hr1;cases hr1
  rw[show(St.mk σ.t h2).h.set ob .dead=(freezeLs σ.h (y.ev σ).cells).set ob .dead from e3 _]at g4 g5 g6
  rw[show(St.mk σ.t h2).h.length=σ.h.length from e2.trans hlen]at g6
  obtain⟨κ',d'⟩:=Deep.append (w':=w') (r':=r') s.hr.toHR0 k1.toHR0 d (xo:=some ob) (yo:=yo) (r0:=r0) (es:=es) hlen (fun i x hx hm'=>by
   by_cases hi:ob=i
   ·subst hi
    rw[List.getElem?_set_self (by have:=(List.getElem?_eq_some_iff.1 hobj1).1;exact this)]at hx
    cases hx;cases hm'
   ·simp only[List.getElem?_set_ne hi]at hx
    exact⟨(hgone i x hx hm').1,hx,fun e=>hi (by cases e;rfl),(hgone i x hx hm').2⟩) (fun o e=>by cases e;exact⟨hr0,obj,hobj1,hm⟩) nofun s.hr.len hz0 k0.2.1 hyz (fun b e=>⟨ob,rfl,hcell b e⟩) (fun e=>by subst e;exact k0.2.2) hnew (fun o e e'=>by
   cases e
   obtain⟨_,_,e3⟩:=y2 _ e'
   simp[bZ]at e3) (fun b' e=>g7 b' e) g8 nz g5.go.size (hlast g4)
  obtain⟨q1,q2⟩:=g4.deepen d'
  exact⟨n,u,w',_,g1,g2,g3,q1,c1.trans (c2.trans (g5.trans q2)),g6.ch q2⟩
theorem DB (s:SR Γ M0 base σ a w ρ){o:Oper}{dm:Md}{v:V}{h':List AObj}{call:Nat→List V→Option V}{c:Call}{z bytes:Nat}{x y:Opd}(hop:o.op= .call c)
 (hc:eO P kf dm o.op=some (.append z bytes x y)) (he:b6 call σ (.appendD z bytes x y)=some (v,h')):jd P M0 base σ w ρ v h' (execOp a.eval o):=by
 rw[hop]at hc;simp only[eO]at hc
 split at hc
 ·split at hc
  ·(repeat' (split at hc))<;>cases hc
  ·cases hc
 ·(repeat' (split at hc))<;>cases hc
 ·split at hc
  ·(repeat' (split at hc))<;>cases hc
  ·cases hc
 ·rename_i hcal
  split at hc
  ·rename_i ox oy t u hargs htys
   split at hc
   ·rename_i e e' x0 y0 ht _ hx hy
    split at hc
    ·rename_i z0 b0 v0 hsz hby hz
     split at hc
     ·rename_i hcond
      obtain⟨hv0,rfl⟩:=hcond
      cases hc
      obtain⟨i,hi,hz',hs',hb'⟩:∃i,P.info? e=some i∧i.zero=some v0∧i.size=z∧i.bytes=bytes:=by
       unfold lf at hz;unfold pe at hsz;unfold LW at hby
       cases hi:P.info? e with
       |none=>simp[hi]at hz
       |some i=>simp[hi]at hz hsz hby;exact⟨i,rfl,hz,hsz,hby⟩
      subst hs' hb'
      have hu:P.underlying t=some (.slice e):=by
       unfold iA at ht
       split at ht<;>cases ht
       assumption
      have au:∀{r:Value}{w':World},(Builtin.append_ #[t,t] o.type #[a.eval ox,a.eval oy]).run P w= .ok r w'→(execOp a.eval o).run P w= .ok (.value r) w':=by
       intro r w' hr
       have e2:c.args.map a.eval= #[a.eval ox,a.eval oy]:=Array.ext' (by rw[Array.toList_map,hargs];rfl)
       have e3:c.argTypes= #[t,t]:=Array.ext' htys
       simp only[execOp,hop,resolve,hcal,Sem.run_bind,Sem.run_pure,Result.andThen_ok,invoke,e3,e2,builtin,hr]
      simp only[b6]at he
      split at he
      ·cases he
      ·rename_i sc hsc
       split at he
       ·cases he
       ·rename_i ys hys
        split at he
        ·rename_i hchk
         obtain⟨hyz',hz0,hbytes,h63⟩:=hchk
         cases he
         exact Fw s hu hi hz' hv0 au hx hy hsc hys (by simpa using hyz') hz0 hbytes h63
        ·cases he
     ·cases hc
    ·cases hc
   ·(repeat' (split at hc))<;>cases hc
   ·cases hc
  ·cases hc
 ·split at hc
  ·(repeat' (split at hc))<;>cases hc
  ·cases hc
 ·split at hc
  ·(repeat' (split at hc))<;>cases hc
  ·cases hc
 ·cases hc
end
end Gi
