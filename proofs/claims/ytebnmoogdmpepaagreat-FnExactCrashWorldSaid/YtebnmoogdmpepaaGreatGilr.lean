/- Of this proof. -/
import Derived.Test.YtebnmoogdmpepaaGreatGilh
set_option linter.unusedSimpArgs false
set_option linter.unusedVariables false
namespace Gi
open Go Go.RowKit
variable {KI:KF}
def Ur (S:Nat→Bool)(mv:Nat→Nat→Option Nat)(N:Nat):List Nat→List Nat
 |[]=>[]
 |[o]=>if S o then []else [o]
 |o::c::τ=>if S o then(match mv o c with
  |some c'=>N::c'::τ
  |none=>[])else o::c::τ
section
variable {M0:Nat→Prop}{base:Nat}{w:World}{ρ:List (Option Nat)}
theorem Deep.recell {κ:Nat→List Nat}{h H:List AObj}(k:HR0 M0 base w ρ h)(d:Deep κ base w ρ h)(nz:Zon κ M0 w h){S:Nat→Bool}{mv:Nat→Nat→Option Nat}{N z:Nat}{es:List (List PV)}{r:Option Nat}{w':World}
 (hρ:ρ.length=N) (hlen:H.length=N) (stay:∀(i:Nat)(x:AObj),H[i]? =some x→x.mut=true→h[i]? =some x∧S i=false)
 (hr:∀b,r=some b→b<w'.heap.size∧(w.heap.size≤b∨∃o ob,S o=true∧h[o]? =some ob∧ob.mut=true∧ρ[o]? =some (some b)))
 (hsame:∀b,b<w.heap.size→r≠some b→w'.heap[b]? =w.heap[b]?) (hsz:w.heap.size≤w'.heap.size)
 (hcell:∀b,r=some b→∀(i:Nat)(e:List PV)(j:Nat)(p:PV),es[i]? =some e→e[j]? =some p→∃v,w'.cell? ⟨b,i*z+j,none⟩=some v∧
  ((∃o c,S o=true∧mv o c=some (i*z+j)∧eE κ base w p ([o]++[c]) v)∨∀κ' π w',eE κ' base w' p π v)):
 ∃κ',Deep κ' base w' (ρ++[r]) (H++[.darr z es])∧Zon κ' M0 w' (H++[.darr z es]):=by
 have hkeep:∀{b:Nat}{i c:Nat}{τ:List Nat},b<w.heap.size→κ b=i::c::τ→r≠some b:=by
  intro b i c τ hb e e0
  rcases(hr b e0).2 with h1|⟨o,ob,_,h2,h3,h4⟩
  ·omega
  ·rw[d.root o ob b h2 h3 h4]at e;cases e
 have stayr:∀{i:Nat}{x:AObj}{b:Nat},h[i]? =some x→S i=false→x.mut=true→ρ[i]? =some (some b)→r≠some b:=by
  intro i x b h1 hs hm hri e0
  have hb:=(k.objs i x _ h1 hri).lt (AObj.mut_live hm)
  rcases(hr b e0).2 with h2|⟨o,ob,h3,h4,h5,h6⟩
  ·omega
  ·have:=k.apart i o x ob b h1 h4 hm h5 hri h6
   subst this
   rw[hs]at h3;cases h3
 refine⟨fun b=>if r=some b then [N]else Ur S mv N (κ b),⟨fun i x b hi hm hri=> ?_,fun i x z1 es1 b hi hd hri=> ?_⟩,fun b hb=> ?_,fun b i c τ z1 es1 e hi=> ?_⟩
 ·by_cases hlt:i<N
  ·rw[Ze (by omega)]at hi
   rw[Ze (by omega)]at hri
   obtain⟨g1,g2⟩:=stay i x hi hm
   rw[if_neg (stayr g1 g2 hm hri),d.root i x b g1 hm hri]
   simp only[Ur,g2,Z0,if_false]
  ·have h1:=(Zb.1 hi).1
   simp[hlen]at h1
   obtain rfl:i=N:=by omega
   rw[←hρ]at hri
   simp at hri
   exact if_pos hri
 ·by_cases hlt:i<N
  ·rw[Ze (by omega)]at hi
   rw[Ze (by omega)]at hri
   have hm:=AObj.deep_mut hd
   obtain⟨g1,g2⟩:=stay i x hi hm
   have hb:=(k.objs i x _ g1 hri).lt (AObj.mut_live hm)
   have hr0:=stayr g1 g2 hm hri
   exact(d.tree i x z1 es1 b g1 hd hri).go (Zl _) (fun o _=>by unfold World.cell?;rw[hsame b hb hr0]) ((k.objs i x _ g1 hri).rows hd).2 (fun c b2 τ hb2 e=>by
    have q:=hkeep hb2 e
    refine⟨?_,hsame b2 hb2 q⟩
    rw[if_neg q,e]
    simp only[Zf,Zi,Ur,g2,Z0,if_false])
  ·have h1:=(Zb.1 hi).1
   simp[hlen]at h1
   obtain rfl:i=N:=by omega
   rw[←hρ]at hri
   simp at hri
   have hi':x= .darr z es:=by
    have:(H++[AObj.darr z es])[H.length]? =some (.darr z es):=by simp
    rw[hlen,hi]at this
    cases this;rfl
   subst hi'
   cases hd
   intro i1 e1 j1 p1 he1 hp1
   obtain⟨v,hv,hcase⟩:=hcell b hri i1 e1 j1 p1 he1 hp1
   refine⟨v,hv,?_⟩
   rcases hcase with⟨o,c,hs,hmv,ht⟩|ht
   ·refine eE.go (Zl _) p1 _ _ v (fun b2 τ hb2 e=> ?_) ht
    have q:=hkeep hb2 e
    refine⟨?_,hsame b2 hb2 q⟩
    rw[if_neg q,e]
    simp only[Zf,Zi,Ur,hs,if_true,hmv,hρ]
   ·exact ht _ _ _
 ·rw[if_neg fun e=>by have:=(hr b e).1;omega,nz.new b (by omega)]
  rfl
 ·split at e
  ·cases e
  ·have hlt:i<N:=by
    have h1:=(Zb.1 hi).1
    simp[hlen]at h1
    by_cases hN:i=N
    ·subst hN
     rw[←hlen]at hi
     simp at hi
    ·omega
   rw[Ze (by omega)]at hi
   obtain⟨g1,g2⟩:=stay i _ hi rfl
   cases hk:κ b with
   |nil=>rw[hk]at e;cases e
   |cons x τ0=>
    rw[hk]at e
    cases τ0 with
    |nil=>
     simp only[Ur]at e
     split at e<;>cases e
    |cons c0 τ1=>
     simp only[Ur]at e
     split at e
     ·split at e
      ·cases e;omega
      ·cases e
     ·cases e
      exact nz.zone b i c τ z1 es1 hk g1
end
def U0 (i j z c:Nat):Option Nat:=if c<i*z then some c else if j*z≤c then some (c-(j-i)*z)else none
theorem Q5 {i j z:Nat}{es:List (List PV)}{cur cur':Array Value}(hij:i<j)(hj:j≤es.length)(hes:∀e∈es,e.length=z)
 (hlow:∀q,q<i*z→cur'[q]? =cur[q]?) (hhigh:∀q,i*z≤q→q<(es.length-(j-i))*z→cur'[q]? =cur[q+(j-i)*z]?) {i1 j1:Nat} {e:List PV} {p:PV} (he:(es.take i++es.drop j)[i1]? =some e) (hp:e[j1]? =some p):
 ∃i0,es[i0]? =some e∧cur'[i1*z+j1]? =cur[i0*z+j1]? ∧U0 i j z (i0*z+j1)=some (i1*z+j1):=by
 have hlen:(es.take i).length=i:=by rw[Zy];omega
 have hj1:=(Zb.1 hp).1
 by_cases hi:i1<i
 ·rw[Ze (by omega),Z4,if_pos hi]at he
  rw[hes e (Zk he)]at hj1
  have:=DN hi hj1
  exact⟨i1,he,hlow _ this,by unfold U0;rw[if_pos this]⟩
 ·rw[Zh (by omega),hlen,Y0]at he
  have hlt:=(Zb.1 he).1
  rw[hes e (Zk he)]at hj1
  have h1:i1*z+j1<(es.length-(j-i))*z:=DN (by omega) hj1
  have h2:i*z≤i1*z:=Zx _ (by omega)
  have h3:i1*z+(j-i)*z=(j+(i1-i))*z:=by rw[←Z7];congr 1;omega
  have h4:i*z≤j*z:=Zx _ (by omega)
  have h5:j*z≤(j+(i1-i))*z:=Zx _ (by omega)
  refine⟨_,he,?_,?_⟩
  ·rw[hhigh _ (by omega) h1];congr 1;omega
  ·unfold U0
   rw[if_neg (by omega),if_pos (by omega)]
   congr 1;omega
section
variable {Γ:Ctx}{P:Program}{M0:Nat→Prop}{base:Nat}{σ:St}{a:Act}{w:World}{ρ:List (Option Nat)}
theorem Kk (s:SR Γ M0 base σ a w ρ){o z:Nat}{es:List (List PV)}{i j:Nat}(hd:aX σ.h o=some (z,es)){b:Nat}(hr:ρ[o]? =some (some b)){cap:Nat}{cur cur':Array Value}(hrow:gg w b cur)(hij:i<j)(hj:j≤es.length)(hcap:cur.size=cap*z){w':World}
 (hrow':gg w' b cur') (hsz:cur'.size=cur.size) (hsize:w.heap.size≤w'.heap.size) (hblk:∀k,k<w.heap.size→k≠b→w'.heap[k]? =w.heap[k]?)
 (hlow:∀q,q<i*z→cur'[q]? =cur[q]?) (hhigh:∀q,i*z≤q→q<(es.length-(j-i))*z→cur'[q]? =cur[q+(j-i)*z]?):
 HR M0 base w' (ρ++[some b]) (σ.h.set o .dead++[.darr z (es.take i++es.drop j)])∧
  Ch (Mu M0 ρ σ.h) (Mu M0 (ρ++[some b]) (σ.h.set o .dead++[.darr z (es.take i++es.drop j)])) w w' ρ (ρ++[some b]) σ.h (σ.h.set o .dead++[.darr z (es.take i++es.drop j)])∧
  VR (Mu M0 (ρ++[some b]) (σ.h.set o .dead++[.darr z (es.take i++es.drop j)])) w' (ρ++[some b]) (σ.h.set o .dead++[.darr z (es.take i++es.drop j)]) (.one (.arr σ.h.length)) (.slice (some ⟨b,0,none⟩) (es.length-(j-i)) cap):=by
 obtain⟨κ,d,nz⟩:=s.hr.deep
 obtain⟨ob,ho,hD,hm,k0,hcell⟩:=jP s.hr.toHR0 d hd hr
 obtain⟨hκ,hcell⟩:=hcell b rfl
 obtain⟨h2,e1,e2,e3,k2,c2⟩:=s.hr.asArr ho hD
 have hlt0:o<h2.length:=(Zb.1 e1).1
 have hρ:ρ.length=h2.length:=k2.len
 obtain⟨hz0,hes,kx⟩:=k2.objs o _ (some b) e1 hr
 have hel:(es.take i++es.drop j).length=es.length-(j-i):=by simp;omega
 have hesn:∀e∈es.take i++es.drop j,e.length=z:=fun e he=>by
  rcases Yw.1 he with h|h
  ·exact hes e (Z9 h)
  ·exact hes e (List.mem_of_mem_drop h)
 obtain⟨k3,c3⟩:=k2.rename (es':=es.take (es.take i++es.drop j).length) e1 hr (fun mu=>by
  obtain⟨hbase,cur1,cap1,g1,g2,g3,g4,g5⟩:=kx
  exact⟨hz0,fun e he=>hes e (Z9 he),hbase,cur1,cap1,g1,g2,by rw[Zy];omega,g4,fun i e j p he hp=>by
   rw[Z4]at he
   split at he
   ·obtain⟨v,hv,hr⟩:=g5 i e j p he hp
    exact⟨v,hv,hr.weak mu⟩
   ·cases he⟩)
 rw[e3]at k3 c3
 have hnew:(σ.h.set o AObj.dead++[AObj.arr z (es.take (es.take i++es.drop j).length)])[h2.length]? =some (AObj.arr z (es.take (es.take i++es.drop j).length)):=by rw[e2,Zh (by simp)];simp
 have hrn:(ρ++[some b])[h2.length]? =some (some b):=by rw[←hρ];simp
 have hset:(σ.h.set o AObj.dead++[AObj.arr z (es.take (es.take i++es.drop j).length)]).set h2.length (AObj.arr z (es.take i++es.drop j))=σ.h.set o AObj.dead++[AObj.arr z (es.take i++es.drop j)]:=by rw[e2,Y3 _ _ (by simp)];simp
 obtain⟨hbase,cur1,cap1,hrow1,h1,h2',h3,h4⟩:=kx
 cases hrow.inj hrow1
 have hcc:cap1=cap:=Yi hz0 (h1.symm.trans hcap)
 subst hcc
 obtain⟨T,hw'⟩:=hrow'
 have hbl:=hrow.lt
 obtain⟨w1,hw1⟩:∃w1:World,w1={w with heap:=w.heap.set b (.cells cur' T (0,0)) hbl}:=⟨_,rfl⟩
 have g1:w1.heap.size=w.heap.size:=by rw[hw1];simp
 have g2:w1.heap[b]? =some (.cells cur' T (0,0)):=by rw[hw1];simp
 have g3:∀k,k≠b→w1.heap[k]? =w.heap[k]? :=fun k hk=>by rw[hw1];exact Array.getElem?_set_ne hbl (Ne.symm hk)
 have hlec:(es.take i++es.drop j).length≤cap1:=by omega
 obtain⟨k4,c4⟩:=k3.upd (w':=w1) (ob':= .arr z (es.take i++es.drop j)) hnew hrn rfl ⟨rfl,by rw[Zy];omega⟩ g1.symm
  (fun k hk=>g3 k (fun e=>hk (by rw[e])))
  (fun k c e hrw=>by cases e;rw[hrw.inj hrow];exact⟨cur',⟨T,g2⟩,hsz⟩)
  (fun c5=>⟨hz0,hesn,hbase,cur',cap1,⟨T,g2⟩,by rw[hsz];exact h1,hlec,h3,fun i1 e j1 p he hp=>by
   obtain⟨i0,q1,q2,_⟩:=Q5 hij hj hes hlow hhigh he hp
   obtain⟨v,hv,hr⟩:=h4 i0 e j1 p q1 hp
   exact⟨v,q2.trans hv,ap.go c5.go p v (ap.go c3.go p v hr)⟩⟩)
 rw[hset]at k4 c4
 obtain⟨k5,c5⟩:=k4.world (w':=w') (by omega) (fun k hk=>by
  by_cases e:k=b
  ·subst e;rw[g2];exact hw'
  ·rw[g3 k e];exact hblk k (by omega) e)
 obtain⟨κ',d'⟩:=Deep.recell (H:=σ.h.set o .dead) (S:=fun x=>x==o) (mv:=fun _ c=>U0 i j z c) (N:=σ.h.length) (z:=z) (es:=es.take i++es.drop j) (r:=some b) (w':=w') s.hr.toHR0 d nz s.hr.len (by simp)
  (fun x y hx hy=>by
   by_cases hxo:o=x
   ·subst hxo
    rw[Zd (Zb.1 ho).1]at hx
    cases hx;cases hy
   ·rw[Za hxo]at hx
    exact⟨hx,by simpa using fun e=>hxo e.symm⟩)
  (fun b' e=>by cases e;exact⟨Z3 hbl hsize, .inr ⟨o,ob,by simp,ho,hm,hr⟩⟩)
  (fun k hk hne=>hblk k hk (fun e=>hne (by rw[e]))) hsize
  (fun b' e i1 e1 j1 p1 he hp=>by
   cases e
   obtain⟨i0,q1,q2,q3⟩:=Q5 hij hj hes hlow hhigh he hp
   obtain⟨v,hv,ht⟩:=hcell i0 e1 j1 p1 q1 hp
   refine⟨v,?_, .inl ⟨o,_,by simp,q3,ht⟩⟩
   rw[gg.cell (show gg w' b cur' from⟨T,hw'⟩),q2,←hrow.cell]
   exact hv)
 obtain⟨q1,q2⟩:=k5.deepen d'
 refine⟨q1,c2.trans (c3.trans (c4.trans (c5.trans q2))),some b, .darr z (es.take i++es.drop j),?_,?_,cur',cap1,⟨T,hw'⟩,by rw[hsz];exact h1,hlec,h3,by rw[hel]⟩
 ·rw[←s.hr.len];simp
 ·rw[Zh (by simp)];simp
def QI (P:Program)(f z:Nat):Prop:=
 0<z→∀(w:World)(b n cap i j:Nat)(cur:Array Value),gg w b cur→cur.size=cap*z→n≤cap→cap≤maxLen→i<j→j≤n→(∀(u:Nat)v,u<n*z→cur[u]? =some v→v.oneCell'=true)→
  Calls P f #[.slice (some ⟨b,0,none⟩) n cap, .int .i64 i, .int .i64 j] w fun e w'=>∃cur',e= .returned (.slice (some ⟨b,0,none⟩) (n-(j-i)) cap)∧gg w' b cur'∧cur'.size=cur.size∧
   w'.os=w.os∧w'.tape=w.tape∧w'.output=w.output∧w.heap.size≤w'.heap.size∧(∀k,k<w.heap.size→k≠b→w'.heap[k]? =w.heap[k]?)∧
   (∀q,q<i*z→cur'[q]? =cur[q]?)∧∀q,i*z≤q→q<(n-(j-i))*z→cur'[q]? =cur[q+(j-i)*z]?
theorem U6 (s:SR Γ M0 base σ a w ρ){f z:Nat}(ok:QI P f z){o:Nat}{es:List (List PV)}(hd:aX σ.h o=some (z,es)){i j:Nat}(hij:i<j)(hj:j≤es.length){ux:Value}(rx:LR (Mu M0 ρ σ.h) w ρ σ.h (.arr o) ux):
 Calls P f #[ux, .int .i64 i, .int .i64 j] w fun e w'=>∃u ρ',e= .returned u∧Below base w w'∧HR M0 base w' ρ' (σ.h.set o .dead++[.darr z (es.take i++es.drop j)])∧
  Ch (Mu M0 ρ σ.h) (Mu M0 ρ' (σ.h.set o .dead++[.darr z (es.take i++es.drop j)])) w w' ρ ρ' σ.h (σ.h.set o .dead++[.darr z (es.take i++es.drop j)])∧
  VR (Mu M0 ρ' (σ.h.set o .dead++[.darr z (es.take i++es.drop j)])) w' ρ' (σ.h.set o .dead++[.darr z (es.take i++es.drop j)]) (.one (.arr σ.h.length)) u:=by
 obtain⟨κ,d,nz⟩:=s.hr.deep
 obtain⟨r0,ob0,hr0,hob0,hsl⟩:=rx
 obtain⟨ob,ho,hD,hm,k0,hcell⟩:=jP s.hr.toHR0 d hd hr0
 rw[ho]at hob0;cases hob0
 have hsl':km w (.arr z es) r0 ux:=by rcases hD with rfl|rfl<;>exact hsl
 obtain⟨hz0,hes,kx⟩:=k0
 cases r0 with
 |none=>
  obtain rfl:es=[]:=kx
  simp at hj;omega
 |some b=>
  obtain⟨hbase,cur,cap,hrow,h1,h2,h3,h4⟩:=kx
  obtain⟨cur1,cap1,hrow1,h11,_,_,ex⟩:=hsl'
  cases hrow.inj hrow1
  have hcc:cap1=cap:=Yi hz0 (h11.symm.trans h1)
  subst hcc ex
  have hone:∀(u:Nat)v,u<es.length*z→cur[u]? =some v→v.oneCell'=true:=fun u v hu hv=>by
   have hdm:=Nat.div_add_mod u z
   have hmod:=Nat.mod_lt u hz0
   have hju:u/z<es.length:=(Xm hz0).2 hu
   have he:=Zr hju
   have hl:=hes _ (Zg hju)
   obtain⟨v',hv',hr⟩:=h4 (u/z) _ (u%z) _ he (Zr (by rw[hl];exact hmod))
   rw[Yy,hdm,hv]at hv'
   cases hv'
   exact hr.one
  refine(ok hz0 w b es.length cap1 i j cur hrow h1 h2 h3 hij hj hone).mono fun e w'⟨cur',he,hrow',hsz,q1,q2,q3,q4,q5,q6,q7⟩=> ?_
  subst he
  obtain⟨g1,g2,g3⟩:=Kk s hd hr0 hrow hij hj h1 hrow' hsz q4 q5 q6 q7
  exact⟨_,_,rfl,⟨q1,q2,q3,q4,fun k hk=>q5 k (Z3 hk s.hr.le) (by omega)⟩,g1,g2,g3⟩
theorem Tg {d:Md}{op:Op}{z:Nat}{x:Opd}{lo hi:Option Opd}(hc:eV P kf d op=some (.slcL z x lo hi)):∃t x' lo' hi' mx',op= .slice t x' lo' hi' mx':=by
 cases op
 case slice t x' lo' hi' mx'=>exact⟨_,_,_,_,_,rfl⟩
 case makeFunc fn first caps=>cases fn<;>simp only[eV]at hc<;>first|(cases hc;done)|((repeat' (split at hc))<;>cases hc)
 all_goals
  simp only[eV]at hc
  first
  |(cases hc;done)
  |(simp only[Zj]at hc;obtain⟨_,_,hc⟩:=hc;cases hc;done)
  |((repeat' (split at hc))<;>cases hc)
theorem Nj (s:SR Γ M0 base σ a w ρ){o:Oper}{d:Md}{z:Nat}{x:Opd}{lo hi:Option Opd}{v:V}{call:Nat→List V→Option V}(hc:eV P kf d o.op=some (.slcL z x lo hi))(hf:bj call σ (.slcW z x lo hi)=some v):
 ∃u,(execOp a.eval o).run P w= .ok (.value u) w∧VR (Mu M0 ρ σ.h) w ρ σ.h v u:=by
 obtain⟨t,x0,lo0,hi0,mx,hop⟩:=Tg hc
 rw[hop]at hc;simp only[eV]at hc
 split at hc
 ·cases hc
 ·rename_i e y lo' hi' hu hx hlo hhi
  split at hc
  ·rename_i z1 hz
   split at hc
   ·cases hc
   ·rename_i hz0
    by_cases q:d.st=true
    ·rw[if_pos q]at hc;cases hc
    rw[if_neg q]at hc;cases hc
    simp only[bj]at hf
    have bnd:∀{o:Option Operand}{os:List Opd}{n:Int}(def':Int),fy gl o.toList=some os→
     bh σ def' os.head? =some n→(o=none∧n=def')∨∃oo k,o=some oo∧a.eval oo= .int k n:=by
     intro o os n def' ho hn
     cases o with
     |none=>
      simp[fy]at ho;subst ho
      simp[bh]at hn
      exact .inl ⟨rfl,hn.symm⟩
     |some oo=>
      simp only[Option.toList,fy]at ho
      split at ho
      ·rename_i y' ys' h1 h2
       cases h2;cases ho
       simp only[List.head?_cons,bh]at hn
       split at hn
       ·rename_i k n' heq
        cases hn
        exact .inr ⟨oo,k,rfl,(aw s h1).int heq⟩
       ·cases hn
      ·cases ho
    split at hf
    ·rename_i ob hev
     split at hf
     ·rename_i z2 es hob
      split at hf
      ·rename_i l r hl hr
       split at hf
       ·rename_i hb
        obtain⟨rfl,h0,h1,h2⟩:=hb
        cases hf
        have rx:=aw s hx
        rw[hev]at rx
        obtain⟨q0,obj,hq0,hobj,hsl⟩:=rx
        have hrows:obj.isRows=true∧obj.z=z2∧obj≠ .res∧km w (.arr z2 es) q0 (a.eval x0)∧(q0=none→es=[]):=by
         have kx:=s.hr.objs ob obj q0 hobj hq0
         unfold tA at hob
         rw[hobj]at hob
         cases obj<;>simp only[Option.some.injEq,Prod.mk.injEq,reduceCtorEq]at hob
         all_goals
          obtain⟨rfl,rfl⟩:=hob
          exact⟨rfl,rfl,by simp,hsl,fun e=>by subst e;exact kx.2.2⟩
        obtain⟨w1,w2,w3,w4,w5⟩:=hrows
        have hL:=bnd 0 hlo hl
        have hR:=bnd (es.length:Int) hhi hr
        obtain⟨ad,cc,ex,hcap⟩:∃ad cc,a.eval x0= .slice ad es.length cc∧es.length≤cc:=by
         cases q0 with
         |none=>
          obtain⟨ad,e⟩:=w4
          rw[w5 rfl]
          exact⟨ad,0,e,Zl _⟩
         |some b=>
          obtain⟨cur,cap,_,_,hc,_,e⟩:=w4
          exact⟨_,cap,e,hc⟩
        have e1:(Instr.sliceBounds true es.length cc (lo0.map a.eval) (hi0.map a.eval) none).run P w= .ok (l.toNat,r.toNat,cc) w:=by
         simp only[Instr.sliceBounds,Sem.run_bind,Sem.run_pure,Result.andThen_ok,if_true,Option.isSome_none]
         rcases hR with⟨rfl,rfl⟩|⟨oo,k,rfl,ho⟩
         ·rcases hL with⟨rfl,rfl⟩|⟨oo,k,rfl,ho⟩
          ·simp
          ·simp[ho,oX k _ h0 (show l≤(es.length:Int) by omega)]
         ·rcases hL with⟨rfl,rfl⟩|⟨oo',k',rfl,ho'⟩
          ·simp[ho,oX k _ (show(0:Int)≤r by omega) (show r≤(cc:Int) by omega)]
          ·simp[ho,ho',oX k _ (show(0:Int)≤r by omega) (show r≤(cc:Int) by omega),oX k' _ h0 (show l≤(r.toNat:Int) by omega)]
        have hrun:(Instr.sliceAt t (a.eval x0) (lo0.map a.eval) (hi0.map a.eval) (Option.map a.eval none)).run P w= .ok (.slice (if cc=l.toNat then ad else ad.map (·.add (l.toNat*z2))) (r.toNat-l.toNat) (cc-l.toNat)) w:=by
         rw[ex]
         simp only[Instr.sliceAt,Sem.run_bind,run_underlying hu,Result.andThen_ok,Instr.slice,Option.map_none,e1,kO e hz,Sem.run_pure]
        refine⟨_,by simp only[execOp,hop,Sem.run_bind,hrun,Result.andThen_ok,Sem.run_pure];rfl,rfl,q0,obj,hq0,hobj,w3,fun _=>⟨a.eval x0,hsl,?_⟩⟩
        rw[w2]
        cases q0 with
        |none=>
         obtain rfl:=w5 rfl
         obtain⟨ad',e⟩:=w4
         rw[e]at ex;cases ex
         have hr0:r=0:=by simp at h2;omega
         have hl0:l=0:=by omega
         subst hr0 hl0
         exact .inr ⟨⟨_,e⟩,rfl,rfl,_,rfl⟩
        |some b=>
         obtain⟨cur,cap,_,_,hc,_,e⟩:=w4
         rw[e]at ex;cases ex
         refine .inl ⟨b,_,_,e,by omega,by omega,?_⟩
         congr 1
         split
         ·rfl
         ·simp[Addr.add_mid]
       ·cases hf
      ·cases hf
     ·cases hf
    ·cases hf
  ·cases hc
 ·cases hc
theorem My (s:SR Γ M0 base σ a w ρ){o:Oper}{dm:Md}{v:V}{h':List AObj}{call:Nat→List V→Option V}{c:Call}{z bytes:Nat}{x y:Opd}(hop:o.op= .call c)
 (hc:eV P kf dm o.op=some (.append z bytes x y)) (he:cf call σ (.delW z bytes x y)=some (v,h')):jC P M0 base σ w ρ v h' (execOp a.eval o):=by
 rw[hop]at hc;simp only[eV]at hc
 split at hc
 ·split at hc
  ·(repeat' (split at hc))<;>cases hc
  ·cases hc
 ·(repeat' (split at hc))<;>cases hc
 ·split at hc
  ·(repeat' (split at hc))<;>cases hc
  ·cases hc
 ·rename_i hcal
  split at hc
  ·rename_i ox oy t u hargs htys
   split at hc
   ·rename_i e e' x0 y0 ht _ hx hy
    split at hc
    ·rename_i z0 b0 v0 hsz hby hz
     split at hc
     ·rename_i hcond
      obtain⟨hv0,rfl⟩:=hcond
      cases hc
      obtain⟨i,hi,hz',hs',hb'⟩:∃i,P.info? e=some i∧i.zero=some v0∧i.size=z∧i.bytes=bytes:=by
       unfold m4 at hz;unfold o7 at hsz;unfold NQ at hby
       cases hi:P.info? e with
       |none=>simp[hi]at hz
       |some i=>simp[hi]at hz hsz hby;exact⟨i,rfl,hz,hsz,hby⟩
      subst hs' hb'
      have hu:P.underlying t=some (.slice e):=by
       unfold gJ at ht
       split at ht<;>cases ht
       assumption
      have aq:∀{r:Value}{w':World},(Builtin.append_ #[t,t] o.type #[a.eval ox,a.eval oy]).run P w= .ok r w'→(execOp a.eval o).run P w= .ok (.value r) w':=by
       intro r w' hr
       have e2:c.args.map a.eval= #[a.eval ox,a.eval oy]:=Array.ext' (by rw[Yj,hargs];rfl)
       have e3:c.argTypes= #[t,t]:=Array.ext' htys
       simp only[execOp,hop,resolve,hcal,Sem.run_bind,Sem.run_pure,Result.andThen_ok,invoke,e3,e2,builtin,hr]
      simp only[cf]at he
      split at he
      ·rename_i q l n q' m r ex ey
       split at he
       ·rename_i z1 es hd
        split at he
        ·rename_i hb
         obtain⟨rfl,rfl,rfl,hij,hjr,rfl,_,_⟩:=hb
         cases he
         have rx:=aw s hx
         have ry:=aw s hy
         rw[ex]at rx
         rw[ey]at ry
         obtain⟨_,r0,ob0,hr0,hob0,_,hwx⟩:=rx
         obtain⟨_,r1,ob1,hr1,hob1,_,hwy⟩:=ry
         rw[hr0]at hr1;cases hr1
         rw[hob0]at hob1;cases hob1
         obtain⟨κ,d,nz⟩:=s.hr.deep
         obtain⟨ob,ho,hD,hm,k0,hcell⟩:=jP s.hr.toHR0 d hd hr0
         obtain rfl:ob=ob0:=by rw[ho]at hob0;exact Option.some.inj hob0
         have hrw:ob.isRows=true∧ob.z=i.size:=by rcases hD with rfl|rfl<;>exact⟨rfl,rfl⟩
         obtain⟨ux,sx,wx⟩:=hwx hrw.1
         obtain⟨uy,sy,wy⟩:=hwy hrw.1
         rw[hrw.2]at wx wy
         obtain⟨hz0,hes,kx⟩:=k0
         have sx':km w (.arr i.size es) r0 ux:=by rcases hD with rfl|rfl<;>exact sx
         have sy':km w (.arr i.size es) r0 uy:=by rcases hD with rfl|rfl<;>exact sy
         cases r0 with
         |none=>
          obtain rfl:es=[]:=kx
          simp at hjr;omega
         |some b=>
          obtain⟨hbase,cur,cap,hrow,h1,h2,h3,h4⟩:=kx
          obtain⟨cur1,cap1,hrow1,h11,_,_,ux1⟩:=sx'
          cases hrow.inj hrow1
          have hcc:cap1=cap:=Yi hz0 (h11.symm.trans h1)
          subst hcc
          obtain⟨cur2,cap2,hrow2,h12,_,_,uy1⟩:=sy'
          cases hrow.inj hrow2
          have hcc2:cap2=cap1:=Yi hz0 (h12.symm.trans h1)
          subst hcc2
          subst ux1 uy1
          have hvx:a.eval ox= .slice (some ⟨b,0,none⟩) n cap2:=by
           rcases wx with⟨b',n',c',e1,_,_,e2⟩|⟨⟨ad,e1⟩,_,e2,_⟩
           ·cases e1
            rw[e2]
            simp
           ·injection e1 with _ q2 _;omega
          have hvy:∃ad cc,a.eval oy= .slice ad (es.length-m) cc∧(m<es.length→ad=some ⟨b,m*i.size,none⟩):=by
           rcases wy with⟨b',n',c',e1,_,_,e2⟩|⟨⟨ad,e1⟩,_,e2,_⟩
           ·cases e1
            refine⟨_,_,e2,fun h=>if_neg (by omega)⟩
           ·injection e1 with _ q2 _;omega
          obtain⟨ad,cc,hvy,had⟩:=hvy
          have hszm:es.length*i.size≤cur.size:=by rw[h1];exact Zx _ h2
          have hmi:m*i.size≤es.length*i.size:=Zx _ hjr
          have hni:n*i.size≤m*i.size:=Zx _ (Xc hij)
          obtain⟨news,hnews⟩:∃news:List Value,news=(cur.toList.drop (m*i.size)).take ((es.length-m)*i.size):=⟨_,rfl⟩
          have hsub:(es.length-m)*i.size=es.length*i.size-m*i.size:=Nat.sub_mul _ _ _
          have hnl:news.length=(es.length-m)*i.size:=by
           have hcl:cur.toList.length=cur.size:=Yu
           rw[hnews,Zy,List.length_drop,hcl,hsub];exact Xh (Nat.sub_le_sub_right hszm _)
          have hnat:∀q,q<(es.length-m)*i.size→news[q]? =cur[m*i.size+q]? :=fun q hq=>by
           rw[hnews,Z4,if_pos hq,Y0,Xl]
          have hone:∀v∈news,v.oneCell'=true:=fun v hv=>by
           obtain⟨k,hk,rfl⟩:=Xd.1 hv
           have e1:=hnat k (by omega)
           rw[Zr hk]at e1
           obtain⟨uu,hu2⟩:∃uu,uu=m*i.size+k:=⟨_,rfl⟩
           rw[←hu2]at e1
           have hdm:=Nat.div_add_mod uu i.size
           have hmod:=Nat.mod_lt uu hz0
           have hju:uu/i.size<es.length:=(Xm hz0).2 (by omega)
           have he':=Zr hju
           have hl':=hes _ (Zg hju)
           obtain⟨v',hv',hr⟩:=h4 (uu/i.size) _ (uu%i.size) _ he' (Zr (by rw[hl'];exact hmod))
           rw[Yy,hdm,←e1]at hv'
           cases hv'
           exact hr.one
          have hfc:(Builtin.firstCells i.size (es.length-m) (a.eval oy)).run P w= .ok news.toArray w:=by
           rw[hvy]
           by_cases hm':m<es.length
           ·rw[had hm']
            have:=run_loadCells_list (P:=P) w ⟨b,m*i.size,none⟩ news (fun j v hj=>by
             have hjl:=(Zb.1 hj).1
             rw[hnat j (by omega)]at hj
             rw[Addr.add_mid,hrow.cell]
             exact hj)
            rw[hnl]at this
            simp only[Builtin.firstCells]
            exact this
           ·have e0:es.length-m=0:=by omega
            have:news=[]:=List.eq_nil_of_length_eq_zero (by rw[hnl,e0];simp)
            rw[this,e0]
            cases ad<;>simp[Builtin.firstCells,loadCells,loadCellsFrom]
          have hroom:n+(es.length-m)≤cap2:=by omega
          have hfit:n*i.size+news.length≤cur.size:=by omega
          have hr:=DH (P:=P) (ty:=o.type) (w:=w) hu (.inr ⟨e,hu⟩) hi hrow (u:=a.eval oy) (by intro w;rw[hvy];rfl) hnl hfc hone hroom hfit
          rw[←hvx]at hr
          obtain⟨cur3,hrow3,hsz3,hget3⟩:=de b news (n*i.size) w cur hrow hfit
          have bel:=bN b 0 (Nat.zero_le _) news (n*i.size) w w (Below.refl _ _)
          have hlast:(es.length-(m-n))*i.size=n*i.size+(es.length-m)*i.size:=by rw[←Z7];congr 1;omega
          obtain⟨g1,g2,g3⟩:=Kk s hd hr0 hrow hij hjr h1 hrow3 hsz3 (Nat.le_of_eq (cr b news (n*i.size) w).symm) (fun k _ hk=>co b news (n*i.size) w k hk) (fun q hq=>by rw[hget3,if_neg (by omega)]) (fun q hq1 hq2=>by
           rw[hget3,if_pos ⟨hq1,by omega⟩,hnat _ (by omega)]
           congr 1
           rw[Nat.sub_mul]
           omega)
          refine⟨_,_,_,_,aq hr, .inl rfl,⟨bel.os,bel.tape,bel.output,Nat.le_of_eq (cr b news (n*i.size) w).symm,fun k hk=>co b news (n*i.size) w k (by omega)⟩,g1,g2,?_⟩
          rw[show n+(es.length-m)=es.length-(m-n) by omega]
          exact g3
        ·cases he
       ·cases he
      ·cases he
     ·cases hc
    ·cases hc
   ·(repeat' (split at hc))<;>cases hc
   ·cases hc
  ·cases hc
 ·split at hc
  ·(repeat' (split at hc))<;>cases hc
  ·cases hc
 ·split at hc
  ·(repeat' (split at hc))<;>cases hc
  ·cases hc
 ·cases hc
end
end Gi
