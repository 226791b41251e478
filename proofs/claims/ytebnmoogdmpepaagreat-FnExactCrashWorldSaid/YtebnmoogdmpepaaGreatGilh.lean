/- Of this proof. -/
import Derived.Test.YtebnmoogdmpepaaGreatGilg
import Derived.Test.YtebnmoogdmpepaaGreatGin
set_option linter.unusedSimpArgs false
set_option linter.unusedVariables false
namespace Gi
open Go Go.RowKit
variable {KI:KF}
def QH [KF](Γ:Ctx)(P:Program)(f z c:Nat)(cs es es':List (List PV)):Prop:=
 (es=[]→∀(M:Nat→Prop)(w:World)(g:Value)(ad:Option Addr),Γ.G w→LR M w [] [] (.fn c cs) g→
  Calls P f #[.slice ad 0 0,g] w fun e w'=>e= .returned (.slice ad 0 0)∧Below w.heap.size w w')∧
 (0<z→(∀e∈es,e.length=z)→(∀e∈es',e.length=z)∧es'.length≤es.length∧
  ∀(M:Nat→Prop)(w:World)(g:Value)(b cap:Nat)(cur:Array Value),Γ.G w→Γ.B0≤b→(∀b,M b→b<w.heap.size)→LR M w [] [] (.fn c cs) g→M b→gg w b cur→cur.size=cap*z→es.length≤cap→cap≤maxLen→
   (∀(i:Nat)(e:List PV)(j:Nat)(p:PV),es[i]? =some e→e[j]? =some p→∃v,cur[i*z+j]? =some v∧ap M w p v)→
   Calls P f #[.slice (some ⟨b,0,none⟩) es.length cap,g] w fun e w'=>∃cur',e= .returned (.slice (some ⟨b,0,none⟩) es'.length cap)∧gg w' b cur'∧cur'.size=cur.size∧
    w'.os=w.os∧w'.tape=w.tape∧w'.output=w.output∧w.heap.size≤w'.heap.size∧(∀k,k<w.heap.size→k≠b→w'.heap[k]? =w.heap[k]?)∧
    ∀(i:Nat)(e:List PV)(j:Nat)(p:PV),es'[i]? =some e→e[j]? =some p→∃v,cur'[i*z+j]? =some v∧ap M w p v)
section
variable {Γ:Ctx}{P:Program}{M0:Nat→Prop}{base:Nat}{σ:St}{a:Act}{w:World}{ρ:List (Option Nat)}
theorem SC (s:SR Γ M0 base σ a w ρ){f z c:Nat}{cs es es':List (List PV)}(ok:QH Γ P f z c cs es es'){o:Nat}(ho:FE σ.h o=some (z,es)){ux ug:Value}(rx:LR (Mu M0 ρ σ.h) w ρ σ.h (.arr o) ux)(rg:LR (Mu M0 ρ σ.h) w ρ σ.h (.fn c cs) ug):
 Calls P f #[ux,ug] w fun e w'=>∃u ρ',e= .returned u∧Below base w w'∧HR M0 base w' ρ' (σ.h.set o .dead++[.arr z es'])∧
  Ch (Mu M0 ρ σ.h) (Mu M0 ρ' (σ.h.set o .dead++[.arr z es'])) w w' ρ ρ' σ.h (σ.h.set o .dead++[.arr z es'])∧
  VR (Mu M0 ρ' (σ.h.set o .dead++[.arr z es'])) w' ρ' (σ.h.set o .dead++[.arr z es']) (.one (.arr σ.h.length)) u:=by
 obtain⟨ob,ho,hd⟩:∃ob,σ.h[o]? =some ob∧ob.isArrD z es:=by
  unfold FE at ho
  split at ho
  ·rename_i h;cases ho;exact⟨_,h, .inl rfl⟩
  ·rename_i h;cases ho;exact⟨_,h, .inr rfl⟩
  ·cases ho
 obtain⟨h2,e1,e2,e3,k2,c2⟩:=s.hr.asArr ho hd
 have rx2:=LR.ch c2 rx
 obtain⟨r0,ob0,hr0,hob0,hsl⟩:=rx2
 rw[e1]at hob0;cases hob0
 have rg2:LR (Mu M0 ρ h2) w [] [] (.fn c cs) ug:=LR.ch c2 rg
 obtain⟨hz0,hes,kx⟩:=k2.objs o _ r0 e1 hr0
 obtain⟨okn,ok⟩:=ok
 obtain⟨hes',hle,ok⟩:=ok hz0 hes
 have hlt0:o<h2.length:=(Zb.1 e1).1
 have hρ:ρ.length=h2.length:=k2.len
 obtain⟨k3,c3⟩:=k2.rename (es':=es.take es'.length) e1 hr0 (fun mu=>by
  refine⟨hz0,fun e he=>hes e (Z9 he),?_⟩
  cases r0 with
  |none=>
   have e0:es=[]:=kx
   show es.take _=[]
   rw[e0,List.take_nil]
  |some b=>
   obtain⟨hbase,cur,cap,g1,g2,g3,g4,g5⟩:=kx
   exact⟨hbase,cur,cap,g1,g2,by rw[Zy];omega,g4,fun i e j p he hp=>by
    rw[Z4]at he
    split at he
    ·obtain⟨v,hv,hr⟩:=g5 i e j p he hp
     exact⟨v,hv,hr.weak mu⟩
    ·cases he⟩)
 rw[e3]at k3 c3
 have hnew:(σ.h.set o AObj.dead++[AObj.arr z (es.take es'.length)])[h2.length]? =some (AObj.arr z (es.take es'.length)):=by rw[e2,Zh (by simp)];simp
 have hrn:(ρ++[r0])[h2.length]? =some r0:=by rw[←hρ];simp
 have hset:(σ.h.set o AObj.dead++[AObj.arr z (es.take es'.length)]).set h2.length (AObj.arr z es')=σ.h.set o AObj.dead++[AObj.arr z es']:=by rw[e2,Y3 _ _ (by simp)];simp
 cases r0 with
 |none=>
  obtain rfl:es=[]:=kx
  obtain rfl:es'=[]:=by simpa using hle
  obtain⟨ad,ex⟩:∃ad,ux= .slice ad 0 0:=hsl
  subst ex
  refine(okn rfl _ w ug ad s.inv rg2).mono fun e w'⟨he,hb⟩=> ?_
  subst he
  rw[List.take_nil]at k3 c3
  obtain⟨k4,c4⟩:=k3.world hb.size (fun b hlt=>hb.block b hlt)
  refine⟨_,_,rfl,hb.mono s.hr.le,k4,c2.trans (c3.trans c4),none, .arr z [],?_,?_,ad,rfl⟩
  ·rw[←e2,←hρ];simp
  ·rw[Zh (by simp)];simp
 |some b=>
  obtain⟨hbase,cur,cap,hrow,h1,h2',h3,h4⟩:=kx
  obtain⟨cur1,cap1,hrow1,h11,h21,h31,ex⟩:=hsl
  cases hrow.inj hrow1
  have hcap:cap1=cap:=Yi hz0 (h11.symm.trans h1)
  subst hcap ex
  refine(ok _ w ug b cap1 cur s.inv (Zc s.b0 hbase) (fun b hb=>Mu.lt k2 hb) rg2 (.inr ⟨o,_,e1,rfl,hr0⟩) hrow h1 h2' h3 h4).mono fun e w'⟨cur',he,hrow',hsize,q1,q2,q3,q4,q5,q6⟩=> ?_
  subst he
  obtain⟨T,hw'⟩:=hrow'
  have hbl:=hrow.lt
  obtain⟨w1,hw1⟩:∃w1:World,w1={w with heap:=w.heap.set b (.cells cur' T (0,0)) hbl}:=⟨_,rfl⟩
  have g1:w1.heap.size=w.heap.size:=by rw[hw1];simp
  have g2:w1.heap[b]? =some (.cells cur' T (0,0)):=by rw[hw1];simp
  have g3:∀k,k≠b→w1.heap[k]? =w.heap[k]? :=fun k hk=>by rw[hw1];exact Array.getElem?_set_ne hbl (Ne.symm hk)
  obtain⟨k4,c4⟩:=k3.upd (w':=w1) (ob':= .arr z es') hnew hrn rfl ⟨rfl,by rw[Zy];omega⟩ g1.symm
   (fun k hk=>g3 k (fun e=>hk (by rw[e])))
   (fun k c e hrw=>by cases e;rw[hrw.inj hrow];exact⟨cur',⟨T,g2⟩,hsize⟩)
   (fun c5=>⟨hz0,hes',hbase,cur',cap1,⟨T,g2⟩,by rw[hsize];exact h1,Zc hle h2',h3,fun i e j p he hp=>by
    obtain⟨v,hv,hr⟩:=q6 i e j p he hp
    exact⟨v,hv,ap.go c5.go p v (ap.go c3.go p v hr)⟩⟩)
  rw[hset]at k4 c4
  obtain⟨k5,c5⟩:=k4.world (w':=w') (by omega) (fun k hk=>by
   by_cases e:k=b
   ·subst e;rw[g2];exact hw'
   ·rw[g3 k e];exact q5 k (by omega) e)
  refine⟨_,_,rfl,⟨q1,q2,q3,q4,fun k hk=>q5 k (Z3 hk s.hr.le) (by omega)⟩,k5,c2.trans (c3.trans (c4.trans c5)),some b, .arr z es',?_,?_,cur',cap1,⟨T,hw'⟩,by rw[hsize];exact h1,Zc hle h2',h3,rfl⟩
  ·rw[←e2,←hρ];simp
  ·rw[Zh (by simp)];simp
end
end Gi
