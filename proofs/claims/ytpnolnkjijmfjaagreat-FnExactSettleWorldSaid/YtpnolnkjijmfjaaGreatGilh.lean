/- Of this proof. -/
import Derived.Test.YtpnolnkjijmfjaaGreatGilg
import Derived.Test.YtpnolnkjijmfjaaGreatGin
set_option linter.all false
namespace Gi
open Go Go.RowKit
variable {KI:KF}
def aay [KF](Γ:Ctx)(P:Program)(f z c:Nat)(cs es es':List (List PV)):Prop:=
 (es=[]->∀(M:Nat->Prop)(w:World)(g:Value)(ad:Option Addr),Γ.G w->LR M w [] [] (.fn c cs) g->
  Calls P f #[.slice ad 0 0,g] w fun e w'=>e= .returned (.slice ad 0 0)/\ Below w.heap.size w w')/\
 (0<z->(∀e∈es,e.length=z)->(∀e∈es',e.length=z)/\ es'.length<=es.length/\
  ∀(M:Nat->Prop)(w:World)(g:Value)(b cap:Nat)(cur:Array Value),Γ.G w->Γ.B0<=b->(∀b,M b->b<w.heap.size)->LR M w [] [] (.fn c cs) g->M b->jb w b cur->cur.size=cap*z->es.length<=cap->cap<=maxLen->
   (∀(i:Nat)(e:List PV)(j:Nat)(p:PV),es[i]? =some e->e[j]? =some p->∃v,cur[i*z+j]? =some v/\ cG M w p v)->
   Calls P f #[.slice (some ⟨b,0,none⟩) es.length cap,g] w fun e w'=>∃cur',e= .returned (.slice (some ⟨b,0,none⟩) es'.length cap)/\ jb w' b cur'/\ cur'.size=cur.size/\
    w'.os=w.os/\ w'.tape=w.tape/\ w'.output=w.output/\ w.heap.size<=w'.heap.size/\ (∀k,k<w.heap.size->k≠b->w'.heap[k]? =w.heap[k]?)/\
    ∀(i:Nat)(e:List PV)(j:Nat)(p:PV),es'[i]? =some e->e[j]? =some p->∃v,cur'[i*z+j]? =some v/\ cG M w p v)
section
variable {Γ:Ctx}{P:Program}{M0:Nat->Prop}{base:Nat}{Z:St}{a:Act}{w:World}{J:List (Option Nat)}
def acA (s:SR Γ M0 base Z a w J){f z c:Nat}{cs es es':List (List PV)}(ok:aay Γ P f z c cs es es'){o:Nat}(ho:FW Z.h o=some (z,es)){ux ug:Value}(rx:LR (Mu M0 J Z.h) w J Z.h (.arr o) ux)(rg:LR (Mu M0 J Z.h) w J Z.h (.fn c cs) ug):
 Calls P f #[ux,ug] w fun e w'=>∃u J',e= .returned u/\ Below base w w'/\ HR M0 base w' J' (Z.h.set o .dead++[.arr z es'])/\
  Ch (Mu M0 J Z.h) (Mu M0 J' (Z.h.set o .dead++[.arr z es'])) w w' J J' Z.h (Z.h.set o .dead++[.arr z es'])/\
  VR (Mu M0 J' (Z.h.set o .dead++[.arr z es'])) w' J' (Z.h.set o .dead++[.arr z es']) (.one (.arr Z.h.length)) u:=by
 obtain⟨ob,ho,hd⟩:∃ob,Z.h[o]? =some ob/\ ob.bu z es:=by unfold FW at ho;split at ho;rename_i h;cases ho;exact⟨_,h, .inl rfl⟩;rename_i h;cases ho;exact⟨_,h, .inr rfl⟩;cases ho
 obtain⟨h2,e1,e2,e3,k2,c2⟩:=s.hr.cQ ho hd;have au:=LR.ch c2 rx;obtain⟨r0,aB,ae,a7,al⟩:=au;rw[e1]at a7;cases a7;have an:LR (Mu M0 J h2) w [] [] (.fn c cs) ug:=LR.ch c2 rg;obtain⟨ab,ao,kx⟩:=k2.objs o _ r0 e1 ae;obtain⟨av,ok⟩:=ok;obtain⟨af,hle,ok⟩:=ok ab ao;have aw:o<h2.length:=(Zb.1 e1).1;have hρ:J.length=h2.length:=k2.len;obtain⟨k3,c3⟩:=k2.rename (es':=es.take es'.length) e1 ae (fun mu=>by
  refine⟨ab,fun e he=>ao e (ZB he),?_⟩
  cases r0 with
  |none=>
   have e0:es=[]:=kx
   show es.take _=[]
   rw[e0,Qc]
  |some b=>
   obtain⟨a1,cur,cap,g1,g2,g3,g4,g5⟩:=kx
   exact⟨a1,cur,cap,g1,g2,by rw[ZI];omega,g4,fun i e j p he hp=>by
    rw[ZL]at he
    split at he
    ·obtain⟨v,hv,hr⟩:=g5 i e j p he hp
     exact⟨v,hv,hr.weak mu⟩
    ·cases he⟩)
 rw[e3]at k3 c3;have ag:(Z.h.set o Q0.dead++[Q0.arr z (es.take es'.length)])[h2.length]? =some (Q0.arr z (es.take es'.length)):=by rw[e2,Zm (by simp)];simp
 have ax:(J++[r0])[h2.length]? =some r0:=by rw[<-hρ];simp
 have ah:(Z.h.set o Q0.dead++[Q0.arr z (es.take es'.length)]).set h2.length (Q0.arr z es')=Z.h.set o Q0.dead++[Q0.arr z es']:=by rw[e2,YQ _ _ (by simp)];simp
 cases r0 with
 |none=>
  obtain rfl:es=[]:=kx;obtain rfl:es'=[]:=by simpa using hle
  obtain⟨ad,ex⟩:∃ad,ux= .slice ad 0 0:=al;subst ex;refine(av rfl _ w ug ad s.inv an).mono fun e w'⟨he,hb⟩=> ?_;subst he;rw[Qc]at k3 c3;obtain⟨k4,c4⟩:=k3.world hb.size (fun b hlt=>hb.block b hlt);refine⟨_,_,rfl,hb.mono s.hr.le,k4,c2.trans (c3.trans c4),none, .arr z [],?_,?_,ad,rfl⟩;rw[<-e2,<-hρ];simp;rw[Zm (by simp)];simp
 |some b=>
  obtain⟨a1,cur,cap,a5,h1,ai,h3,h4⟩:=kx;obtain⟨ay,a6,a8,az,aC,aD,ex⟩:=al;cases a5.inj a8;have aj:a6=cap:=Yr ab (az.symm.trans h1);subst aj ex;refine(ok _ w ug b a6 cur s.inv (Zc s.b0 a1) (fun b hb=>Mu.lt k2 hb) an (.inr ⟨o,_,e1,rfl,ae⟩) a5 h1 ai h3 h4).mono fun e w'⟨cur',he,aa,a2,q1,q2,q3,q4,q5,q6⟩=> ?_;subst he;obtain⟨T,aq⟩:=aa;have ar:=a5.lt;obtain⟨w1,ak⟩:∃w1:World,w1={w with heap:=w.heap.set b (.cells cur' T (0,0)) ar}:=⟨_,rfl⟩;have g1:w1.heap.size=w.heap.size:=by rw[ak];simp
  have g2:w1.heap[b]? =some (.cells cur' T (0,0)):=by rw[ak];simp
  have g3:∀k,k≠b->w1.heap[k]? =w.heap[k]? :=fun k hk=>by rw[ak];exact Array.getElem?_set_ne ar (Ne.symm hk)
  obtain⟨k4,c4⟩:=k3.c6 (w':=w1) (ob':= .arr z es') ag ax rfl ⟨rfl,by rw[ZI];omega⟩ g1.symm
   (fun k hk=>g3 k (fun e=>hk (by rw[e])))
   (fun k c e aA=>by cases e;rw[aA.inj a5];exact⟨cur',⟨T,g2⟩,a2⟩)
   (fun c5=>⟨ab,af,a1,cur',a6,⟨T,g2⟩,by rw[a2];exact h1,Zc hle ai,h3,fun i e j p he hp=>by
    obtain⟨v,hv,hr⟩:=q6 i e j p he hp
    exact⟨v,hv,cG.go c5.go p v (cG.go c3.go p v hr)⟩⟩)
  rw[ah]at k4 c4;obtain⟨k5,c5⟩:=k4.world (w':=w') (by omega) (fun k hk=>by
   by_cases e:k=b
   ·subst e;rw[g2];exact aq
   ·rw[g3 k e];exact q5 k (by omega) e)
  refine⟨_,_,rfl,⟨q1,q2,q3,q4,fun k hk=>q5 k (ZD hk s.hr.le) (by omega)⟩,k5,c2.trans (c3.trans (c4.trans c5)),some b, .arr z es',?_,?_,cur',a6,⟨T,aq⟩,by rw[a2];exact h1,Zc hle ai,h3,rfl⟩;rw[<-e2,<-hρ];simp;rw[Zm (by simp)];simp
end
end Gi
