/- A part. -/
import Derived.Test.YtndiampmpmbfoaaGreatGilu
set_option linter.all false
namespace Gi
open Go Go.RowKit
set_option maxHeartbeats 2000000
variable {KI:KF}
section
variable {Γ:Ctx}{P:Program}{M0:Nat->Prop}{base:Nat}{Z:St}{a:Act}{w:World}{J:List (Option Nat)}{call:Nat->List V->Option V}
def UC [KI:KF](Γ:Ctx)(P:Program)(f z:Nat):Prop:=
 ∀(c:Nat)(cs es:List (List PV))(p:List PV->Bool),(∀fc,kf fc=some c->∃fn,P.funcs[fc]? =some fn/\ fn.body.isNone=false/\ (fn.name== "runtime.NumGoroutine")=false)->(∀e∈es,∀fc,kf fc=some c->zh Γ P fc (.agg (e.map .pv)::cs.map tm) (az (p e)))->SL Γ P f z c cs es (es.filter fun e=> !p e)
def T4 :Option V->Bool
 |some (.one (.pv (.bool b)))=>b
 |_=>false
def Av {call:Nat->List V->Option V}{c:Nat}{caps:List V}:∀{es es':List (List PV)},fF call c caps es=some es'->es'=es.filter (fun e=> !T4 (call c (.agg (e.map .pv)::caps)))/\ ∀e∈es,call c (.agg (e.map .pv)::caps)=some (az (T4 (call c (.agg (e.map .pv)::caps))))
 |[],_,h=>by cases h;exact⟨rfl,fun e he=>by cases he⟩
 |e::es,es',h=>by
  simp only[fF]at h
  split at h
  ·rename_i b hb
   split at h
   ·rename_i r hr
    cases h
    obtain⟨i1,i2⟩:=Av hr
    refine⟨?_,fun x hx=> ?_⟩
    ·rw[Zd0,hb,<-i1]
     cases b<;>rfl
    ·rcases ZL.1 hx with rfl|hx
     ·rw[hb];rfl
     ·exact i2 x hx
   ·cases h
  ·cases h
structure YX [KI:KF] (Γ:Ctx) (P:Program) (kf:FuncId->Option Nat) (call:Nat->List V->Option V):Prop where
 prog:KI.pr=P
 there:∀f k,kf f=some k->∃fn,P.funcs[f]? =some fn/\ fn.body.isNone=false/\ (fn.name== "runtime.NumGoroutine")=false
 sound:∀f k xz r,kf f=some k->call k xz=some r->zh Γ P f xz r
 soundM:∀f k xz r,kf f=some k->call (k+fH) xz=some r->A8 Γ P f xz r
 soundI:∀f k xz r,kf f=some k->call (k+2*fH) xz=some r->N6 Γ P f xz r
 ins:∀f k fn t e z b,kf f=some k->P.funcs[f]? =some fn->fn.origin= "slices.Insert" ->fn.params.toList.head? =some t->jh P t=some e->rS P e=some z->Oh P e=some b->zf P f z b
 del:∀f k fn t e z,kf f=some k->P.funcs[f]? =some fn->fn.origin= "slices.DeleteFunc" ->fn.params.toList.head? =some t->jh P t=some e->rS P e=some z->UC Γ P f z
def pz (s:SR Γ M0 base Z a w J){ops:Array Oper}{o:Oper}{g:Option (Nat×Bool)}{b:Bool}(hg:JP ops o.guard=some g)(hw:bc Z g=some b):Region.wanted o (yielded ops a.tmps)=b:=by
 unfold Region.wanted
 cases bs:o.guard with
 |none=>
  rw[bs]at hg
  simp only[JP]at hg;cases hg
  simp only[bc]at hw;cases hw
  rfl
 |some jw=>
  obtain⟨j,want⟩:=jw
  rw[bs]at hg
  simp only[JP]at hg
  split at hg
  ·rename_i oj c6
   split at hg
   ·rename_i t ht
    cases hg
    simp only[bc]at hw
    have hy:∀{x:Option Bool},(match a.tmps[t]? with|some (.bool b)=>some b|_=>none)=x->yielded ops a.tmps j=x:=by
     intro x hx
     unfold yielded
     simp only[c6,Option.bind_some,ht]
     exact hx
    have r:=s.fr.eval t
    by_cases ax:t<a.tmps.size
    ·have an:a.tmps[t]? =some (a.eval (.tmp t)):=by simp[Act.eval,ax]
     split at hw
     ·rename_i b' b7
      cases hw
      rw[b7]at r
      have e:a.eval (.tmp t)= .bool b':=by simpa[VR,LR,aq]using r
      simp only[hy (show _=some b' by rw[an,e])]
      cases b'<;>cases want<;>rfl
     ·rename_i b7
      cases hw
      rw[b7]at r
      obtain⟨vs,e,hl,_⟩:=r
      simp only[hy (show _=none by rw[an,e])]
      rfl
     ·cases hw
    ·have an:a.tmps[t]? =none:=Za4 (Nat.le_of_not_lt ax)
     have c7:Z.t.getD t (.b9 [])= .b9 []:=by
      have:¬t<Z.t.length:=by rw[<-s.fr.size];exact ax
      simp[List.getD,ZW (Nat.le_of_not_lt this)]
     rw[c7]at hw
     cases hw
     simp only[hy (show _=none by rw[an])]
     rfl
   ·cases hg
  ·cases hg
def tB {o:Oper}{c:Call}{f:FuncId}(a2:o.op= .call c)(a7:c.callee= .value (.func f))(ok:YX Γ P kf call){k:Nat}(hk:kf f=some k):
 (execOp a.eval o).run P w= .ok (.enter f (c.args.map a.eval)) w:=by
 obtain⟨fn,h1,h2,h3⟩:=ok.there f k hk
 simp only[execOp,a2,resolve,a7,Act.eval,Deferred.ofValue,Sem.run_bind,Sem.run_pure,Result.andThen_ok,invoke,callFunc,run_program,h1,h3,h2]
 simp
def OC {o:Oper}{c:Call}{f:FuncId}{x:Operand}{cs:Array Value}(a2:o.op= .call c)(a7:c.callee= .value x)(hf:a.eval x= .func (.func f) #[] cs)(ok:YX Γ P kf call){k:Nat}(hk:kf f=some k):
 (execOp a.eval o).run P w= .ok (.enter f (c.args.map a.eval++cs)) w:=by
 obtain⟨fn,h1,h2,h3⟩:=ok.there f k hk
 simp only[execOp,a2,resolve,a7,hf,Deferred.ofValue,Sem.run_bind,Sem.run_pure,Result.andThen_ok,invoke,callFunc,run_program,h1,h3,h2]
 simp
def Aa {M M':Nat->Prop}{b:Nat}{h:List Y0}{r:V}{v:Value}(hf:r.flat=true)(rr:xe M b w r v):VR M' w J h (da r) v:=by
 obtain⟨ρr,_,vr⟩:=rr
 have leaf:∀{l:L}{u:Value}{M1:Nat->Prop}{ρ1:List (Option Nat)}{h1:List Y0},l.flat=true->LR M1 w ρ1 h1 l u->LR M' w J h (df l) u:=by
  intro l u M1 ρ1 h1 hl hr
  cases l with
  |pv p=>cases p<;>first|(simp[L.flat]at hl;done)|(simpa[df,LR,aq]using hr)
  |_=>simp[L.flat]at hl
 have same:∀(ls:List L)(g:List Y0),ls.all L.flat=true->thawL g ls=(ls,g):=by
  intro ls
  induction ls with
  |nil=>intro g _;rfl
  |cons l ls ih=>
   intro g hl
   simp only[Zq,Zh]at hl
   cases l with
   |pv p=>simp only[thawL,ih g hl.2]
   |_=>simp[L.flat]at hl
 have leaves:∀{ls:List L}{us:List Value}{M1:Nat->Prop}{ρ1:List (Option Nat)}{h1:List Y0},ls.all L.flat=true->tg M1 w ρ1 h1 ls us->tg M' w J h (ls.map df) us:=by
  intro ls us M1 ρ1 h1 hl hr
  refine⟨by simpa using hr.1,fun i l u hi hu=> ?_⟩
  simp only[Zp,Zj]at hi
  obtain⟨l0,h0,rfl⟩:=hi
  exact leaf ((Zt.1 hl) l0 (Zl h0)) (hr.2 i l0 u h0 hu)
 cases r with
 |one l=>
  have e:=same [l] [] (by simpa[V.flat]using hf)
  simp only[thaw,e]at vr
  exact leaf (by simpa[V.flat]using hf) vr
 |agg ls=>
  have e:=same ls [] (by simpa[V.flat]using hf)
  simp only[thaw,e]at vr
  obtain⟨cs,rfl,hl⟩:=vr
  exact⟨cs,rfl,leaves (by simpa[V.flat]using hf) hl⟩
 |b9 xs=>
  have aQ:∀(xs:List (Bool×List L))(g:List Y0),(xs.all fun x=>x.2.all L.flat)=true->thawT g xs=(xs,g):=by
   intro xs
   induction xs with
   |nil=>intro g _;rfl
   |cons x xs ih=>
    intro g hx
    simp only[Zq,Zh]at hx
    obtain⟨b,ls⟩:=x
    simp only[thawT,same ls g hx.1,ih g hx.2]
  have bt:(xs.all fun x=>x.2.all L.flat)=true:=by simpa[V.flat]using hf
  simp only[thaw,aQ xs [] bt]at vr
  obtain⟨vs,rfl,h1,h2⟩:=vr
  refine⟨vs,rfl,by simpa[da]using h1,fun i x u hx hu=> ?_⟩
  simp only[Zp,Zj]at hx
  obtain⟨x0,h0,rfl⟩:=hx
  have b1:=(Zt.1 bt) x0 (Zl h0)
  have:=h2 i x0 u h0 hu
  obtain⟨b,ls⟩:=x0
  cases b with
  |true=>obtain⟨cs,rfl,hl⟩:=this;exact⟨cs,rfl,leaves b1 hl⟩
  |false=>
   match ls,this,b1 with
   |[l],this,b1=>exact leaf (by simpa using b1) this
def k7 (s:SR Γ M0 base Z a w J){x:Operand}{y:Opd}(h:ni kf x=some y):VR (Mu M0 J Z.h) w J Z.h (y.ev Z) (a.eval x):=by
 unfold ni at h
 split at h
 ·rename_i f
  simp only[Zj]at h
  obtain⟨k,hk,rfl⟩:=h
  exact⟨f, #[],by simp[Act.eval],hk,rfl,fun i e u he=>by simp at he⟩
 ·exact aD s h
def I2 (s:SR Γ M0 base Z a w J){g:Operand->Option Opd}(hg:∀x y,g x=some y->VR (Mu M0 J Z.h) w J Z.h (y.ev Z) (a.eval x)){xs:List Operand}{ys:List Opd}(h:gP g xs=some ys):(ys.map (Opd.ev Z)).length=(xs.map a.eval).length/\
 ∀(i:Nat)(v:V)(u:Value),(ys.map (Opd.ev Z))[i]? =some v->(xs.map a.eval)[i]? =some u->VR (Mu M0 J Z.h) w J Z.h v u:=by
 refine⟨by simp[fk h],fun i v u hv hu=> ?_⟩
 simp only[Zp,Zj]at hv hu
 obtain⟨y,hy,rfl⟩:=hv
 obtain⟨x,hx,rfl⟩:=hu
 obtain⟨y',bu,hc⟩:=iN h i x hx
 rw[hy]at bu;cases bu
 exact hg x y hc
def S0 (s:SR Γ M0 base Z a w J){xs:List Operand}{ys:List Opd}(h:gP ie xs=some ys):(ys.map (Opd.ev Z)).length=(xs.map a.eval).length/\
 ∀(i:Nat)(v:V)(u:Value),(ys.map (Opd.ev Z))[i]? =some v->(xs.map a.eval)[i]? =some u->VR (Mu M0 J Z.h) w J Z.h v u:=I2 s (fun x y h=>aD s h) h
def oB (s:SR Γ M0 base Z a w J){xs:List Operand}{ys:List Opd}(h:gP (ni kf) xs=some ys):(ys.map (Opd.ev Z)).length=(xs.map a.eval).length/\
 ∀(i:Nat)(v:V)(u:Value),(ys.map (Opd.ev Z))[i]? =some v->(xs.map a.eval)[i]? =some u->VR (Mu M0 J Z.h) w J Z.h v u:=I2 s (fun x y h=>k7 s h) h
def LY {d:Md}{op:Op}{k:Nat}{xz:List Opd}{fl fz:Bool}(hc:fX P kf d op=some (.call k xz fl fz)):∃c f,op= .call c/\ c.callee= .value (.func f)/\ kf f=some k/\ gP (ni kf) c.args.toList=some xz:=by
 cases op
 case makeFunc fn first caps=>cases fn<;>simp only[fX]at hc<;>first|(cases hc;done)|((repeat' (split at hc))<;>cases hc)
 case call c=>
  simp only[fX]at hc
  split at hc
  ·rename_i f a7
   split at hc
   ·rename_i k' b2 fn h1 h2 h3
    split at hc
    ·repeat' (split at hc)
     all_goals cases hc
    split at hc
    ·repeat' (split at hc)
     all_goals cases hc
    split at hc
    ·repeat' (split at hc)
     all_goals cases hc
    split at hc
    ·cases hc
    ·cases hc
     exact⟨c,f,rfl,a7,h1,h2⟩
   ·cases hc
  all_goals first|(cases hc;done)|((repeat' (split at hc))<;>cases hc)
 all_goals simp only[fX]at hc
 all_goals first
  |(cases hc;done)
  |(simp only[Zj]at hc;obtain⟨_,_,hc⟩:=hc;cases hc;done)
  |((repeat' (split at hc))<;>cases hc)
def Q0 {d:Md}{op:Op}{k:Nat}{xz:List Opd}(hc:fX P kf d op=some (.bR k xz)):∃c f,op= .call c/\ c.callee= .value (.func f)/\ kf f=some k/\ gP (ni kf) c.args.toList=some xz:=by
 cases op
 case makeFunc fn first caps=>cases fn<;>simp only[fX]at hc<;>first|(cases hc;done)|((repeat' (split at hc))<;>cases hc)
 case call c=>
  simp only[fX]at hc
  split at hc
  ·rename_i f a7
   split at hc
   ·rename_i k' b2 fn h1 h2 h3
    split at hc
    ·repeat' (split at hc)
     all_goals cases hc
    split at hc
    ·repeat' (split at hc)
     all_goals cases hc
    split at hc
    ·repeat' (split at hc)
     all_goals cases hc
    split at hc
    ·cases hc
     exact⟨c,f,rfl,a7,h1,h2⟩
    ·cases hc
   ·cases hc
  all_goals first|(cases hc;done)|((repeat' (split at hc))<;>cases hc)
 all_goals simp only[fX]at hc
 all_goals first
  |(cases hc;done)
  |(simp only[Zj]at hc;obtain⟨_,_,hc⟩:=hc;cases hc;done)
  |((repeat' (split at hc))<;>cases hc)
def OI {d:Md}{op:Op}{k z b:Nat}{x i v:Opd}(hc:fX P kf d op=some (.insert k z b x i v)):∃c f fn t e,op= .call c/\ c.callee= .value (.func f)/\ kf f=some k/\ gP (ni kf) c.args.toList=some [x,i,v]/\
 P.funcs[f]? =some fn/\ fn.origin= "slices.Insert" /\ fn.params.toList.head? =some t/\ jh P t=some e/\ rS P e=some z/\ Oh P e=some b:=by
 cases op
 case makeFunc fn first caps=>cases fn<;>simp only[fX]at hc<;>first|(cases hc;done)|((repeat' (split at hc))<;>cases hc)
 case call c=>
  simp only[fX]at hc
  split at hc
  ·rename_i f a7
   split at hc
   ·rename_i k' b2 fn h1 h2 h3
    split at hc
    ·rename_i ao
     split at hc
     ·rename_i x' i' v' t tl ar
      split at hc
      ·rename_i e he
       split at hc
       ·rename_i z' b' hz hb
        cases hc
        exact⟨c,f,fn,t,e,rfl,a7,h1,h2,h3,by simpa using ao,by rw[ar];rfl,he,hz,hb⟩
       ·cases hc
      ·cases hc
     ·cases hc
    ·(repeat' (split at hc))<;>cases hc
   ·cases hc
  all_goals first|(cases hc;done)|((repeat' (split at hc))<;>cases hc)
 all_goals simp only[fX]at hc
 all_goals first
  |(cases hc;done)
  |(simp only[Zj]at hc;obtain⟨_,_,hc⟩:=hc;cases hc;done)
  |((repeat' (split at hc))<;>cases hc)
def Xp {xs:List Operand}{x i v:Opd}(h:gP (ni kf) xs=some [x,i,v]):∃x0 i0 v0,xs=[x0,i0,v0]/\ ni kf x0=some x/\ ni kf i0=some i/\ ni kf v0=some v:=by
 have hl:=fk h
 match xs,hl with
 |[x0,i0,v0],_=>
  obtain⟨y0,h0,c0⟩:=iN h 0 x0 rfl
  obtain⟨y1,h1,c1⟩:=iN h 1 i0 rfl
  obtain⟨y2,h2,c2⟩:=iN h 2 v0 rfl
  simp at h0 h1 h2
  subst h0 h1 h2
  exact⟨x0,i0,v0,rfl,c0,c1,c2⟩
def Xo {xs:List Operand}{x i:Opd}(h:gP (ni kf) xs=some [x,i]):∃x0 i0,xs=[x0,i0]/\ ni kf x0=some x/\ ni kf i0=some i:=by
 have hl:=fk h
 match xs,hl with
 |[x0,i0],_=>
  obtain⟨y0,h0,c0⟩:=iN h 0 x0 rfl
  obtain⟨y1,h1,c1⟩:=iN h 1 i0 rfl
  simp at h0 h1
  subst h0 h1
  exact⟨x0,i0,rfl,c0,c1⟩
def Te {d:Md}{op:Op}{k z:Nat}{x g:Opd}(hc:fX P kf d op=some (.c3 k z x g)):∃c f fn t e,op= .call c/\ c.callee= .value (.func f)/\ kf f=some k/\ gP (ni kf) c.args.toList=some [x,g]/\
 P.funcs[f]? =some fn/\ fn.origin= "slices.DeleteFunc" /\ fn.params.toList.head? =some t/\ jh P t=some e/\ rS P e=some z:=by
 cases op
 case makeFunc fn first caps=>cases fn<;>simp only[fX]at hc<;>first|(cases hc;done)|((repeat' (split at hc))<;>cases hc)
 case call c=>
  simp only[fX]at hc
  split at hc
  ·rename_i f a7
   split at hc
   ·rename_i k' b2 fn h1 h2 h3
    split at hc
    ·(repeat' (split at hc))<;>cases hc
    ·split at hc
     ·rename_i ao
      split at hc
      ·rename_i x' g' t tl ar
       split at hc
       ·rename_i e he
        split at hc
        ·rename_i z' hz
         cases hc
         exact⟨c,f,fn,t,e,rfl,a7,h1,h2,h3,by simpa using ao,by rw[ar];rfl,he,hz⟩
        ·cases hc
       ·cases hc
      ·cases hc
     ·split at hc
      ·(repeat' (split at hc))<;>cases hc
      ·split at hc<;>cases hc
   ·cases hc
  all_goals first|(cases hc;done)|((repeat' (split at hc))<;>cases hc)
 all_goals simp only[fX]at hc
 all_goals first
  |(cases hc;done)
  |(simp only[Zj]at hc;obtain⟨_,_,hc⟩:=hc;cases hc;done)
  |((repeat' (split at hc))<;>cases hc)
def Q2 {d:Md}{op:Op}{x:Opd}{xz:List Opd}(hc:fX P kf d op=some (.bm x xz)):∃c t,op= .call c/\ c.callee= .value (.tmp t)/\ x= .tmp t/\ gP ie c.args.toList=some xz:=by
 cases op
 case makeFunc fn first caps=>cases fn<;>simp only[fX]at hc<;>first|(cases hc;done)|((repeat' (split at hc))<;>cases hc)
 case call c=>
  simp only[fX]at hc
  split at hc
  ·split at hc
   ·(repeat' (split at hc))<;>cases hc
   ·cases hc
  ·rename_i t a7
   split at hc
   ·rename_i b2 h1
    cases hc
    exact⟨c,t,rfl,a7,rfl,h1⟩
   ·cases hc
  all_goals first|(cases hc;done)|((repeat' (split at hc))<;>cases hc)
 all_goals simp only[fX]at hc
 all_goals first
  |(cases hc;done)
  |(simp only[Zj]at hc;obtain⟨_,_,hc⟩:=hc;cases hc;done)
  |((repeat' (split at hc))<;>cases hc)
def KX (ok:YX Γ P kf call)(s:SR Γ M0 base Z a w J){ops:Array Oper}{o:Oper}{d:Md}{oo:Z0}{Z':St}{K:Act->World->Prop}{Q:Exit->Act->World->Prop}
 (hc:JQ P kf d ops o=some oo) (he:aG call oo Z=some Z') (hK:∀a' w' J',SR Γ M0 base Z' a' w' J'->Below base w w'->Ch (Mu M0 J Z.h) (Mu M0 J' Z'.h) w w' J J' Z.h Z'.h->K a' w'):
 if Region.wanted o (yielded ops a.tmps)then o.wp P a w K Q else K (a.put o.dst undef) w:=by
 unfold JQ at hc
 split at hc
 ·rename_i op g a2 hg
  cases hc
  unfold aG at he
  simp only at he
  split at he
  ·rename_i hw
   rw[pz s hg hw,if_pos rfl]
   have fin:∀{v:V}{u:Value}{w':World},Below w.heap.size w w'->VR (Mu M0 J Z.h) w' J Z.h v u->Z'=⟨put Z.t o.dst v,Z.h⟩->K (a.put o.dst u) w':=by
    intro v u w' hb hv e
    subst e
    obtain⟨k1,c1⟩:=s.hr.world hb.size (fun b ax=>hb.block b ax)
    exact hK _ _ J ⟨k1,(s.fr.ch c1).put o.dst hv,Γ.keep _ _ s.inv (hb.mono (Zc s.b0 s.hr.le)),s.b0⟩ (hb.mono s.hr.le) c1
   by_cases aH:op.cA=true
   ·by_cases hv:∃x xz,op= .bm x xz
    ·obtain⟨x,xz,rfl⟩:=hv
     obtain⟨c,t,ho,a7,hx,has⟩:=Q2 a2
     obtain⟨aj,ak⟩:=S0 s has
     have af:(c.args.map a.eval).toList=c.args.toList.map a.eval:=by simp
     split at he
     ·rename_i v hf
      cases he
      simp only[bG]at hf
      split at hf
      ·rename_i k caps b8
       split at hf
       ·rename_i ab aa
        split at hf
        ·rename_i r hr
         split at hf
         ·rename_i ay
          cases hf
          have rx:=aD s (show ie (.tmp t)=some (.tmp t)from rfl)
          rw[<-hx,b8]at rx
          obtain⟨f,cs,ef,hk,aK,c8⟩:=rx
          obtain⟨a6,a5⟩:=ok.sound f k _ r hk hr
          have ha:qi (fun _=>False) w ab (c.args.map a.eval).toList:=by
           rw[af]
           exact j0 aa aj ak (fun v l p u _ _ hl hv=>rH s.hr hl hv) (fun e u r=>r.weak (fun _ h=>h.elim))
          have c9:qi (fun _=>False) w (ab++caps.map tm) (c.args.map a.eval++cs).toList:=by
           refine⟨by simp only[Zu,Zr,Array.toList_append];rw[ha.1,aK];simp,fun i x u hx hu=> ?_⟩
           rw[Array.toList_append]at hu
           by_cases hi:i<ab.length
           ·rw[Ze hi]at hx
            rw[Ze (by rw[<-ha.1];exact hi)]at hu
            exact ha.2 i x u hx hu
           ·rw[Zk (by omega)]at hx
            rw[Zk (by rw[<-ha.1];omega),<-ha.1]at hu
            simp only[Zp,Zj]at hx
            obtain⟨e,he,rfl⟩:=hx
            exact((c8 _ e u he (by simpa using hu)).weak (fun _ h=>h.elim)).arg
          unfold Oper.wp
          rw[OC (a:=a) (w:=w) (call:=call) ho a7 ef ok hk,Oper.upon_enter]
          refine(a5 (fun _=>False) w _ s.inv (fun b h=>h.elim) c9).mono fun e w'⟨v,he,hb,ah⟩=> ?_
          subst he
          exact fin hb (Aa ay ah) rfl
         ·cases hf
        ·cases hf
       ·cases hf
      ·cases hf
     ·split at he
      ·rename_i a1;cases a1
      ·cases he
    by_cases bw:∃x,op= .cG x
    ·obtain⟨x,rfl⟩:=bw
     split at he
     ·rename_i v hf
      cases he
      obtain⟨u,w',q1,q2,q3⟩:=R8 s a2 hf
      unfold Oper.wp
      rw[q1,Oper.upon_value]
      exact fin q2 q3 rfl
     ·split at he
      ·rename_i a1;cases a1
      ·cases he
    by_cases bB:∃z ps,op= .bZ z ps
    ·obtain⟨z,ps,rfl⟩:=bB
     split at he
     ·rename_i v hf
      cases he
      obtain⟨u,w',q1,q2,q3⟩:=JN s a2 hf
      unfold Oper.wp
      rw[q1,Oper.upon_value]
      exact fin q2 q3 rfl
     ·split at he
      ·rename_i a1;cases a1
      ·cases he
    by_cases bC:∃z x lo hi,op= .c2 z x lo hi
    ·obtain⟨z,x,lo,hi,rfl⟩:=bC
     split at he
     ·rename_i v hf
      cases he
      obtain⟨n,u,w',J',h1,h2,h3,h4,h5,h6⟩:=O6 s a2 hf
      unfold Oper.wp
      rw[h1]
      have aI:K (a.put o.dst u) w':=hK _ _ J' ⟨h4,(s.fr.ch h5).put o.dst h6,Γ.keep _ _ s.inv (h3.mono s.b0),s.b0⟩ h3 h5
      rcases h2 with rfl|⟨rfl,rfl⟩
      ·exact aI
      ·exact aI
     ·split at he
      ·rename_i a1;cases a1
      ·cases he
    by_cases bE:∃k xz,op= .bR k xz
    ·obtain⟨k,xz,rfl⟩:=bE
     obtain⟨c,f,ho,a7,hk,has⟩:=Q0 a2
     have hex:=tB (a:=a) (w:=w) (call:=call) ho a7 ok hk
     obtain⟨aj,ak⟩:=oB s has
     have af:(c.args.map a.eval).toList=c.args.toList.map a.eval:=by simp
     unfold Oper.wp
     rw[hex,Oper.upon_enter]
     split at he
     ·rename_i v hf;cases hf
     ·split at he
      ·rename_i v h' a1
       cases he
       simp only[cz]at a1
       split at a1
       ·rename_i ab aa
        split at a1
        ·rename_i r hr
         cases a1
         obtain⟨a6,a5⟩:=ok.sound f k ab r hk hr
         obtain⟨k1,c1⟩:=s.hr.freezeVs (xz.map (Opd.ev Z))
         have ha:qi (Mu M0 J (freezeVs Z.h (xz.map (Opd.ev Z)))) w ab (c.args.map a.eval).toList:=by
          rw[af]
          exact j0 aa aj ak (fun v l p u hv hl aC aE=>ol k1 (aC.ch c1) (by rw[jX];exact aE) (lD _ l (.inr ⟨v,hv,hl⟩))) (fun e u r=>r.go c1.go)
         refine(a5 _ w _ s.inv (fun b hb=>Mu.lt k1 hb) ha).mono fun e w'⟨v,he,hb,ah⟩=> ?_
         subst he
         obtain⟨k2,c2⟩:=k1.world hb.size (fun b ax=>hb.block b ax)
         exact hK _ _ J ⟨k2,((s.fr.ch c1).ch c2).put o.dst (KL k1 hb a6 ah),Γ.keep _ _ s.inv (hb.mono (Zc s.b0 s.hr.le)),s.b0⟩ (hb.mono s.hr.le) (c1.trans c2)
        ·cases a1
       ·cases a1
      ·cases he
    by_cases bH:∃k z b x i v,op= .insert k z b x i v
    ·obtain⟨k,z,b,x,i,v,rfl⟩:=bH
     obtain⟨c,f,fn,t,e,ho,a7,hk,has,bg,ao,ar,he1,bj,ca⟩:=OI a2
     have hex:=tB (a:=a) (w:=w) (call:=call) ho a7 ok hk
     have b3:=ok.ins f k fn t e z b hk bg ao ar he1 bj ca
     obtain⟨x0,i0,v0,aR,cx,ci,cv⟩:=Xp has
     have rx:=k7 s cx
     have ri:=k7 s ci
     have rv:=k7 s cv
     have aB:c.args.map a.eval= #[a.eval x0,a.eval i0,a.eval v0]:=Array.ext' (by rw[ZZ,aR];rfl)
     unfold Oper.wp
     rw[hex,Oper.upon_enter,aB]
     split at he
     ·rename_i v1 hf;cases hf
     ·split at he
      ·rename_i v1 h1 a1
       cases he
       simp only[cz]at a1
       split at a1
       ·rename_i n o2 ex ei ev
        rw[ex]at rx
        rw[ev]at rv
        obtain⟨ad,ux⟩:∃ad,a.eval x0= .slice ad 0 0:=rx
        have ui:=ri.int ei
        split at a1
        ·rename_i z2 vs aL
         split at a1
         ·rename_i hp
          cases a1
          obtain⟨rfl,hm,rfl,au,aS⟩:=hp
          rw[ux,ui]
          refine(yH s.hr b3 (src:=none) aL hm (i:=0) (Zb9 _) (by simpa[ai]using au) (by simp only[ai,Zx,ZO];unfold maxLen;omega) (.inl ⟨rfl,ad,rfl⟩) rv).mono fun e w' q=> ?_
          obtain⟨u,J',he,hb,g1,g2,g3⟩:=q.cj s.hr
          subst he
          exact hK _ _ J' ⟨g1,(s.fr.ch g2).put o.dst g3,Γ.keep _ _ s.inv (hb.mono s.b0),s.b0⟩ hb g2
         ·cases a1
        ·rename_i z2 vs aL
         split at a1
         ·rename_i hp
          cases a1
          obtain⟨rfl,hm,rfl,au,aS⟩:=hp
          rw[ux,ui]
          refine(MK s b3 (src:=none) (by simp only[bf,aL]) hm (i:=0) (Zb9 _) (by simpa[ai]using au) (by simp only[ai,Zx,ZO];unfold maxLen;omega) (.inl ⟨rfl,ad,rfl⟩) rv).mono fun e w'⟨u,J',he,hb,g1,g2,g3⟩=> ?_
          simp only[ai,aA,List.take_nil,List.drop_nil,Zw,Zi]at g1 g2 g3
          subst he
          exact hK _ _ J' ⟨g1,(s.fr.ch g2).put o.dst g3,Γ.keep _ _ s.inv (hb.mono s.b0),s.b0⟩ hb g2
         ·cases a1
        ·cases a1
       ·rename_i o1 n o2 ex ei ev
        rw[ex]at rx
        rw[ev]at rv
        have ui:=ri.int ei
        have hn:0<=n->a.eval i0= .int .i64 ((n.toNat:Nat):Int):=fun b4=>by
         rw[ui]
         congr 1
         omega
        split at a1
        ·rename_i z2 vs aL
         split at a1
         ·rename_i z1 es aT
          split at a1
          ·rename_i hp
           cases a1
           obtain⟨rfl,rfl,aU,hm,b4,cb,au,aS⟩:=hp
           rw[hn b4]
           have hi:n.toNat<=es.length:=by omega
           refine(yH s.hr b3 (src:=some (o1,es)) aL hm hi au (by unfold maxLen;exact aS) (.inr ⟨o1,es,rfl,aT,aU,rx⟩) rv).mono fun e w' q=> ?_
           obtain⟨u,J',he,hb,g1,g2,g3⟩:=q.turn s.hr hi
           subst he
           exact hK _ _ J' ⟨g1,(s.fr.ch g2).put o.dst g3,Γ.keep _ _ s.inv (hb.mono s.b0),s.b0⟩ hb g2
          ·cases a1
         ·cases a1
        ·rename_i z2 vs aL
         split at a1
         ·rename_i z1 es aT
          split at a1
          ·rename_i hp
           cases a1
           obtain⟨rfl,rfl,aU,hm,b4,cb,au,aS⟩:=hp
           rw[hn b4]
           have hi:n.toNat<=es.length:=by omega
           refine(MK s b3 (src:=some (o1,es)) (by simp only[bf,aL]) hm hi au (by unfold maxLen;exact aS) (.inr ⟨o1,es,rfl,aT,aU,rx⟩) rv).mono fun e w'⟨u,J',he,hb,g1,g2,g3⟩=> ?_
           subst he
           exact hK _ _ J' ⟨g1,(s.fr.ch g2).put o.dst g3,Γ.keep _ _ s.inv (hb.mono s.b0),s.b0⟩ hb g2
          ·cases a1
         ·cases a1
        ·cases a1
       ·cases a1
      ·cases he
    by_cases bL:∃k z x g,op= .c3 k z x g
    ·obtain⟨k,z,x,g,rfl⟩:=bL
     obtain⟨c,f,fn,t,e,ho,a7,hk,has,bg,ao,ar,he1,bj⟩:=Te a2
     have hex:=tB (a:=a) (w:=w) (call:=call) ho a7 ok hk
     have cd:=ok.del f k fn t e z hk bg ao ar he1 bj
     have aV:∀{cc:Nat}{cs es es':List (List PV)},fF call cc (cs.map tm) es=some es'->SL Γ P f z cc cs es es':=fun{cc}{cs}{es}{es'}h=>by
      obtain⟨rfl,hp⟩:=Av h
      exact cd _ _ _ (fun e=>T4 (call cc (.agg (e.map .pv)::cs.map tm))) (fun fc bk=>ok.there _ _ bk) fun e he fc bk=>ok.sound _ _ _ _ bk (hp e he)
     obtain⟨x0,g0,aR,cx,cg⟩:=Xo has
     have rx:=k7 s cx
     have rg:=k7 s cg
     have aB:c.args.map a.eval= #[a.eval x0,a.eval g0]:=Array.ext' (by rw[ZZ,aR];rfl)
     unfold Oper.wp
     rw[hex,Oper.upon_enter,aB]
     split at he
     ·rename_i v1 hf;cases hf
     ·split at he
      ·rename_i v1 h1 a1
       cases he
       simp only[cz]at a1
       split at a1
       ·rename_i cc cs ex eg
        rw[ex]at rx
        rw[eg]at rg
        obtain⟨ad,ux⟩:∃ad,a.eval x0= .slice ad 0 0:=rx
        ·cases a1
         rw[ux]
         refine((aV (es:=[]) rfl).1 rfl _ w _ ad s.inv (show LR (Mu M0 J Z.h) w [] [] (.fn cc cs) (a.eval g0)from rg)).mono fun e w'⟨he,hb⟩=> ?_
         subst he
         exact fin hb (v:= .one .nil) ⟨ad,rfl⟩ rfl
       ·rename_i o1 cc cs ex eg
        rw[ex]at rx
        rw[eg]at rg
        split at a1
        ·rename_i z1 es aT
         split at a1
         ·rename_i hz
          subst hz
          split at a1
          ·rename_i es' hr
           cases a1
           refine(UL s (aV hr) aT rx rg).mono fun e w'⟨u,J',he,hb,g1,g2,g3⟩=> ?_
           subst he
           exact hK _ _ J' ⟨g1,(s.fr.ch g2).put o.dst g3,Γ.keep _ _ s.inv (hb.mono s.b0),s.b0⟩ hb g2
          ·cases a1
         ·cases a1
        ·cases a1
       ·cases a1
      ·cases he
    cases op<;>simp[AOp.cA]at aH
    case c3 k z x g=>exact absurd ⟨k,z,x,g,rfl⟩ bL
    case insert k z b x i v=>exact absurd ⟨k,z,b,x,i,v,rfl⟩ bH
    case bm x xz=>exact absurd ⟨x,xz,rfl⟩ hv
    case cG x=>exact absurd ⟨x,rfl⟩ bw
    case bR k xz=>exact absurd ⟨k,xz,rfl⟩ bE
    case bZ z ps=>exact absurd ⟨z,ps,rfl⟩ bB
    case c2 z x lo hi=>exact absurd ⟨z,x,lo,hi,rfl⟩ bC
    rename_i k xz fl fz
    obtain⟨c,f,ho,a7,hk,has⟩:=LY a2
    have hex:=tB (a:=a) (w:=w) (call:=call) ho a7 ok hk
    obtain⟨aj,ak⟩:=oB s has
    have af:(c.args.map a.eval).toList=c.args.toList.map a.eval:=by simp
    unfold Oper.wp
    rw[hex,Oper.upon_enter]
    split at he
    ·rename_i v hf
     cases he
     simp only[bG]at hf
     split at hf
     ·split at hf
      ·rename_i bP aW
       split at hf
       ·rename_i ab aa
        split at hf
        ·rename_i r hr
         split at hf
         ·cases hf
         ·rename_i ay
          cases hf
          obtain⟨a6,a5⟩:=ok.sound f k ab r hk hr
          cases fl with
          |true=>
           have aM:r.flat=true:=by simpa using ay
           have ha:qi (fun _=>False) w ab (c.args.map a.eval).toList:=by
            rw[af]
            exact j0 aa aj ak (fun v l p u _ _ hl hv=>rH s.hr hl hv) (fun e u r=>r.weak (fun _ h=>h.elim))
           refine(a5 (fun _=>False) w _ s.inv (fun b h=>h.elim) ha).mono fun e w'⟨v,he,hb,ah⟩=> ?_
           subst he
           exact fin hb (Aa aM ah) rfl
          |false=>
           have hm:∀v∈xz.map (Opd.ev Z),V.mut Z.h v=false:=by
            intro v hv
            simp only[Bool.false_or,ZJ]at aW
            have:=(List.any_eq_false.1 aW) v hv
            simpa using this
           have ha:qi (Mu M0 J Z.h) w ab (c.args.map a.eval).toList:=by
            rw[af]
            refine j0 aa aj ak (fun v l p u hv hl aC aE=>ol s.hr aC aE ?_) (fun _ _ r=>r)
            have:=hm v hv
            simp only[V.mut]at this
            have:=(List.any_eq_false.1 this) l hl
            simpa using this
           refine(a5 (Mu M0 J Z.h) w _ s.inv (fun b hb=>Mu.lt s.hr hb) ha).mono fun e w'⟨v,he,hb,ah⟩=> ?_
           subst he
           exact fin hb (KL s.hr hb a6 ah) rfl
        ·cases hf
       ·cases hf
      ·cases hf
     ·cases hf
    ·split at he
     ·rename_i v h' a1
      cases he
      cases fl<;>cases fz<;>simp only[cz]at a1<;>try (cases a1;done)
      split at a1
      ·rename_i ab aa
       split at a1
       ·rename_i r hr
        have ae:=Option.some.inj a1
        obtain⟨rfl,rfl⟩:v=(thaw (freezeVs Z.h (xz.map (Opd.ev Z))) r.ow).1/\ h'=(thaw (freezeVs Z.h (xz.map (Opd.ev Z))) r.ow).2:=⟨by rw[ae],by rw[ae]⟩
        obtain⟨a6,a5⟩:=ok.sound f k ab r hk hr
        obtain⟨k1,c1⟩:=s.hr.freezeVs (xz.map (Opd.ev Z))
        have ha:qi (Mu M0 J (freezeVs Z.h (xz.map (Opd.ev Z)))) w ab (c.args.map a.eval).toList:=by
         rw[af]
         exact j0 aa aj ak (fun v l p u hv hl aC aE=>ol k1 (aC.ch c1) (by rw[jX];exact aE) (lD _ l (.inr ⟨v,hv,hl⟩))) (fun e u r=>r.go c1.go)
        refine(a5 _ w _ s.inv (fun b hb=>Mu.lt k1 hb) ha).mono fun e w'⟨v,he,hb,ah⟩=> ?_
        subst he
        obtain⟨J',g1,g2,g3⟩:=G3 k1 hb (V.bh a6) ah.ow
        exact hK _ _ J' ⟨g1,(s.fr.ch (c1.trans g2)).put o.dst g3,Γ.keep _ _ s.inv (hb.mono (Zc s.b0 s.hr.le)),s.b0⟩ (hb.mono s.hr.le) (c1.trans g2)
       ·cases a1
      ·cases a1
     ·cases he
   ·have bT:op.cA=false:=by simpa using aH
    split at he
    ·rename_i v hf
     cases he
     obtain⟨u,hu,hv⟩:=B3 ok.prog s a2 bT hf
     unfold Oper.wp
     rw[hu,Oper.upon_value]
     exact fin (Below.refl _ _) hv rfl
    ·split at he
     ·rename_i v h' a1
      cases he
      have ht:kO P M0 base Z w J v h' (execOp a.eval o):=by
       cases hoo:o.op<;>rw[hoo]at a2
       case alloc t=>exact CQ s hoo (hoo▸a2) a1
       case box t x=>exact I4 s hoo (hoo▸a2) a1
       case buildSlice t n ps=>exact JO s hoo (hoo▸a2) a1
       case store t x y=>exact Nr s hoo (hoo▸a2) a1
       case makeSlice t x y=>exact ON s hoo (hoo▸a2) a1
       case slice t x lo hi mx=>exact Hc s hoo (hoo▸a2) a1
       case makeFunc fn first caps=>exact OP s hoo (hoo▸a2) a1
       case call c=>
        cases op
        case append z b x y=>exact JH s hoo (hoo▸a2) a1
        case bS b x y=>exact HQ s hoo (hoo▸a2) a1
        all_goals first
         |(simp[AOp.cA]at bT;done)
         |(cases a1;done)
         |(exfalso;simp only[fX]at a2;repeat' (split at a2))<;>cases a2
       all_goals
        exfalso
        simp only[fX]at a2
        first
         |(cases a2;done)
         |(simp only[Zj]at a2;obtain⟨_,_,rfl⟩:=a2;cases a1;done)
         |(repeat' (split at a2))<;>first|(cases a2;done)|(cases a2;cases a1;done)
      obtain⟨n,u,w',J',h1,h2,h3,h4,h5,h6⟩:=ht
      unfold Oper.wp
      rw[h1]
      have aI:K (a.put o.dst u) w':=hK _ _ J' ⟨h4,(s.fr.ch h5).put o.dst h6,Γ.keep _ _ s.inv (h3.mono s.b0),s.b0⟩ h3 h5
      rcases h2 with rfl|⟨rfl,rfl⟩
      ·exact aI
      ·exact aI
     ·cases he
  ·rename_i hw
   cases he
   rw[pz s hg hw]
   exact hK _ _ J ⟨s.hr,s.fr.put o.dst VR.undef,s.inv,s.b0⟩ (Below.refl _ _) (Ch.refl _ _ _ _)
  ·cases he
 ·cases hc
def CM {d:Md}{op:Op}{n:Nat}{x y:Opd}(a2:fX P kf d op=some (.store n x y)):∃t x0 y0,op= .store t x0 y0:=by
 cases hoo:op<;>rw[hoo]at a2
 case store t x0 y0=>exact⟨t,x0,y0,rfl⟩
 all_goals
  exfalso
  simp only[fX]at a2
  first
   |(cases a2;done)
   |((repeat' (split at a2))<;>first|contradiction|(cases a2;done)|(simp at a2;done))
def TM {d:Md}{op:Op}{g:Bool}{n:Nat}{x:Opd}(a2:fX P kf d op=some (.load g n x)):∃t x0,op= .load t x0:=by
 cases hoo:op<;>rw[hoo]at a2
 case load t x0=>exact⟨t,x0,rfl⟩
 all_goals
  exfalso
  simp only[fX]at a2
  first
   |(cases a2;done)
   |((repeat' (split at a2))<;>first|contradiction|(cases a2;done)|(simp at a2;done))
def Oa {d:Md}{op:Op}{z b:Nat}{x y:Opd}(a2:fX P kf d op=some (.append z b x y)):∃c,op= .call c:=by
 cases hoo:op<;>rw[hoo]at a2
 case call c=>exact⟨c,rfl⟩
 all_goals
  exfalso
  simp only[fX]at a2
  first
   |(cases a2;done)
   |((repeat' (split at a2))<;>first|contradiction|(cases a2;done)|(simp at a2;done))
inductive Rd:AOp->AOp->Prop where
 |same (op:AOp):Rd op op
 |bp (g:Bool) (n:Nat) (a:Opd):Rd (.load g n a) (.bp g n a)
 |bf (g:Bool) (n:Nat) (a:Opd) (r:Nat):Rd (.load g n a) (.bf g n a r)
 |bQ (n:Nat) (a v:Opd):Rd (.store n a v) (.bQ n a v)
 |storeT (n:Nat) (a v:Opd):Rd (.store n a v) (.storeT n a v)
 |storeAt (i n:Nat) (a v:Opd):Rd (.store n a v) (.storeAt i n a v)
 |bU (cs:List L):Rd (.alloc cs) (.bU cs.length)
 |ba (cs:List L):Rd (.alloc cs) (.ba cs)
 |bJ (cs:List L) (i:Nat):Rd (.alloc cs) (.bJ i cs)
 |bz (n:Nat) (x:Opd):Rd (.box x) (.bz n x)
 |bq (f:Nat) (xz:List Opd) (fl fz:Bool):Rd (.call f xz fl fz) (.bq f xz)
 |storeD (n:Nat) (a v:Opd):Rd (.store n a v) (.storeD n a v)
 |bI (z b:Nat) (x y:Opd):Rd (.append z b x y) (.bI z b x y)
 |bW (z:Nat) (ps:List Opd):Rd (.bN z ps) (.bW z ps)
 |bO (f:Nat) (xz:List Opd) (fl fz:Bool):Rd (.call f xz fl fz) (.bO f xz)
 |bn (g:Bool) (n:Nat) (a:Opd):Rd (.load g n a) (.bn g n a)
 |bV (n:Nat) (a v:Opd):Rd (.store n a v) (.bV n a v)
 |bM (z:Nat) (x i:Opd):Rd (.bF z x i) (.bM z x i)
 |bx (x:Opd):Rd (.len x) (.bx x)
 |bd (f:Nat) (x k:Opd) (fl fz:Bool):Rd (.call f [x,k] fl fz) (.bd f x k)
 |bc (f:Nat) (xz:List Opd) (fl fz:Bool):Rd (.call f xz fl fz) (.bc f xz)
 |bb (f:Nat) (xz:List Opd) (fl fz:Bool):Rd (.call f xz fl fz) (.bb f xz)
 |bR (f:Nat) (xz:List Opd) (fl fz:Bool):Rd (.call f xz fl fz) (.bR f xz)
def TU (md:Md)(dst:Option Nat)(op:AOp):Rd op (xO md dst op):=by
 cases op with
 |alloc zero=>
  cases dst with
  |none=>exact .same _
  |some t=>
   simp only[xO]
   split
   ·constructor
   ·split
    ·constructor
    ·split<;>constructor
 |store n a v=>
  cases a with
  |tmp t=>
   simp only[xO]
   (repeat' split)<;>constructor
  |_=>exact .same _
 |load g n a=>
  simp only[xO]
  split
  ·split<;>constructor
  ·split<;>constructor
 |box x=>
  cases dst with
  |none=>exact .same _
  |some t=>simp only[xO];split<;>constructor
 |append z b x y=>
  simp only[xO]
  (repeat' split)<;>constructor
 |bN z ps=>simp only[xO];split<;>constructor
 |call f xz fl fz=>
  simp only[xO]
  (repeat' split)<;>constructor
 |_=>exact .same _
def TV (zl:List Nat)(mk:Bool)(dst:Option Nat)(op:AOp):Rd op (Ql zl mk dst op):=by
 cases op with
 |load g n a=>constructor
 |store n a v=>constructor
 |bF z x i=>constructor
 |len x=>constructor
 |call f xz fl fz=>
  simp only[Ql]
  (repeat' split)<;>constructor
 |_=>exact .same _
def wv {h:List Y0}:∀(vs:List V),al h (vs.map V.bK)=al h vs
 |[]=>rfl
 |v::vs=>by
  have hl:∀l:L,l.bK.view h=l.view h:=fun l=>by cases l<;>rfl
  have cf:∀ls:List L,viewL h (ls.map L.bK)=viewL h ls:=fun ls=>by
   induction ls with
   |nil=>rfl
   |cons l ls ih=>simp only[Zv,viewL,hl,ih]
  have hv:v.bK.view h=v.view h:=by
   cases v with
   |one l=>cases l<;>rfl
   |agg ls=>simp only[V.bK,V.view,cf]
   |b9 xs=>rfl
  simp only[Zv,al,hv,wv vs]
def Nq (ok:YX Γ P kf call)(s:SR Γ M0 base Z a w J){ops:Array Oper}{o:Oper}{d:Md}{oo:Z0}{Z':St}{K:Act->World->Prop}{Q:Exit->Act->World->Prop}
 (hc:xC P kf d ops o=some oo) (he:aG call oo Z=some Z')
 (hK:∀aO a' w' J',(∀b,M0 b->aO b)->(oo.op.bY=true->aO=M0)->SR Γ aO base Z' a' w' J'->Below base w w'->Ch (Mu M0 J Z.h) (Mu aO J' Z'.h) w w' J J' Z.h Z'.h->K a' w'):
 if Region.wanted o (yielded ops a.tmps)then o.wp P a w K Q else K (a.put o.dst undef) w:=by
 unfold xC at hc
 split at hc
 ·rename_i x hx
  cases hc
  have b5:=hx
  unfold JQ at b5
  split at b5
  ·rename_i op g a2 hg
   cases b5
   have aF:∀a' w' J',SR Γ M0 base Z' a' w' J'->Below base w w'->Ch (Mu M0 J Z.h) (Mu M0 J' Z'.h) w w' J J' Z.h Z'.h->K a' w':=fun a' w' J' h1 h2 h3=>hK M0 a' w' J' (fun _ h=>h) (fun _=>rfl) h1 h2 h3
   have turn:∀{v:V}{h':List Y0},kO P M0 base Z w J v h' (execOp a.eval o)->Z'=⟨put Z.t o.dst v,h'⟩->bc Z g=some true->(if Region.wanted o (yielded ops a.tmps)then o.wp P a w K Q else K (a.put o.dst undef) w):=by
    intro v h' ht e hw
    rw[pz s hg hw,if_pos rfl]
    obtain⟨n,u,w',J',h1,h2,h3,h4,h5,h6⟩:=ht
    subst e
    unfold Oper.wp
    rw[h1]
    have aI:K (a.put o.dst u) w':=aF _ _ J' ⟨h4,(s.fr.ch h5).put o.dst h6,Γ.keep _ _ s.inv (h3.mono s.b0),s.b0⟩ h3 h5
    rcases h2 with rfl|⟨rfl,rfl⟩
    ·exact aI
    ·exact aI
   have aN:∀{v:V}{u:Value},(execOp a.eval o).run P w= .ok (.value u) w->VR (Mu M0 J Z.h) w J Z.h v u->Z'=⟨put Z.t o.dst v,Z.h⟩->bc Z g=some true->(if Region.wanted o (yielded ops a.tmps)then o.wp P a w K Q else K (a.put o.dst undef) w):=by
    intro v u h1 h2 e hw
    exact turn ⟨.value u,u,w,J,h1, .inl rfl,Below.refl _ _,s.hr,Ch.refl _ _ _ _,h2⟩ e hw
   have skip:bc Z g=some false->Z'=⟨put Z.t o.dst (.b9 []),Z.h⟩->(if Region.wanted o (yielded ops a.tmps)then o.wp P a w K Q else K (a.put o.dst undef) w):=by
    intro hw e
    subst e
    rw[pz s hg hw]
    exact aF _ _ J ⟨s.hr,s.fr.put o.dst VR.undef,s.inv,s.b0⟩ (Below.refl _ _) (Ch.refl _ _ _ _)
   have enter:∀{k xz fl fz},fX P kf d o.op=some (.call k xz fl fz)->∃(f:FuncId)(xs:Array Operand),kf f=some k/\ gP (ni kf) xs.toList=some xz/\
    ((Calls P f (xs.map a.eval) w fun e w'=>∃v,e= .returned v/\ K (a.put o.dst v) w')->bc Z g=some true->(if Region.wanted o (yielded ops a.tmps)then o.wp P a w K Q else K (a.put o.dst undef) w)):=by
    intro k xz fl fz a2
    obtain⟨c,f,ho,a7,hk,has⟩:=LY a2
    refine⟨f,c.args,hk,has,fun a5 hw=> ?_⟩
    rw[pz s hg hw,if_pos rfl]
    unfold Oper.wp
    rw[tB (a:=a) (w:=w) (call:=call) ho a7 ok hk,Oper.upon_enter]
    refine a5.mono fun e w'⟨v,he,hk⟩=> ?_
    subst he
    exact hk
   have args:∀{xz:List Opd}{xs:Array Operand}{ab:List V},gP (ni kf) xs.toList=some xz->al (lent Z.h) (xz.map (Opd.ev Z))=some ab->qi (fun _=>False) w ab (xs.map a.eval).toList:=by
    intro xz xs ab has bl
    have s':=s.bX
    obtain⟨aj,ak⟩:=oB s' has
    have e:xz.map (Opd.ev ⟨Z.t.map V.bK,lent Z.h⟩)=(xz.map (Opd.ev Z)).map V.bK:=by
     rw[List.map_map]
     exact ZS fun x _=>FC x
    rw[show(xs.map a.eval).toList=xs.toList.map a.eval by simp]
    refine j0 (h:=lent Z.h) ?_ aj ak (fun v l p u _ _ hl hv=>rH s'.hr hl hv) (fun e u r=>r.weak (fun _ h=>h.elim))
    rw[e,wv]
    exact bl
   have aX:∀{xz:List Opd}{xs:Array Operand}{ab:List V},gP (ni kf) xs.toList=some xz->al Z.h (xz.map (Opd.ev Z))=some ab->qi (fun _=>False) w ab (xs.map a.eval).toList:=by
    intro xz xs ab has bl
    obtain⟨aj,ak⟩:=oB s has
    rw[show(xs.map a.eval).toList=xs.toList.map a.eval by simp]
    exact j0 bl aj ak (fun v l p u _ _ hl hv=>rH s.hr hl hv) (fun e u r=>r.weak (fun _ h=>h.elim))
   generalize aY:(if d.zn=true then Ql d.zl (Xj kf o.op) o.dst op else xO d o.dst op)=cl at he hK
   have rd:Rd op cl:=by
    subst aY
    split
    ·exact TV _ _ _ _
    ·exact TU _ _ _
   have plain:∀{op2:AOp},op2=op->aG call ⟨o.dst,op2,g⟩ Z=some Z'->(if Region.wanted o (yielded ops a.tmps)then o.wp P a w K Q else K (a.put o.dst undef) w):=fun e h2=>by
    subst e
    exact KX ok s hx h2 aF
   clear aY
   cases rd with
   |same=>exact plain rfl he
   |bp g1 n x=>
    refine plain rfl ?_
    unfold aG at he⊢
    simp only at he⊢
    split at he
    ·split at he
     ·rename_i v hf
      simp only[bG]at hf⊢
      split at hf
      ·cases hf
      ·rw[hf];exact he
     ·rename_i hf
      split at he
      ·rename_i a1;cases a1
      ·cases he
    ·exact he
    ·cases he
   |bf g1 n x r=>
    refine plain rfl ?_
    unfold aG at he⊢
    simp only at he⊢
    split at he
    ·split at he
     ·rename_i v hf
      simp only[bG]at hf⊢
      split at hf
      ·rw[hf];exact he
      ·cases hf
     ·rename_i hf
      split at he
      ·rename_i a1;cases a1
      ·cases he
    ·exact he
    ·cases he
   |bQ n x y=>
    refine plain rfl ?_
    unfold aG at he⊢
    simp only at he⊢
    split at he
    ·split at he
     ·rename_i v hf;cases hf
     ·split at he
      ·rename_i v h' a1
       simp only[cz]at a1⊢
       split at a1
       ·simp only[bG]
        rw[a1]
        exact he
       ·cases a1
      ·cases he
    ·exact he
    ·cases he
   |storeAt i n x y=>
    refine plain rfl ?_
    unfold aG at he⊢
    simp only at he⊢
    split at he
    ·split at he
     ·rename_i v hf;cases hf
     ·split at he
      ·rename_i v h' a1
       simp only[cz]at a1⊢
       split at a1
       ·rename_i o j cs hx hi
        split at a1
        ·rename_i hp
         obtain⟨rfl,h2,h3,h4⟩:=hp
         cases a1
         simp only[bG,bD,hx,hi,h2,h3,h4,and_self,if_true]
         exact he
        ·cases a1
       ·cases a1
      ·cases he
    ·exact he
    ·cases he
   |storeT n x y=>
    unfold aG at he
    simp only at he
    split at he
    ·rename_i hw
     split at he
     ·rename_i v hf;cases hf
     ·split at he
      ·rename_i v h' a1
       cases he
       simp only[cz]at a1
       split at a1
       ·rename_i m an
        split at a1
        ·rename_i a8
         obtain⟨rfl,hlen,cm⟩:=a8
         cases a1
         obtain⟨t,x0,y0,hoo⟩:=CM a2
         exact turn (KZ s hoo a2 an hlen cm) rfl hw
        ·cases a1
       ·cases a1
      ·cases he
    ·rename_i hw
     cases he
     exact skip hw rfl
    ·cases he
   |bU cs=>
    unfold aG at he
    simp only at he
    split at he
    ·rename_i hw
     split at he
     ·rename_i v hf;cases hf
     ·split at he
      ·rename_i v h' a1
       cases he
       simp only[cz]at a1
       cases a1
       obtain⟨t,hoo⟩:∃t,o.op= .alloc t:=by
        cases hoo:o.op<;>rw[hoo]at a2
        case alloc t=>exact⟨t,rfl⟩
        all_goals
         exfalso
         simp only[fX]at a2
         first
          |(cases a2;done)
          |((repeat' (split at a2))<;>first|contradiction|(cases a2;done)|(simp at a2;done))
       exact turn (JE s hoo a2) rfl hw
      ·cases he
    ·rename_i hw
     cases he
     exact skip hw rfl
    ·cases he
   |ba cs=>
    unfold aG at he
    simp only at he
    split at he
    ·rename_i hw
     split at he
     ·rename_i v hf;cases hf
     ·split at he
      ·rename_i v h' a1
       cases he
       simp only[cz]at a1
       cases a1
       obtain⟨t,hoo⟩:∃t,o.op= .alloc t:=by
        cases hoo:o.op<;>rw[hoo]at a2
        case alloc t=>exact⟨t,rfl⟩
        all_goals
         exfalso
         simp only[fX]at a2
         first
          |(cases a2;done)
          |((repeat' (split at a2))<;>first|contradiction|(cases a2;done)|(simp at a2;done))
       exact turn (JF s hoo a2) rfl hw
      ·cases he
    ·rename_i hw
     cases he
     exact skip hw rfl
    ·cases he
   |bz n x=>
    unfold aG at he
    simp only at he
    split at he
    ·rename_i hw
     split at he
     ·rename_i v hf;cases hf
     ·split at he
      ·rename_i v h' a1
       cases he
       obtain⟨t,x0,hoo⟩:∃t x0,o.op= .box t x0:=by
        cases hoo:o.op<;>rw[hoo]at a2
        case box t x0=>exact⟨t,x0,rfl⟩
        all_goals
         exfalso
         simp only[fX]at a2
         first
          |(cases a2;done)
          |((repeat' (split at a2))<;>first|contradiction|(cases a2;done)|(simp at a2;done))
       exact turn (Og s hoo a2 (by simpa only[cz]using a1)) rfl hw
      ·cases he
    ·rename_i hw
     cases he
     exact skip hw rfl
    ·cases he
   |bJ cs i=>
    unfold aG at he
    simp only at he
    split at he
    ·rename_i hw
     split at he
     ·rename_i v hf;cases hf
     ·split at he
      ·rename_i v h' a1
       cases he
       simp only[cz]at a1
       split at a1
       ·rename_i hi
        cases a1
        obtain⟨t,hoo⟩:∃t,o.op= .alloc t:=by
         cases hoo:o.op<;>rw[hoo]at a2
         case alloc t=>exact⟨t,rfl⟩
         all_goals
          exfalso
          simp only[fX]at a2
          first
           |(cases a2;done)
           |((repeat' (split at a2))<;>first|contradiction|(cases a2;done)|(simp at a2;done))
        exact turn (HM s hi hoo a2) rfl hw
       ·cases a1
      ·cases he
    ·rename_i hw
     cases he
     exact skip hw rfl
    ·cases he
   |storeD n x y=>
    unfold aG at he
    simp only at he
    split at he
    ·rename_i hw
     split at he
     ·rename_i v hf;cases hf
     ·split at he
      ·rename_i v h' a1
       have old:bD Z.h n (x.ev Z) (y.ev Z)=some h'->v= .b9 []->(if Region.wanted o (yielded ops a.tmps)then o.wp P a w K Q else K (a.put o.dst undef) w):=fun h1 h2=>by
        subst h2
        refine plain (op2:= .store n x y) rfl ?_
        unfold aG
        simp only[hw,bG,cz,h1]
        exact he
       simp only[cz]at a1
       split at a1
       ·rename_i h2 ag
        cases a1
        unfold storeD at ag
        split at ag
        ·rename_i ob i j an
         split at ag
         ·rename_i z es hd
          split at ag
          ·rename_i e ps hei cn
           split at ag
           ·rename_i a8
            cases ag
            obtain⟨c1,c2,c3,c4,c5⟩:=a8
            obtain⟨t,x0,y0,hoo⟩:=CM a2
            cases he
            exact turn (KY s hoo a2 an hd hei cn c1 c2 c3 c4 c5) rfl hw
           ·cases ag
          ·cases ag
         ·exact old ag rfl
        ·cases ag
       ·cases a1
      ·cases he
    ·rename_i hw
     cases he
     exact skip hw rfl
    ·cases he
   |bI z b x y=>
    unfold aG at he
    simp only at he
    split at he
    ·rename_i hw
     split at he
     ·rename_i v hf;cases hf
     ·split at he
      ·rename_i v h' a1
       cases he
       obtain⟨c,hoo⟩:=Oa a2
       exact turn (HO s hoo a2 a1) rfl hw
      ·cases he
    ·rename_i hw
     cases he
     exact skip hw rfl
    ·cases he
   |bW z ps=>
    unfold aG at he
    simp only at he
    split at he
    ·rename_i hw
     split at he
     ·rename_i v hf;cases hf
     ·split at he
      ·rename_i v h' a1
       cases he
       simp only[cz]at a1
       split at a1
       ·rename_i a8
        simp only[Zh,decide_eq_true_eq,Zt,beq_iff_eq]at a8
        obtain⟨⟨⟨⟨c1,c2⟩,c3⟩,c4⟩,c5⟩:=a8
        split at a1
        ·rename_i es cp
         cases a1
         obtain⟨t,n,parts,hoo⟩:∃t n parts,o.op= .buildSlice t n parts:=by
          cases hoo:o.op<;>rw[hoo]at a2
          case buildSlice t n parts=>exact⟨t,n,parts,rfl⟩
          all_goals
           exfalso
           simp only[fX]at a2
           first
            |(cases a2;done)
            |((repeat' (split at a2))<;>first|contradiction|(cases a2;done)|(simp at a2;done))
         exact turn (JM s hoo a2 (fun y hy=>c1 _ (V'.2 ⟨y,hy,rfl⟩)) c2 (by simpa using c3) (Zt.2 c4) c5 cp) rfl hw
        ·cases a1
       ·cases a1
      ·cases he
    ·rename_i hw
     cases he
     exact skip hw rfl
    ·cases he
   |bq f xz fl fz=>
    unfold aG at he
    simp only at he
    split at he
    ·rename_i hw
     split at he
     ·rename_i v hf;cases hf
     ·split at he
      ·rename_i v h' a1
       cases he
       simp only[cz]at a1
       split at a1
       ·rename_i e0 cq
        split at a1
        ·rename_i e' ps hr
         split at a1
         ·rename_i h2 ls cr ct
          cases a1
          obtain⟨av,xs,hk,has,aw⟩:=enter a2
          obtain⟨aj,ak⟩:=oB s has
          obtain⟨hI,cB,e2,cC,cD,cE,q1,q2,q3,q4,a5⟩:=ok.soundI av f _ _ hk hr
          simp only[P3,vu cq]at q1
          cases q1
          cases q2
          rw[cr]at q3;cases q3
          rw[ct]at q4;cases q4
          refine aw ((a5 M0 base w J (xs.map a.eval) s.inv s.b0 s.hr (by rw[show(xs.map a.eval).toList=xs.toList.map a.eval by simp];exact aj) (by rw[show(xs.map a.eval).toList=xs.toList.map a.eval by simp];exact ak)).mono fun e w'⟨v,J',he,hb,g1,g2,g3⟩=>⟨v,he,?_⟩) hw
          exact aF _ _ J' ⟨g1,(s.fr.ch g2).put o.dst g3,Γ.keep _ _ s.inv (hb.mono s.b0),s.b0⟩ hb g2
         ·cases a1
        ·cases a1
       ·cases a1
      ·cases he
    ·rename_i hw
     cases he
     exact skip hw rfl
    ·cases he
   |bO f xz fl fz=>
    unfold aG at he
    simp only at he
    split at he
    ·rename_i hw
     split at he
     ·rename_i v hf;cases hf
     ·split at he
      ·rename_i v h' a1
       cases he
       simp only[cz]at a1
       split at a1
       ·rename_i ab aa
        split at a1
        ·rename_i r hr
         have ae:=Option.some.inj a1
         obtain⟨av,xs,hk,has,aw⟩:=enter a2
         obtain⟨a6,a5⟩:=ok.sound av f ab r hk hr
         by_cases aK:r.closed=true
         ·rw[if_pos aK]at ae
          obtain⟨rfl,rfl⟩:v=(thaw Z.h r).1/\ h'=(thaw Z.h r).2:=⟨by rw[ae],by rw[ae]⟩
          refine aw ((a5 (fun _=>False) w _ s.inv (fun b h=>h.elim) (aX has aa)).mono fun e w'⟨v,he,hb,ah⟩=>⟨v,he,?_⟩) hw
          obtain⟨J',g1,g2,g3⟩:=G3 s.hr hb a6 (ah.weaken aK (fun b hm=>Mu.lt s.hr hm))
          exact aF _ _ J' ⟨g1,(s.fr.ch g2).put o.dst g3,Γ.keep _ _ s.inv (hb.mono (Zc s.b0 s.hr.le)),s.b0⟩ (hb.mono s.hr.le) g2
         ·rw[if_neg aK]at ae
          obtain⟨rfl,rfl⟩:v=(thaw (freezeVs Z.h (xz.map (Opd.ev Z))) r).1/\ h'=(thaw (freezeVs Z.h (xz.map (Opd.ev Z))) r).2:=⟨by rw[ae],by rw[ae]⟩
          obtain⟨k1,c1⟩:=s.hr.freezeVs (xz.map (Opd.ev Z))
          obtain⟨aj,ak⟩:=oB s has
          have ha:qi (Mu M0 J (freezeVs Z.h (xz.map (Opd.ev Z)))) w ab (xs.map a.eval).toList:=by
           rw[show(xs.map a.eval).toList=xs.toList.map a.eval by simp]
           exact j0 aa aj ak (fun v l p u hv hl aC aE=>ol k1 (aC.ch c1) (by rw[jX];exact aE) (lD _ l (.inr ⟨v,hv,hl⟩))) (fun e u r=>r.go c1.go)
          refine aw ((a5 _ w _ s.inv (fun b hb=>Mu.lt k1 hb) ha).mono fun e w'⟨v,he,hb,ah⟩=>⟨v,he,?_⟩) hw
          obtain⟨J',g1,g2,g3⟩:=G3 k1 hb a6 ah
          exact aF _ _ J' ⟨g1,(s.fr.ch (c1.trans g2)).put o.dst g3,Γ.keep _ _ s.inv (hb.mono (Zc s.b0 s.hr.le)),s.b0⟩ (hb.mono s.hr.le) (c1.trans g2)
        ·cases a1
       ·cases a1
      ·cases he
    ·rename_i hw
     cases he
     exact skip hw rfl
    ·cases he
   |bn g1 n x=>
    unfold aG at he
    simp only at he
    split at he
    ·rename_i hw
     split at he
     ·rename_i v hf
      have old:bA Z.h g1 n (x.ev Z)=some v->(if Region.wanted o (yielded ops a.tmps)then o.wp P a w K Q else K (a.put o.dst undef) w):=fun h1=>by
       refine plain (op2:= .load g1 n x) rfl ?_
       unfold aG
       simp only[hw,bG,h1]
       exact he
      cases he
      simp only[bG]at hf
      unfold qZ at hf
      split at hf
      ·rename_i ob i j an
       split at hf
       ·rename_i z es aP
        split at hf
        ·rename_i e hei
         split at hf
         ·rename_i l bo
          split at hf
          ·rename_i a8
           obtain⟨rfl,rfl⟩:=a8
           cases hf
           obtain⟨t,x0,hoo⟩:=TM a2
           obtain⟨u,h1,h2⟩:=MR s hoo a2 an aP hei bo
           exact aN h1 h2 rfl hw
          ·cases hf
         ·cases hf
        ·cases hf
       ·exact old hf
      ·exact old hf
     ·split at he
      ·rename_i a1;cases a1
      ·cases he
    ·rename_i hw
     cases he
     exact skip hw rfl
    ·cases he
   |bV n x y=>
    unfold aG at he
    simp only at he
    split at he
    ·rename_i hw
     split at he
     ·rename_i v hf;cases hf
     ·split at he
      ·rename_i v h' a1
       have old:bD Z.h n (x.ev Z) (y.ev Z)=some h'->v= .b9 []->(if Region.wanted o (yielded ops a.tmps)then o.wp P a w K Q else K (a.put o.dst undef) w):=fun h1 h2=>by
        subst h2
        refine plain (op2:= .store n x y) rfl ?_
        unfold aG
        simp only[hw,bG,cz,h1]
        exact he
       simp only[cz]at a1
       split at a1
       ·rename_i h2 ag
        cases a1
        unfold uK at ag
        split at ag
        ·rename_i ob i j an
         split at ag
         ·rename_i z es aP
          split at ag
          ·rename_i e p hei cu
           split at ag
           ·rename_i q bo
            split at ag
            ·rename_i a8
             obtain⟨rfl,hp,hq⟩:=a8
             cases ag
             obtain⟨t,x0,y0,hoo⟩:=CM a2
             cases he
             exact turn (K2 s hoo a2 an aP hei cu bo hp hq) rfl hw
            ·cases ag
           ·cases ag
          ·cases ag
         ·exact old ag rfl
        ·exact old ag rfl
       ·cases a1
      ·cases he
    ·rename_i hw
     cases he
     exact skip hw rfl
    ·cases he
   |bM z x i=>
    unfold aG at he
    simp only at he
    split at he
    ·rename_i hw
     split at he
     ·rename_i v hf
      by_cases hx:∃ob,x.ev Z= .one (.arr ob)
      ·obtain⟨ob,an⟩:=hx
       cases he
       have aZ:=hf
       rw[RG]at aZ
       obtain⟨u,h1,h2⟩:=B3 ok.prog s.bX a2 rfl aZ
       simp only[bG,an]at hf
       split at hf
       ·split at hf
        ·simp only[aJ]at hf
         have key:∀{ob' i':Nat},v= .one (.ptr ob' i' 0)->VR (Mu M0 J Z.h) w J Z.h v u:=by
          rintro ob' i' rfl
          obtain⟨r,y,q1,q2,q3⟩:=h2
          obtain⟨y0,q4,rfl⟩:=n6 q2
          refine⟨r,y0,q1,q4,?_⟩
          cases y0<;>exact q3
         have:∃ob' i',v= .one (.ptr ob' i' 0):=by
          repeat' (split at hf)
          all_goals first
           |(cases hf;exact⟨_,_,rfl⟩)
           |cases hf
         obtain⟨ob',i',e⟩:=this
         exact aN h1 (key e) rfl hw
        ·cases hf
       ·cases hf
      ·refine plain (op2:= .bF z x i) rfl ?_
       have e:bG call Z (.bF z x i)=bG call Z (.bM z x i):=by
        simp only[bG]
        have:∀n,aJ (lent Z.h) z (x.ev Z) n=aJ Z.h z (x.ev Z) n:=fun n=>by
         cases b8:x.ev Z with
         |one l=>
          cases l with
          |arr ob=>exact absurd ⟨ob,b8⟩ hx
          |pv p=>cases p<;>rfl
          |_=>rfl
         |_=>rfl
        simp only[this]
       unfold aG
       simp only[hw,e,hf]
       exact he
     ·split at he
      ·rename_i a1;cases a1
      ·cases he
    ·rename_i hw
     cases he
     exact skip hw rfl
    ·cases he
   |bx x=>
    unfold aG at he
    simp only at he
    split at he
    ·rename_i hw
     split at he
     ·rename_i v hf
      cases he
      have aZ:=hf
      rw[U0]at aZ
      obtain⟨u,h1,h2⟩:=B3 ok.prog s.bX a2 rfl aZ
      simp only[bG]at hf
      split at hf
      ·cases hf
       exact aN h1 (by simpa[VR,LR,aq]using h2) rfl hw
      ·cases hf
     ·split at he
      ·rename_i a1;cases a1
      ·cases he
    ·rename_i hw
     cases he
     exact skip hw rfl
    ·cases he
   |bd f x k fl fz=>
    unfold aG at he
    simp only at he
    split at he
    ·rename_i hw
     split at he
     ·rename_i v hf;cases hf
     ·split at he
      ·rename_i v h' a1
       cases he
       simp only[cz]at a1
       split at a1
       ·rename_i n cw
        obtain⟨av,xs,hk,has,aw⟩:=enter a2
        obtain⟨x0,k0,aR,cx,ck⟩:∃x0 k0,xs.toList=[x0,k0]/\ ni kf x0=some x/\ ni kf k0=some k:=by
         have hl:=fk has
         match hq:xs.toList,hl with
         |[x0,k0],_=>
          rw[hq]at has
          obtain⟨y0,h0,c0⟩:=iN has 0 x0 rfl
          obtain⟨y1,h1,c1⟩:=iN has 1 k0 rfl
          simp at h0 h1
          subst h0 h1
          exact⟨x0,k0,rfl,c0,c1⟩
        have rx:=k7 s cx
        have rk:=k7 s ck
        rw[cw]at rk
        have ek:a.eval k0= .int .i64 n:=by simpa[VR,LR,aq]using rk
        have br:xs.map a.eval= #[a.eval x0, .int .i64 n]:=Array.ext' (by rw[ZZ,aR];simp[ek])
        rw[br]at aw
        have fin:(Calls P av #[a.eval x0, .int .i64 n] w fun e w'=>∃u,e= .returned u/\ Below base w w'/\ HR M0 base w' J h'/\ Ch (Mu M0 J Z.h) (Mu M0 J h') w w' J J Z.h h'/\ VR (Mu M0 J h') w' J h' v u)->(if Region.wanted o (yielded ops a.tmps)then o.wp P a w K Q else K (a.put o.dst undef) w):=fun h=>by
         refine aw (h.mono fun e w'⟨u,he,hb,g1,g2,g3⟩=>⟨u,he,?_⟩) hw
         exact aF _ _ J ⟨g1,(s.fr.ch g2).put o.dst g3,Γ.keep _ _ s.inv (hb.mono s.b0),s.b0⟩ hb g2
        unfold kP at a1
        split at a1
        ·rename_i ob c an
         rw[an]at rx
         split at a1
         ·rename_i z es aP
          split at a1
          ·rename_i b6
           split at a1
           ·rename_i l hr
            split at a1
            ·cases a1
             refine fin ?_
             have hS:=ok.soundM av f _ _ hk hr
             exact U1 s rx aP b6 hS
            ·cases a1
           ·cases a1
          ·rename_i l0 aU b6
           split at a1
           ·rename_i l' z' es' hr
            split at a1
            ·rename_i a8
             obtain⟨_,rfl⟩:=a8
             cases a1
             refine fin ?_
             have hS:=ok.soundM av f _ _ hk hr
             exact U2 s rx aP b6 (fun e=>aU (by rw[e]at b6⊢)) hS
            ·cases a1
           ·cases a1
          ·cases a1
         ·cases a1
        ·split at a1
         ·rename_i cy
          split at a1
          ·rename_i a' hl
           split at a1
           ·rename_i l outs hr
            split at a1
            ·split at a1
             ·rename_i h2 hp
              cases a1
              refine fin ?_
              have hS:=ok.soundM av f _ _ hk hr
              exact Xl s rx cy hl hS hp
             ·cases a1
            ·cases a1
           ·cases a1
          ·cases a1
         ·cases a1
       ·cases a1
      ·cases he
    ·rename_i hw
     cases he
     exact skip hw rfl
    ·cases he
   |bc f xz fl fz=>
    unfold aG at he
    simp only at he
    split at he
    ·rename_i hw
     split at he
     ·rename_i v hf;cases hf
     ·split at he
      ·rename_i v h' a1
       cases he
       simp only[cz]at a1
       split at a1
       ·rename_i ab aa
        split at a1
        ·rename_i r hr
         split at a1
         ·rename_i aK
          have ae:=Option.some.inj a1
          obtain⟨rfl,rfl⟩:v=(sw Z.h r).1/\ h'=(sw Z.h r).2:=⟨by rw[ae],by rw[ae]⟩
          obtain⟨av,xs,hk,has,aw⟩:=enter a2
          obtain⟨a6,a5⟩:=ok.sound av f ab r hk hr
          refine aw ((a5 (fun _=>False) w _ s.inv (fun b h=>h.elim) (args has aa)).mono fun e w'⟨v,he,hb,ah⟩=>⟨v,he,?_⟩) hw
          obtain⟨aO,J',g0,g1,g2,g3⟩:=R3 s.hr hb a6 aK ah
          exact hK aO _ _ J' g0 nofun ⟨g1,(s.fr.ch g2).put o.dst g3,Γ.keep _ _ s.inv (hb.mono (Zc s.b0 s.hr.le)),s.b0⟩ (hb.mono s.hr.le) g2
         ·cases a1
        ·cases a1
       ·cases a1
      ·cases he
    ·rename_i hw
     cases he
     exact skip hw rfl
    ·cases he
   |bb f xz fl fz=>
    unfold aG at he
    simp only at he
    split at he
    ·rename_i hw
     split at he
     ·rename_i v hf
      cases he
      simp only[bG]at hf
      split at hf
      ·rename_i ab aa
       split at hf
       ·rename_i r hr
        split at hf
        ·rename_i bP
         cases hf
         obtain⟨av,xs,hk,has,aw⟩:=enter a2
         obtain⟨a6,a5⟩:=ok.sound av f ab r hk hr
         refine aw ((a5 (fun _=>False) w _ s.inv (fun b h=>h.elim) (args has aa)).mono fun e w'⟨v,he,hb,ah⟩=>⟨v,he,?_⟩) hw
         obtain⟨k1,c1⟩:=s.hr.world hb.size (fun b ax=>hb.block b ax)
         exact aF _ _ J ⟨k1,(s.fr.ch c1).put o.dst (Aa bP ah),Γ.keep _ _ s.inv (hb.mono (Zc s.b0 s.hr.le)),s.b0⟩ (hb.mono s.hr.le) c1
        ·cases hf
       ·cases hf
      ·cases hf
     ·split at he
      ·rename_i a1;cases a1
      ·cases he
    ·rename_i hw
     cases he
     exact skip hw rfl
    ·cases he
   |bR f xz fl fz=>
    unfold aG at he
    simp only at he
    split at he
    ·rename_i hw
     split at he
     ·rename_i v hf;cases hf
     ·split at he
      ·rename_i v h' a1
       cases he
       simp only[cz]at a1
       split at a1
       ·rename_i ab aa
        split at a1
        ·rename_i r hr
         cases a1
         obtain⟨av,xs,hk,has,aw⟩:=enter a2
         obtain⟨a6,a5⟩:=ok.sound av f ab r hk hr
         obtain⟨k1,c1⟩:=s.hr.freezeVs (xz.map (Opd.ev Z))
         obtain⟨aj,ak⟩:=oB s has
         have ha:qi (Mu M0 J (freezeVs Z.h (xz.map (Opd.ev Z)))) w ab (xs.map a.eval).toList:=by
          rw[show(xs.map a.eval).toList=xs.toList.map a.eval by simp]
          exact j0 aa aj ak (fun v l p u hv hl aC aE=>ol k1 (aC.ch c1) (by rw[jX];exact aE) (lD _ l (.inr ⟨v,hv,hl⟩))) (fun e u r=>r.go c1.go)
         refine aw ((a5 _ w _ s.inv (fun b hb=>Mu.lt k1 hb) ha).mono fun e w'⟨v,he,hb,ah⟩=>⟨v,he,?_⟩) hw
         obtain⟨k2,c2⟩:=k1.world hb.size (fun b ax=>hb.block b ax)
         exact aF _ _ J ⟨k2,((s.fr.ch c1).ch c2).put o.dst (KL k1 hb a6 ah),Γ.keep _ _ s.inv (hb.mono (Zc s.b0 s.hr.le)),s.b0⟩ (hb.mono s.hr.le) (c1.trans c2)
        ·cases a1
       ·cases a1
      ·cases he
    ·rename_i hw
     cases he
     exact skip hw rfl
    ·cases he
  ·cases b5
 ·cases hc
end
end Gi
