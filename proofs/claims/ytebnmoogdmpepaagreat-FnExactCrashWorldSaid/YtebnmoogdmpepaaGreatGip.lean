/- Of this proof. -/
import Derived.Test.YtebnmoogdmpepaaGreatGioc
import Derived.Test.YtebnmoogdmpepaaGreatGilr
set_option linter.unusedSimpArgs false
set_option linter.unusedVariables false
namespace Gi
open Go Go.RowKit
set_option maxHeartbeats 2000000
variable {KI:KF}
section
variable {Γ:Ctx}{P:Program}{M0:Nat→Prop}{base:Nat}{σ:St}{a:Act}{w:World}{ρ:List (Option Nat)}{call:Nat→List V→Option V}
def TO [KI:KF](Γ:Ctx)(P:Program)(f z:Nat):Prop:=
 ∀(c:Nat)(cs es:List (List PV))(p:List PV→Bool),(∀fc,kf fc=some c→∃fn,P.funcs[fc]? =some fn∧fn.body.isNone=false∧(fn.name== "runtime.NumGoroutine")=false)→(∀e∈es,∀fc,kf fc=some c→xQ Γ P fc (.agg (e.map .pv)::cs.map ww) (av (p e)))→QH Γ P f z c cs es (es.filter fun e=> !p e)
def R6 :Option V→Bool
 |some (.one (.pv (.bool b)))=>b
 |_=>false
theorem yX {call:Nat→List V→Option V}{c:Nat}{caps:List V}:∀{es es':List (List PV)},gm call c caps es=some es'→es'=es.filter (fun e=> !R6 (call c (.agg (e.map .pv)::caps)))∧∀e∈es,call c (.agg (e.map .pv)::caps)=some (av (R6 (call c (.agg (e.map .pv)::caps))))
 |[],_,h=>by cases h;exact⟨rfl,fun e he=>by cases he⟩
 |e::es,es',h=>by
  simp only[gm]at h
  split at h
  ·rename_i b hb
   split at h
   ·rename_i r hr
    cases h
    obtain⟨i1,i2⟩:=yX hr
    refine⟨?_,fun x hx=> ?_⟩
    ·rw[List.filter_cons,hb,←i1]
     cases b<;>rfl
    ·rcases Yh.1 hx with rfl|hx
     ·rw[hb];rfl
     ·exact i2 x hx
   ·cases h
  ·cases h
structure CallOK [KI:KF] (Γ:Ctx) (P:Program) (kf:FuncId→Option Nat) (call:Nat→List V→Option V):Prop where
 prog:KI.pr=P
 there:∀f k,kf f=some k→∃fn,P.funcs[f]? =some fn∧fn.body.isNone=false∧(fn.name== "runtime.NumGoroutine")=false
 sound:∀f k xz r,kf f=some k→call k xz=some r→xQ Γ P f xz r
 soundM:∀f k xz r,kf f=some k→call (k+hZ) xz=some r→zQ Γ P f xz r
 ins:∀f k fn t e z b,kf f=some k→P.funcs[f]? =some fn→fn.origin= "slices.Insert" →fn.params.toList.head? =some t→gJ P t=some e→o7 P e=some z→NQ P e=some b→Ht P f z b
 del:∀f k fn t e z,kf f=some k→P.funcs[f]? =some fn→fn.origin= "slices.DeleteFunc" →fn.params.toList.head? =some t→gJ P t=some e→o7 P e=some z→TO Γ P f z
 dlr:∀f k fn t e z,kf f=some k→P.funcs[f]? =some fn→fn.origin= "slices.Delete" →fn.params.toList.head? =some t→gJ P t=some e→o7 P e=some z→QI P f z
theorem ot (s:SR Γ M0 base σ a w ρ){ops:Array Oper}{o:Oper}{g:Option (Nat×Bool)}{b:Bool}(hg:Ix ops o.guard=some g)(hw:aK σ g=some b):Region.wanted o (yielded ops a.tmps)=b:=by
 unfold Region.wanted
 cases hgd:o.guard with
 |none=>
  rw[hgd]at hg
  simp only[Ix]at hg;cases hg
  simp only[aK]at hw;cases hw
  rfl
 |some jw=>
  obtain⟨j,want⟩:=jw
  rw[hgd]at hg
  simp only[Ix]at hg
  split at hg
  ·rename_i oj hoj
   split at hg
   ·rename_i t ht
    cases hg
    simp only[aK]at hw
    have hy:∀{x:Option Bool},(match a.tmps[t]? with|some (.bool b)=>some b|_=>none)=x→yielded ops a.tmps j=x:=by
     intro x hx
     unfold yielded
     simp only[hoj,Option.bind_some,ht]
     exact hx
    have r:=s.fr.eval t
    by_cases hlt:t<a.tmps.size
    ·have hev:a.tmps[t]? =some (a.eval (.tmp t)):=by simp[Act.eval,hlt]
     split at hw
     ·rename_i b' hb'
      cases hw
      rw[hb']at r
      have e:a.eval (.tmp t)= .bool b':=by simpa[VR,LR,ap]using r
      simp only[hy (show _=some b' by rw[hev,e])]
      cases b'<;>cases want<;>rfl
     ·rename_i hb'
      cases hw
      rw[hb']at r
      obtain⟨vs,e,hl,_⟩:=r
      simp only[hy (show _=none by rw[hev,e])]
      rfl
     ·cases hw
    ·have hev:a.tmps[t]? =none:=Y7 (Nat.le_of_not_lt hlt)
     have ht0:σ.t.getD t (.tup [])= .tup []:=by
      have:¬t<σ.t.length:=by rw[←s.fr.size];exact hlt
      simp[List.getD,Yt (Nat.le_of_not_lt this)]
     rw[ht0]at hw
     cases hw
     simp only[hy (show _=none by rw[hev])]
     rfl
   ·cases hg
  ·cases hg
theorem pq {o:Oper}{c:Call}{f:FuncId}(hop:o.op= .call c)(hcal:c.callee= .value (.func f))(ok:CallOK Γ P kf call){k:Nat}(hk:kf f=some k):
 (execOp a.eval o).run P w= .ok (.enter f (c.args.map a.eval)) w:=by
 obtain⟨fn,h1,h2,h3⟩:=ok.there f k hk
 simp only[execOp,hop,resolve,hcal,Act.eval,Deferred.ofValue,Sem.run_bind,Sem.run_pure,Result.andThen_ok,invoke,callFunc,run_program,h1,h3,h2]
 simp
theorem MJ {o:Oper}{c:Call}{f:FuncId}{x:Operand}{cs:Array Value}(hop:o.op= .call c)(hcal:c.callee= .value x)(hf:a.eval x= .func (.func f) #[] cs)(ok:CallOK Γ P kf call){k:Nat}(hk:kf f=some k):
 (execOp a.eval o).run P w= .ok (.enter f (c.args.map a.eval++cs)) w:=by
 obtain⟨fn,h1,h2,h3⟩:=ok.there f k hk
 simp only[execOp,hop,resolve,hcal,hf,Deferred.ofValue,Sem.run_bind,Sem.run_pure,Result.andThen_ok,invoke,callFunc,run_program,h1,h3,h2]
 simp
theorem yA {M M':Nat→Prop}{b:Nat}{h:List AObj}{r:V}{v:Value}(hf:r.flat=true)(rr:vD M b w r v):VR M' w ρ h (dO r) v:=by
 obtain⟨ρr,_,vr⟩:=rr
 have leaf:∀{l:L}{u:Value}{M1:Nat→Prop}{ρ1:List (Option Nat)}{h1:List AObj},l.flat=true→LR M1 w ρ1 h1 l u→LR M' w ρ h (di l) u:=by
  intro l u M1 ρ1 h1 hl hr
  cases l with
  |pv p=>cases p<;>first|(simp[L.flat]at hl;done)|(simpa[di,LR,ap]using hr)
  |_=>simp[L.flat]at hl
 have same:∀(ls:List L)(g:List AObj),ls.all L.flat=true→thawL g ls=(ls,g):=by
  intro ls
  induction ls with
  |nil=>intro g _;rfl
  |cons l ls ih=>
   intro g hl
   simp only[Zq,Zm]at hl
   cases l with
   |pv p=>simp only[thawL,ih g hl.2]
   |_=>simp[L.flat]at hl
 have leaves:∀{ls:List L}{us:List Value}{M1:Nat→Prop}{ρ1:List (Option Nat)}{h1:List AObj},ls.all L.flat=true→ru M1 w ρ1 h1 ls us→ru M' w ρ h (ls.map di) us:=by
  intro ls us M1 ρ1 h1 hl hr
  refine⟨by simpa using hr.1,fun i l u hi hu=> ?_⟩
  simp only[Zp,Zj]at hi
  obtain⟨l0,h0,rfl⟩:=hi
  exact leaf ((Zw.1 hl) l0 (Zk h0)) (hr.2 i l0 u h0 hu)
 cases r with
 |one l=>
  have e:=same [l] [] (by simpa[V.flat]using hf)
  simp only[thaw,e]at vr
  exact leaf (by simpa[V.flat]using hf) vr
 |agg ls=>
  have e:=same ls [] (by simpa[V.flat]using hf)
  simp only[thaw,e]at vr
  obtain⟨cs,rfl,hl⟩:=vr
  exact⟨cs,rfl,leaves (by simpa[V.flat]using hf) hl⟩
 |tup xs=>
  have sameT:∀(xs:List (Bool×List L))(g:List AObj),(xs.all fun x=>x.2.all L.flat)=true→thawT g xs=(xs,g):=by
   intro xs
   induction xs with
   |nil=>intro g _;rfl
   |cons x xs ih=>
    intro g hx
    simp only[Zq,Zm]at hx
    obtain⟨b,ls⟩:=x
    simp only[thawT,same ls g hx.1,ih g hx.2]
  have hfx:(xs.all fun x=>x.2.all L.flat)=true:=by simpa[V.flat]using hf
  simp only[thaw,sameT xs [] hfx]at vr
  obtain⟨vs,rfl,h1,h2⟩:=vr
  refine⟨vs,rfl,by simpa[dO]using h1,fun i x u hx hu=> ?_⟩
  simp only[Zp,Zj]at hx
  obtain⟨x0,h0,rfl⟩:=hx
  have hx0:=(Zw.1 hfx) x0 (Zk h0)
  have:=h2 i x0 u h0 hu
  obtain⟨b,ls⟩:=x0
  cases b with
  |true=>obtain⟨cs,rfl,hl⟩:=this;exact⟨cs,rfl,leaves hx0 hl⟩
  |false=>
   match ls,this,hx0 with
   |[l],this,hx0=>exact leaf (by simpa using hx0) this
theorem gL (s:SR Γ M0 base σ a w ρ){x:Operand}{y:Opd}(h:kN kf x=some y):VR (Mu M0 ρ σ.h) w ρ σ.h (y.ev σ) (a.eval x):=by
 unfold kN at h
 split at h
 ·rename_i f
  simp only[Zj]at h
  obtain⟨k,hk,rfl⟩:=h
  exact⟨f, #[],by simp[Act.eval],hk,rfl,fun i e u he=>by simp at he⟩
 ·exact aw s h
theorem Hz (s:SR Γ M0 base σ a w ρ){g:Operand→Option Opd}(hg:∀x y,g x=some y→VR (Mu M0 ρ σ.h) w ρ σ.h (y.ev σ) (a.eval x)){xs:List Operand}{ys:List Opd}(h:fy g xs=some ys):(ys.map (Opd.ev σ)).length=(xs.map a.eval).length∧
 ∀(i:Nat)(v:V)(u:Value),(ys.map (Opd.ev σ))[i]? =some v→(xs.map a.eval)[i]? =some u→VR (Mu M0 ρ σ.h) w ρ σ.h v u:=by
 refine⟨by simp[eT h],fun i v u hv hu=> ?_⟩
 simp only[Zp,Zj]at hv hu
 obtain⟨y,hy,rfl⟩:=hv
 obtain⟨x,hx,rfl⟩:=hu
 obtain⟨y',hy',hc⟩:=ib h i x hx
 rw[hy]at hy';cases hy'
 exact hg x y hc
theorem QT (s:SR Γ M0 base σ a w ρ){xs:List Operand}{ys:List Opd}(h:fy gl xs=some ys):(ys.map (Opd.ev σ)).length=(xs.map a.eval).length∧
 ∀(i:Nat)(v:V)(u:Value),(ys.map (Opd.ev σ))[i]? =some v→(xs.map a.eval)[i]? =some u→VR (Mu M0 ρ σ.h) w ρ σ.h v u:=Hz s (fun x y h=>aw s h) h
theorem ph (s:SR Γ M0 base σ a w ρ){xs:List Operand}{ys:List Opd}(h:fy (kN kf) xs=some ys):(ys.map (Opd.ev σ)).length=(xs.map a.eval).length∧
 ∀(i:Nat)(v:V)(u:Value),(ys.map (Opd.ev σ))[i]? =some v→(xs.map a.eval)[i]? =some u→VR (Mu M0 ρ σ.h) w ρ σ.h v u:=Hz s (fun x y h=>gL s h) h
theorem Ke {d:Md}{op:Op}{k:Nat}{xz:List Opd}{fl fz:Bool}(hc:eV P kf d op=some (.call k xz fl fz)):∃c f,op= .call c∧c.callee= .value (.func f)∧kf f=some k∧fy (kN kf) c.args.toList=some xz:=by
 cases op
 case makeFunc fn first caps=>cases fn<;>simp only[eV]at hc<;>first|(cases hc;done)|((repeat' (split at hc))<;>cases hc)
 case call c=>
  simp only[eV]at hc
  split at hc
  ·rename_i f hcal
   split at hc
   ·rename_i k' as' fn h1 h2 h3
    split at hc
    ·repeat' (split at hc)
     all_goals cases hc
    split at hc
    ·repeat' (split at hc)
     all_goals cases hc
    split at hc
    ·repeat' (split at hc)
     all_goals cases hc
    split at hc
    ·cases hc
    ·cases hc
     exact⟨c,f,rfl,hcal,h1,h2⟩
   ·cases hc
  all_goals first|(cases hc;done)|((repeat' (split at hc))<;>cases hc)
 all_goals simp only[eV]at hc
 all_goals first
  |(cases hc;done)
  |(simp only[Zj]at hc;obtain⟨_,_,hc⟩:=hc;cases hc;done)
  |((repeat' (split at hc))<;>cases hc)
theorem O8 {d:Md}{op:Op}{k:Nat}{xz:List Opd}(hc:eV P kf d op=some (.callD k xz)):∃c f,op= .call c∧c.callee= .value (.func f)∧kf f=some k∧fy (kN kf) c.args.toList=some xz:=by
 cases op
 case makeFunc fn first caps=>cases fn<;>simp only[eV]at hc<;>first|(cases hc;done)|((repeat' (split at hc))<;>cases hc)
 case call c=>
  simp only[eV]at hc
  split at hc
  ·rename_i f hcal
   split at hc
   ·rename_i k' as' fn h1 h2 h3
    split at hc
    ·repeat' (split at hc)
     all_goals cases hc
    split at hc
    ·repeat' (split at hc)
     all_goals cases hc
    split at hc
    ·repeat' (split at hc)
     all_goals cases hc
    split at hc
    ·cases hc
     exact⟨c,f,rfl,hcal,h1,h2⟩
    ·cases hc
   ·cases hc
  all_goals first|(cases hc;done)|((repeat' (split at hc))<;>cases hc)
 all_goals simp only[eV]at hc
 all_goals first
  |(cases hc;done)
  |(simp only[Zj]at hc;obtain⟨_,_,hc⟩:=hc;cases hc;done)
  |((repeat' (split at hc))<;>cases hc)
theorem MN {d:Md}{op:Op}{k z b:Nat}{x i v:Opd}(hc:eV P kf d op=some (.insert k z b x i v)):∃c f fn t e,op= .call c∧c.callee= .value (.func f)∧kf f=some k∧fy (kN kf) c.args.toList=some [x,i,v]∧
 P.funcs[f]? =some fn∧fn.origin= "slices.Insert" ∧fn.params.toList.head? =some t∧gJ P t=some e∧o7 P e=some z∧NQ P e=some b:=by
 cases op
 case makeFunc fn first caps=>cases fn<;>simp only[eV]at hc<;>first|(cases hc;done)|((repeat' (split at hc))<;>cases hc)
 case call c=>
  simp only[eV]at hc
  split at hc
  ·rename_i f hcal
   split at hc
   ·rename_i k' as' fn h1 h2 h3
    split at hc
    ·rename_i horg
     split at hc
     ·rename_i x' i' v' t tl hpar
      split at hc
      ·rename_i e he
       split at hc
       ·rename_i z' b' hz hb
        cases hc
        exact⟨c,f,fn,t,e,rfl,hcal,h1,h2,h3,by simpa using horg,by rw[hpar];rfl,he,hz,hb⟩
       ·cases hc
      ·cases hc
     ·cases hc
    ·(repeat' (split at hc))<;>cases hc
   ·cases hc
  all_goals first|(cases hc;done)|((repeat' (split at hc))<;>cases hc)
 all_goals simp only[eV]at hc
 all_goals first
  |(cases hc;done)
  |(simp only[Zj]at hc;obtain⟨_,_,hc⟩:=hc;cases hc;done)
  |((repeat' (split at hc))<;>cases hc)
theorem TE {xs:List Operand}{x i v:Opd}(h:fy (kN kf) xs=some [x,i,v]):∃x0 i0 v0,xs=[x0,i0,v0]∧kN kf x0=some x∧kN kf i0=some i∧kN kf v0=some v:=by
 have hl:=eT h
 match xs,hl with
 |[x0,i0,v0],_=>
  obtain⟨y0,h0,c0⟩:=ib h 0 x0 rfl
  obtain⟨y1,h1,c1⟩:=ib h 1 i0 rfl
  obtain⟨y2,h2,c2⟩:=ib h 2 v0 rfl
  simp at h0 h1 h2
  subst h0 h1 h2
  exact⟨x0,i0,v0,rfl,c0,c1,c2⟩
theorem UR {xs:List Operand}{x i:Opd}(h:fy (kN kf) xs=some [x,i]):∃x0 i0,xs=[x0,i0]∧kN kf x0=some x∧kN kf i0=some i:=by
 have hl:=eT h
 match xs,hl with
 |[x0,i0],_=>
  obtain⟨y0,h0,c0⟩:=ib h 0 x0 rfl
  obtain⟨y1,h1,c1⟩:=ib h 1 i0 rfl
  simp at h0 h1
  subst h0 h1
  exact⟨x0,i0,rfl,c0,c1⟩
theorem Q8 {d:Md}{op:Op}{k z:Nat}{x g:Opd}(hc:eV P kf d op=some (.delF k z x g)):∃c f fn t e,op= .call c∧c.callee= .value (.func f)∧kf f=some k∧fy (kN kf) c.args.toList=some [x,g]∧
 P.funcs[f]? =some fn∧fn.origin= "slices.DeleteFunc" ∧fn.params.toList.head? =some t∧gJ P t=some e∧o7 P e=some z:=by
 cases op
 case makeFunc fn first caps=>cases fn<;>simp only[eV]at hc<;>first|(cases hc;done)|((repeat' (split at hc))<;>cases hc)
 case call c=>
  simp only[eV]at hc
  split at hc
  ·rename_i f hcal
   split at hc
   ·rename_i k' as' fn h1 h2 h3
    split at hc
    ·(repeat' (split at hc))<;>cases hc
    ·split at hc
     ·rename_i horg
      split at hc
      ·rename_i x' g' t tl hpar
       split at hc
       ·rename_i e he
        split at hc
        ·rename_i z' hz
         cases hc
         exact⟨c,f,fn,t,e,rfl,hcal,h1,h2,h3,by simpa using horg,by rw[hpar];rfl,he,hz⟩
        ·cases hc
       ·cases hc
      ·cases hc
     ·split at hc
      ·(repeat' (split at hc))<;>cases hc
      ·split at hc<;>cases hc
   ·cases hc
  all_goals first|(cases hc;done)|((repeat' (split at hc))<;>cases hc)
 all_goals simp only[eV]at hc
 all_goals first
  |(cases hc;done)
  |(simp only[Zj]at hc;obtain⟨_,_,hc⟩:=hc;cases hc;done)
  |((repeat' (split at hc))<;>cases hc)
theorem Q9 {d:Md}{op:Op}{k z:Nat}{x i j:Opd}(hc:eV P kf d op=some (.delR k z x i j)):∃c f fn t e,op= .call c∧c.callee= .value (.func f)∧kf f=some k∧fy (kN kf) c.args.toList=some [x,i,j]∧
 P.funcs[f]? =some fn∧fn.origin= "slices.Delete" ∧fn.params.toList.head? =some t∧gJ P t=some e∧o7 P e=some z:=by
 cases op
 case makeFunc fn first caps=>cases fn<;>simp only[eV]at hc<;>first|(cases hc;done)|((repeat' (split at hc))<;>cases hc)
 case call c=>
  simp only[eV]at hc
  split at hc
  ·rename_i f hcal
   split at hc
   ·rename_i k' as' fn h1 h2 h3
    split at hc
    ·(repeat' (split at hc))<;>cases hc
    split at hc
    ·(repeat' (split at hc))<;>cases hc
    ·split at hc
     ·rename_i horg
      split at hc
      ·rename_i x' i' j' t tl hpar
       split at hc
       ·rename_i e he
        split at hc
        ·rename_i z' hz
         cases hc
         exact⟨c,f,fn,t,e,rfl,hcal,h1,h2,h3,by simpa using horg,by rw[hpar];rfl,he,hz⟩
        ·cases hc
       ·cases hc
      ·cases hc
     ·split at hc<;>cases hc
   ·cases hc
  all_goals first|(cases hc;done)|((repeat' (split at hc))<;>cases hc)
 all_goals simp only[eV]at hc
 all_goals first
  |(cases hc;done)
  |(simp only[Zj]at hc;obtain⟨_,_,hc⟩:=hc;cases hc;done)
  |((repeat' (split at hc))<;>cases hc)
theorem Pa {d:Md}{op:Op}{x:Opd}{xz:List Opd}(hc:eV P kf d op=some (.callV x xz)):∃c t,op= .call c∧c.callee= .value (.tmp t)∧x= .tmp t∧fy gl c.args.toList=some xz:=by
 cases op
 case makeFunc fn first caps=>cases fn<;>simp only[eV]at hc<;>first|(cases hc;done)|((repeat' (split at hc))<;>cases hc)
 case call c=>
  simp only[eV]at hc
  split at hc
  ·split at hc
   ·(repeat' (split at hc))<;>cases hc
   ·cases hc
  ·rename_i t hcal
   split at hc
   ·rename_i as' h1
    cases hc
    exact⟨c,t,rfl,hcal,rfl,h1⟩
   ·cases hc
  all_goals first|(cases hc;done)|((repeat' (split at hc))<;>cases hc)
 all_goals simp only[eV]at hc
 all_goals first
  |(cases hc;done)
  |(simp only[Zj]at hc;obtain⟨_,_,hc⟩:=hc;cases hc;done)
  |((repeat' (split at hc))<;>cases hc)
theorem Jm (ok:CallOK Γ P kf call)(s:SR Γ M0 base σ a w ρ){ops:Array Oper}{o:Oper}{d:Md}{oo:AOper}{σ':St}{K:Act→World→Prop}{Q:Exit→Act→World→Prop}
 (hc:Iy P kf d ops o=some oo) (he:az call oo σ=some σ') (hK:∀a' w' ρ',SR Γ M0 base σ' a' w' ρ'→Below base w w'→Ch (Mu M0 ρ σ.h) (Mu M0 ρ' σ'.h) w w' ρ ρ' σ.h σ'.h→K a' w'):
 if Region.wanted o (yielded ops a.tmps)then o.wp P a w K Q else K (a.put o.dst undef) w:=by
 unfold Iy at hc
 split at hc
 ·rename_i op g hop hg
  cases hc
  unfold az at he
  simp only at he
  split at he
  ·rename_i hw
   rw[ot s hg hw,if_pos rfl]
   have fin:∀{v:V}{u:Value}{w':World},Below w.heap.size w w'→VR (Mu M0 ρ σ.h) w' ρ σ.h v u→σ'=⟨put σ.t o.dst v,σ.h⟩→K (a.put o.dst u) w':=by
    intro v u w' hb hv e
    subst e
    obtain⟨k1,c1⟩:=s.hr.world hb.size (fun b hlt=>hb.block b hlt)
    exact hK _ _ ρ ⟨k1,(s.fr.ch c1).put o.dst hv,Γ.keep _ _ s.inv (hb.mono (Zc s.b0 s.hr.le)),s.b0⟩ (hb.mono s.hr.le) c1
   by_cases hcall:op.isCall=true
   ·by_cases hv:∃x xz,op= .callV x xz
    ·obtain⟨x,xz,rfl⟩:=hv
     obtain⟨c,t,ho,hcal,hx,has⟩:=Pa hop
     obtain⟨hal,har⟩:=QT s has
     have hvals:(c.args.map a.eval).toList=c.args.toList.map a.eval:=by simp
     split at he
     ·rename_i v hf
      cases he
      simp only[bj]at hf
      split at hf
      ·rename_i k caps hxe
       split at hf
       ·rename_i avs havs
        split at hf
        ·rename_i r hr
         split at hf
         ·rename_i hflat
          cases hf
          have rx:=aw s (show gl (.tmp t)=some (.tmp t)from rfl)
          rw[←hx,hxe]at rx
          obtain⟨f,cs,ef,hk,hcl,hcr⟩:=rx
          obtain⟨hclean,hcalls⟩:=ok.sound f k _ r hk hr
          have ha:qz (fun _=>False) w avs (c.args.map a.eval).toList:=by
           rw[hvals]
           exact jq havs hal har (fun v l p u _ _ hl hv=>qu s.hr hl hv) (fun e u r=>r.weak (fun _ h=>h.elim))
          have ha2:qz (fun _=>False) w (avs++caps.map ww) (c.args.map a.eval++cs).toList:=by
           refine⟨by simp only[Zu,Zs,Array.toList_append];rw[ha.1,hcl];simp,fun i x u hx hu=> ?_⟩
           rw[Array.toList_append]at hu
           by_cases hi:i<avs.length
           ·rw[Ze hi]at hx
            rw[Ze (by rw[←ha.1];exact hi)]at hu
            exact ha.2 i x u hx hu
           ·rw[Zh (by omega)]at hx
            rw[Zh (by rw[←ha.1];omega),←ha.1]at hu
            simp only[Zp,Zj]at hx
            obtain⟨e,he,rfl⟩:=hx
            exact((hcr _ e u he (by simpa using hu)).weak (fun _ h=>h.elim)).arg
          unfold Oper.wp
          rw[MJ (a:=a) (w:=w) (call:=call) ho hcal ef ok hk,Oper.upon_enter]
          refine(hcalls (fun _=>False) w _ s.inv (fun b h=>h.elim) ha2).mono fun e w'⟨v,he,hb,hrr⟩=> ?_
          subst he
          exact fin hb (yA hflat hrr) rfl
         ·cases hf
        ·cases hf
       ·cases hf
      ·cases hf
     ·split at he
      ·rename_i hee;cases hee
      ·cases he
    by_cases hv2:∃x,op= .s2b x
    ·obtain⟨x,rfl⟩:=hv2
     split at he
     ·rename_i v hf
      cases he
      obtain⟨u,w',q1,q2,q3⟩:=Qc s hop hf
      unfold Oper.wp
      rw[q1,Oper.upon_value]
      exact fin q2 q3 rfl
     ·split at he
      ·rename_i hee;cases hee
      ·cases he
    by_cases hv5:∃z ps,op= .buildF z ps
    ·obtain⟨z,ps,rfl⟩:=hv5
     split at he
     ·rename_i v hf
      cases he
      obtain⟨u,w',q1,q2,q3⟩:=Iu s hop hf
      unfold Oper.wp
      rw[q1,Oper.upon_value]
      exact fin q2 q3 rfl
     ·split at he
      ·rename_i hee;cases hee
      ·cases he
    by_cases hv6:∃z x lo hi,op= .slcF z x lo hi
    ·obtain⟨z,x,lo,hi,rfl⟩:=hv6
     split at he
     ·rename_i v hf
      cases he
      obtain⟨n,u,w',ρ',h1,h2,h3,h4,h5,h6⟩:=Nh s hop hf
      unfold Oper.wp
      rw[h1]
      have hSR:K (a.put o.dst u) w':=hK _ _ ρ' ⟨h4,(s.fr.ch h5).put o.dst h6,Γ.keep _ _ s.inv (h3.mono s.b0),s.b0⟩ h3 h5
      rcases h2 with rfl|⟨rfl,rfl⟩
      ·exact hSR
      ·exact hSR
     ·split at he
      ·rename_i hee;cases hee
      ·cases he
    by_cases hv3:∃k xz,op= .callD k xz
    ·obtain⟨k,xz,rfl⟩:=hv3
     obtain⟨c,f,ho,hcal,hk,has⟩:=O8 hop
     have hex:=pq (a:=a) (w:=w) (call:=call) ho hcal ok hk
     obtain⟨hal,har⟩:=ph s has
     have hvals:(c.args.map a.eval).toList=c.args.toList.map a.eval:=by simp
     unfold Oper.wp
     rw[hex,Oper.upon_enter]
     split at he
     ·rename_i v hf;cases hf
     ·split at he
      ·rename_i v h' hee
       cases he
       simp only[cf]at hee
       split at hee
       ·rename_i avs havs
        split at hee
        ·rename_i r hr
         cases hee
         obtain⟨hclean,hcalls⟩:=ok.sound f k avs r hk hr
         obtain⟨k1,c1⟩:=s.hr.freezeVs (xz.map (Opd.ev σ))
         have ha:qz (Mu M0 ρ (freezeVs σ.h (xz.map (Opd.ev σ)))) w avs (c.args.map a.eval).toList:=by
          rw[hvals]
          exact jq havs hal har (fun v l p u hv hl hlr hvw=>mY k1 (hlr.ch c1) (by rw[jn];exact hvw) (kg _ l (.inr ⟨v,hv,hl⟩))) (fun e u r=>r.go c1.go)
         refine(hcalls _ w _ s.inv (fun b hb=>Mu.lt k1 hb) ha).mono fun e w'⟨v,he,hb,hrr⟩=> ?_
         subst he
         obtain⟨k2,c2⟩:=k1.world hb.size (fun b hlt=>hb.block b hlt)
         exact hK _ _ ρ ⟨k2,((s.fr.ch c1).ch c2).put o.dst (Jh k1 hb hclean hrr),Γ.keep _ _ s.inv (hb.mono (Zc s.b0 s.hr.le)),s.b0⟩ (hb.mono s.hr.le) (c1.trans c2)
        ·cases hee
       ·cases hee
      ·cases he
    by_cases hv4:∃k z b x i v,op= .insert k z b x i v
    ·obtain⟨k,z,b,x,i,v,rfl⟩:=hv4
     obtain⟨c,f,fn,t,e,ho,hcal,hk,has,hfn,horg,hpar,he1,hz1,hb1⟩:=MN hop
     have hex:=pq (a:=a) (w:=w) (call:=call) ho hcal ok hk
     have iok:=ok.ins f k fn t e z b hk hfn horg hpar he1 hz1 hb1
     obtain⟨x0,i0,v0,hxs,cx,ci,cv⟩:=TE has
     have rx:=gL s cx
     have ri:=gL s ci
     have rv:=gL s cv
     have hargs:c.args.map a.eval= #[a.eval x0,a.eval i0,a.eval v0]:=Array.ext' (by rw[Yj,hxs];rfl)
     unfold Oper.wp
     rw[hex,Oper.upon_enter,hargs]
     split at he
     ·rename_i v1 hf;cases hf
     ·split at he
      ·rename_i v1 h1 hee
       cases he
       simp only[cf]at hee
       split at hee
       ·rename_i n o2 ex ei ev
        rw[ex]at rx
        rw[ev]at rv
        obtain⟨ad,ux⟩:∃ad,a.eval x0= .slice ad 0 0:=rx
        have ui:=ri.int ei
        split at hee
        ·rename_i z2 vs ho2
         split at hee
         ·rename_i hp
          cases hee
          obtain⟨rfl,hm,rfl,hlim,h63⟩:=hp
          rw[ux,ui]
          refine(MO s iok ho2 hm hlim (by unfold maxLen;omega) rv).mono fun e w'⟨u,ρ',he,hb,g1,g2,g3⟩=> ?_
          subst he
          exact hK _ _ ρ' ⟨g1,(s.fr.ch g2).put o.dst g3,Γ.keep _ _ s.inv (hb.mono s.b0),s.b0⟩ hb g2
         ·cases hee
        ·cases hee
       ·rename_i o1 n o2 ex ei ev
        rw[ex]at rx
        rw[ev]at rv
        have ui:=ri.int ei
        split at hee
        ·rename_i z1 es z2 vs ho1 ho2
         split at hee
         ·rename_i hp
          cases hee
          obtain⟨rfl,rfl,hne,hm,hn0,hn1,hlim,h63⟩:=hp
          have hn:a.eval i0= .int .i64 ((n.toNat:Nat):Int):=by
           rw[ui]
           congr 1
           omega
          rw[hn]
          refine(MM s iok ho1 ho2 hne hm (i:=n.toNat) (by omega) hlim (by unfold maxLen;omega) rx rv).mono fun e w'⟨u,ρ',he,hb,g1,g2,g3⟩=> ?_
          subst he
          exact hK _ _ ρ' ⟨g1,(s.fr.ch g2).put o.dst g3,Γ.keep _ _ s.inv (hb.mono s.b0),s.b0⟩ hb g2
         ·cases hee
        ·cases hee
       ·cases hee
      ·cases he
    by_cases hv7:∃k z x g,op= .delF k z x g
    ·obtain⟨k,z,x,g,rfl⟩:=hv7
     obtain⟨c,f,fn,t,e,ho,hcal,hk,has,hfn,horg,hpar,he1,hz1⟩:=Q8 hop
     have hex:=pq (a:=a) (w:=w) (call:=call) ho hcal ok hk
     have dok:=ok.del f k fn t e z hk hfn horg hpar he1 hz1
     have dok2:∀{cc:Nat}{cs es es':List (List PV)},gm call cc (cs.map ww) es=some es'→QH Γ P f z cc cs es es':=fun{cc}{cs}{es}{es'}h=>by
      obtain⟨rfl,hp⟩:=yX h
      exact dok _ _ _ (fun e=>R6 (call cc (.agg (e.map .pv)::cs.map ww))) (fun fc hfc=>ok.there _ _ hfc) fun e he fc hfc=>ok.sound _ _ _ _ hfc (hp e he)
     obtain⟨x0,g0,hxs,cx,cg⟩:=UR has
     have rx:=gL s cx
     have rg:=gL s cg
     have hargs:c.args.map a.eval= #[a.eval x0,a.eval g0]:=Array.ext' (by rw[Yj,hxs];rfl)
     unfold Oper.wp
     rw[hex,Oper.upon_enter,hargs]
     split at he
     ·rename_i v1 hf;cases hf
     ·split at he
      ·rename_i v1 h1 hee
       cases he
       simp only[cf]at hee
       split at hee
       ·rename_i cc cs ex eg
        rw[ex]at rx
        rw[eg]at rg
        obtain⟨ad,ux⟩:∃ad,a.eval x0= .slice ad 0 0:=rx
        ·cases hee
         rw[ux]
         refine((dok2 (es:=[]) rfl).1 rfl _ w _ ad s.inv (show LR (Mu M0 ρ σ.h) w [] [] (.fn cc cs) (a.eval g0)from rg)).mono fun e w'⟨he,hb⟩=> ?_
         subst he
         exact fin hb (v:= .one .nil) ⟨ad,rfl⟩ rfl
       ·rename_i o1 cc cs ex eg
        rw[ex]at rx
        rw[eg]at rg
        split at hee
        ·rename_i z1 es ho1
         split at hee
         ·rename_i hz
          subst hz
          split at hee
          ·rename_i es' hr
           cases hee
           refine(SC s (dok2 hr) ho1 rx rg).mono fun e w'⟨u,ρ',he,hb,g1,g2,g3⟩=> ?_
           subst he
           exact hK _ _ ρ' ⟨g1,(s.fr.ch g2).put o.dst g3,Γ.keep _ _ s.inv (hb.mono s.b0),s.b0⟩ hb g2
          ·cases hee
         ·cases hee
        ·cases hee
       ·cases hee
      ·cases he
    by_cases hv8:∃k z x i j,op= .delR k z x i j
    ·obtain⟨k,z,x,i,j,rfl⟩:=hv8
     obtain⟨c,f,fn,t,e,ho,hcal,hk,has,hfn,horg,hpar,he1,hz1⟩:=Q9 hop
     have hex:=pq (a:=a) (w:=w) (call:=call) ho hcal ok hk
     have dok:=ok.dlr f k fn t e z hk hfn horg hpar he1 hz1
     obtain⟨x0,i0,j0,hxs,cx,ci,cj⟩:=TE has
     have rx:=gL s cx
     have ri:=gL s ci
     have rj:=gL s cj
     have hargs:c.args.map a.eval= #[a.eval x0,a.eval i0,a.eval j0]:=Array.ext' (by rw[Yj,hxs];rfl)
     unfold Oper.wp
     rw[hex,Oper.upon_enter,hargs]
     split at he
     ·rename_i v1 hf;cases hf
     ·split at he
      ·rename_i v1 h1 hee
       cases he
       simp only[cf]at hee
       split at hee
       ·rename_i o1 na nb ex ei ej
        rw[ex]at rx
        split at hee
        ·rename_i z1 es hd
         split at hee
         ·rename_i hb
          obtain⟨rfl,h0,hab,hbl⟩:=hb
          cases hee
          have ui:a.eval i0= .int .i64 na:=ri.int ei
          have uj:a.eval j0= .int .i64 nb:=rj.int ej
          rw[ui,uj,←Int.toNat_of_nonneg h0,←Int.toNat_of_nonneg (show 0≤nb by omega)]
          refine(U6 s dok hd (show na.toNat<nb.toNat by omega) (by omega) rx).mono fun e w'⟨u,ρ',he,hb,g1,g2,g3⟩=> ?_
          subst he
          exact hK _ _ ρ' ⟨g1,(s.fr.ch g2).put o.dst g3,Γ.keep _ _ s.inv (hb.mono s.b0),s.b0⟩ hb g2
         ·cases hee
        ·cases hee
       ·cases hee
      ·cases he
    cases op<;>simp[AOp.isCall]at hcall
    case delR k z x i j=>exact absurd ⟨k,z,x,i,j,rfl⟩ hv8
    case delF k z x g=>exact absurd ⟨k,z,x,g,rfl⟩ hv7
    case insert k z b x i v=>exact absurd ⟨k,z,b,x,i,v,rfl⟩ hv4
    case callV x xz=>exact absurd ⟨x,xz,rfl⟩ hv
    case s2b x=>exact absurd ⟨x,rfl⟩ hv2
    case callD k xz=>exact absurd ⟨k,xz,rfl⟩ hv3
    case buildF z ps=>exact absurd ⟨z,ps,rfl⟩ hv5
    case slcF z x lo hi=>exact absurd ⟨z,x,lo,hi,rfl⟩ hv6
    rename_i k xz fl fz
    obtain⟨c,f,ho,hcal,hk,has⟩:=Ke hop
    have hex:=pq (a:=a) (w:=w) (call:=call) ho hcal ok hk
    obtain⟨hal,har⟩:=ph s has
    have hvals:(c.args.map a.eval).toList=c.args.toList.map a.eval:=by simp
    unfold Oper.wp
    rw[hex,Oper.upon_enter]
    split at he
    ·rename_i v hf
     cases he
     simp only[bj]at hf
     split at hf
     ·split at hf
      ·rename_i hfl hmut
       split at hf
       ·rename_i avs havs
        split at hf
        ·rename_i r hr
         split at hf
         ·cases hf
         ·rename_i hflat
          cases hf
          obtain⟨hclean,hcalls⟩:=ok.sound f k avs r hk hr
          cases fl with
          |true=>
           have hflat':r.flat=true:=by simpa using hflat
           have ha:qz (fun _=>False) w avs (c.args.map a.eval).toList:=by
            rw[hvals]
            exact jq havs hal har (fun v l p u _ _ hl hv=>qu s.hr hl hv) (fun e u r=>r.weak (fun _ h=>h.elim))
           refine(hcalls (fun _=>False) w _ s.inv (fun b h=>h.elim) ha).mono fun e w'⟨v,he,hb,hrr⟩=> ?_
           subst he
           exact fin hb (yA hflat' hrr) rfl
          |false=>
           have hm:∀v∈xz.map (Opd.ev σ),V.mut σ.h v=false:=by
            intro v hv
            simp only[Bool.false_or,Yk]at hmut
            have:=(List.any_eq_false.1 hmut) v hv
            simpa using this
           have ha:qz (Mu M0 ρ σ.h) w avs (c.args.map a.eval).toList:=by
            rw[hvals]
            refine jq havs hal har (fun v l p u hv hl hlr hvw=>mY s.hr hlr hvw ?_) (fun _ _ r=>r)
            have:=hm v hv
            simp only[V.mut]at this
            have:=(List.any_eq_false.1 this) l hl
            simpa using this
           refine(hcalls (Mu M0 ρ σ.h) w _ s.inv (fun b hb=>Mu.lt s.hr hb) ha).mono fun e w'⟨v,he,hb,hrr⟩=> ?_
           subst he
           exact fin hb (Jh s.hr hb hclean hrr) rfl
        ·cases hf
       ·cases hf
      ·cases hf
     ·cases hf
    ·split at he
     ·rename_i v h' hee
      cases he
      cases fl<;>cases fz<;>simp only[cf]at hee<;>try (cases hee;done)
      split at hee
      ·rename_i avs havs
       split at hee
       ·rename_i r hr
        have hee':=Option.some.inj hee
        obtain⟨rfl,rfl⟩:v=(thaw (freezeVs σ.h (xz.map (Opd.ev σ))) r.ow).1∧h'=(thaw (freezeVs σ.h (xz.map (Opd.ev σ))) r.ow).2:=⟨by rw[hee'],by rw[hee']⟩
        obtain⟨hclean,hcalls⟩:=ok.sound f k avs r hk hr
        obtain⟨k1,c1⟩:=s.hr.freezeVs (xz.map (Opd.ev σ))
        have ha:qz (Mu M0 ρ (freezeVs σ.h (xz.map (Opd.ev σ)))) w avs (c.args.map a.eval).toList:=by
         rw[hvals]
         exact jq havs hal har (fun v l p u hv hl hlr hvw=>mY k1 (hlr.ch c1) (by rw[jn];exact hvw) (kg _ l (.inr ⟨v,hv,hl⟩))) (fun e u r=>r.go c1.go)
        refine(hcalls _ w _ s.inv (fun b hb=>Mu.lt k1 hb) ha).mono fun e w'⟨v,he,hb,hrr⟩=> ?_
        subst he
        obtain⟨ρ',g1,g2,g3⟩:=FC k1 hb (V.clean_ow hclean) hrr.ow
        exact hK _ _ ρ' ⟨g1,(s.fr.ch (c1.trans g2)).put o.dst g3,Γ.keep _ _ s.inv (hb.mono (Zc s.b0 s.hr.le)),s.b0⟩ (hb.mono s.hr.le) (c1.trans g2)
       ·cases hee
      ·cases hee
     ·cases he
   ·have hnc:op.isCall=false:=by simpa using hcall
    split at he
    ·rename_i v hf
     cases he
     obtain⟨u,hu,hv⟩:=A0 ok.prog s hop hnc hf
     unfold Oper.wp
     rw[hu,Oper.upon_value]
     exact fin (Below.refl _ _) hv rfl
    ·split at he
     ·rename_i v h' hee
      cases he
      have ht:jC P M0 base σ w ρ v h' (execOp a.eval o):=by
       cases hoo:o.op<;>rw[hoo]at hop
       case alloc t=>exact BF s hoo (hoo▸hop) hee
       case box t x=>exact HB s hoo (hoo▸hop) hee
       case buildSlice t n ps=>exact Iv s hoo (hoo▸hop) hee
       case store t x y=>exact LD s hoo (hoo▸hop) hee
       case makeSlice t x y=>exact MZ s hoo (hoo▸hop) hee
       case slice t x lo hi mx=>exact FK s hoo (hoo▸hop) hee
       case makeFunc fn first caps=>exact M3 s hoo (hoo▸hop) hee
       case call c=>
        cases op
        case append z b x y=>exact Ip s hoo (hoo▸hop) hee
        case appendS b x y=>exact Gt s hoo (hoo▸hop) hee
        all_goals first
         |(simp[AOp.isCall]at hnc;done)
         |(cases hee;done)
         |(exfalso;simp only[eV]at hop;repeat' (split at hop))<;>cases hop
       all_goals
        exfalso
        simp only[eV]at hop
        first
         |(cases hop;done)
         |(simp only[Zj]at hop;obtain⟨_,_,rfl⟩:=hop;cases hee;done)
         |(repeat' (split at hop))<;>first|(cases hop;done)|(cases hop;cases hee;done)
      obtain⟨n,u,w',ρ',h1,h2,h3,h4,h5,h6⟩:=ht
      unfold Oper.wp
      rw[h1]
      have hSR:K (a.put o.dst u) w':=hK _ _ ρ' ⟨h4,(s.fr.ch h5).put o.dst h6,Γ.keep _ _ s.inv (h3.mono s.b0),s.b0⟩ h3 h5
      rcases h2 with rfl|⟨rfl,rfl⟩
      ·exact hSR
      ·exact hSR
     ·cases he
  ·rename_i hw
   cases he
   rw[ot s hg hw]
   exact hK _ _ ρ ⟨s.hr,s.fr.put o.dst VR.undef,s.inv,s.b0⟩ (Below.refl _ _) (Ch.refl _ _ _ _)
  ·cases he
 ·cases hc
theorem BC {d:Md}{op:Op}{n:Nat}{x y:Opd}(hop:eV P kf d op=some (.store n x y)):∃t x0 y0,op= .store t x0 y0:=by
 cases hoo:op<;>rw[hoo]at hop
 case store t x0 y0=>exact⟨t,x0,y0,rfl⟩
 all_goals
  exfalso
  simp only[eV]at hop
  first
   |(cases hop;done)
   |((repeat' (split at hop))<;>first|contradiction|(cases hop;done)|(simp at hop;done))
theorem RG {d:Md}{op:Op}{g:Bool}{n:Nat}{x:Opd}(hop:eV P kf d op=some (.load g n x)):∃t x0,op= .load t x0:=by
 cases hoo:op<;>rw[hoo]at hop
 case load t x0=>exact⟨t,x0,rfl⟩
 all_goals
  exfalso
  simp only[eV]at hop
  first
   |(cases hop;done)
   |((repeat' (split at hop))<;>first|contradiction|(cases hop;done)|(simp at hop;done))
theorem DI {d:Md}{op:Op}{z b:Nat}{x y:Opd}(hop:eV P kf d op=some (.append z b x y)):∃c,op= .call c:=by
 cases hoo:op<;>rw[hoo]at hop
 case call c=>exact⟨c,rfl⟩
 all_goals
  exfalso
  simp only[eV]at hop
  first
   |(cases hop;done)
   |((repeat' (split at hop))<;>first|contradiction|(cases hop;done)|(simp at hop;done))
inductive Rd:AOp→AOp→Prop where
 |same (op:AOp):Rd op op
 |loadA (g:Bool) (n:Nat) (a:Opd):Rd (.load g n a) (.loadA g n a)
 |loadN (g:Bool) (n:Nat) (a:Opd) (r:Nat):Rd (.load g n a) (.loadN g n a r)
 |storeB (n:Nat) (a v:Opd):Rd (.store n a v) (.storeB n a v)
 |storeT (n:Nat) (a v:Opd):Rd (.store n a v) (.storeT n a v)
 |allocT (cs:List L):Rd (.alloc cs) (.allocT cs.length)
 |allocW (cs:List L):Rd (.alloc cs) (.allocW cs)
 |allocAt (cs:List L) (i:Nat):Rd (.alloc cs) (.allocAt i cs)
 |boxW (n:Nat) (x:Opd):Rd (.box x) (.boxW n x)
 |slcW (z:Nat) (x:Opd) (lo hi:Option Opd):Rd (.slcL z x lo hi) (.slcW z x lo hi)
 |delW (z b:Nat) (x y:Opd):Rd (.append z b x y) (.delW z b x y)
 |storeD (n:Nat) (a v:Opd):Rd (.store n a v) (.storeD n a v)
 |appendD (z b:Nat) (x y:Opd):Rd (.append z b x y) (.appendD z b x y)
 |buildD (z:Nat) (ps:List Opd):Rd (.buildS z ps) (.buildD z ps)
 |callC (f:Nat) (xz:List Opd) (fl fz:Bool):Rd (.call f xz fl fz) (.callC f xz)
 |loadZ (g:Bool) (n:Nat) (a:Opd):Rd (.load g n a) (.loadZ g n a)
 |storeZ (n:Nat) (a v:Opd):Rd (.store n a v) (.storeZ n a v)
 |indexZ (z:Nat) (x i:Opd):Rd (.indexA z x i) (.indexZ z x i)
 |lenZ (x:Opd):Rd (.len x) (.lenZ x)
 |callM (f:Nat) (x k:Opd) (fl fz:Bool):Rd (.call f [x,k] fl fz) (.callM f x k)
 |callZ (f:Nat) (xz:List Opd) (fl fz:Bool):Rd (.call f xz fl fz) (.callZ f xz)
 |callF (f:Nat) (xz:List Opd) (fl fz:Bool):Rd (.call f xz fl fz) (.callF f xz)
 |callD (f:Nat) (xz:List Opd) (fl fz:Bool):Rd (.call f xz fl fz) (.callD f xz)
theorem RQ (md:Md)(dst:Option Nat)(op:AOp):Rd op (uN md dst op):=by
 cases op with
 |alloc zero=>
  cases dst with
  |none=>exact .same _
  |some t=>
   simp only[uN]
   split
   ·constructor
   ·split
    ·constructor
    ·split<;>constructor
 |store n a v=>
  cases a with
  |tmp t=>
   simp only[uN]
   split
   ·constructor
   ·split
    ·constructor
    ·split<;>constructor
  |_=>exact .same _
 |load g n a=>
  simp only[uN]
  split
  ·constructor
  ·split<;>constructor
 |box x=>
  cases dst with
  |none=>exact .same _
  |some t=>simp only[uN];split<;>constructor
 |append z b x y=>
  simp only[uN]
  (repeat' split)<;>constructor
 |slcL z x lo hi=>simp only[uN];split<;>constructor
 |buildS z ps=>simp only[uN];split<;>constructor
 |call f xz fl fz=>
  simp only[uN]
  (repeat' split)<;>constructor
 |_=>exact .same _
theorem RR (zl:List Nat)(mk:Bool)(dst:Option Nat)(op:AOp):Rd op (Ow zl mk dst op):=by
 cases op with
 |load g n a=>constructor
 |store n a v=>constructor
 |indexA z x i=>constructor
 |len x=>constructor
 |call f xz fl fz=>
  simp only[Ow]
  (repeat' split)<;>constructor
 |_=>exact .same _
theorem ve {h:List AObj}:∀(vs:List V),am h (vs.map V.unsub)=am h vs
 |[]=>rfl
 |v::vs=>by
  have hl:∀l:L,l.unsub.view h=l.view h:=fun l=>by cases l<;>rfl
  have hls:∀ls:List L,viewL h (ls.map L.unsub)=viewL h ls:=fun ls=>by
   induction ls with
   |nil=>rfl
   |cons l ls ih=>simp only[Zv,viewL,hl,ih]
  have hv:v.unsub.view h=v.view h:=by
   cases v with
   |one l=>cases l<;>rfl
   |agg ls=>simp only[V.unsub,V.view,hls]
   |tup xs=>rfl
  simp only[Zv,am,hv,ve vs]
theorem LC (ok:CallOK Γ P kf call)(s:SR Γ M0 base σ a w ρ){ops:Array Oper}{o:Oper}{d:Md}{oo:AOper}{σ':St}{K:Act→World→Prop}{Q:Exit→Act→World→Prop}
 (hc:vZ P kf d ops o=some oo) (he:az call oo σ=some σ')
 (hK:∀M0' a' w' ρ',(∀b,M0 b→M0' b)→(oo.op.noZ=true→M0'=M0)→SR Γ M0' base σ' a' w' ρ'→Below base w w'→Ch (Mu M0 ρ σ.h) (Mu M0' ρ' σ'.h) w w' ρ ρ' σ.h σ'.h→K a' w'):
 if Region.wanted o (yielded ops a.tmps)then o.wp P a w K Q else K (a.put o.dst undef) w:=by
 unfold vZ at hc
 split at hc
 ·rename_i x hx
  cases hc
  have hx':=hx
  unfold Iy at hx'
  split at hx'
  ·rename_i op g hop hg
   cases hx'
   have hK1:∀a' w' ρ',SR Γ M0 base σ' a' w' ρ'→Below base w w'→Ch (Mu M0 ρ σ.h) (Mu M0 ρ' σ'.h) w w' ρ ρ' σ.h σ'.h→K a' w':=fun a' w' ρ' h1 h2 h3=>hK M0 a' w' ρ' (fun _ h=>h) (fun _=>rfl) h1 h2 h3
   have turn:∀{v:V}{h':List AObj},jC P M0 base σ w ρ v h' (execOp a.eval o)→σ'=⟨put σ.t o.dst v,h'⟩→aK σ g=some true→(if Region.wanted o (yielded ops a.tmps)then o.wp P a w K Q else K (a.put o.dst undef) w):=by
    intro v h' ht e hw
    rw[ot s hg hw,if_pos rfl]
    obtain⟨n,u,w',ρ',h1,h2,h3,h4,h5,h6⟩:=ht
    subst e
    unfold Oper.wp
    rw[h1]
    have hSR:K (a.put o.dst u) w':=hK1 _ _ ρ' ⟨h4,(s.fr.ch h5).put o.dst h6,Γ.keep _ _ s.inv (h3.mono s.b0),s.b0⟩ h3 h5
    rcases h2 with rfl|⟨rfl,rfl⟩
    ·exact hSR
    ·exact hSR
   have valu:∀{v:V}{u:Value},(execOp a.eval o).run P w= .ok (.value u) w→VR (Mu M0 ρ σ.h) w ρ σ.h v u→σ'=⟨put σ.t o.dst v,σ.h⟩→aK σ g=some true→(if Region.wanted o (yielded ops a.tmps)then o.wp P a w K Q else K (a.put o.dst undef) w):=by
    intro v u h1 h2 e hw
    exact turn ⟨.value u,u,w,ρ,h1, .inl rfl,Below.refl _ _,s.hr,Ch.refl _ _ _ _,h2⟩ e hw
   have skip:aK σ g=some false→σ'=⟨put σ.t o.dst (.tup []),σ.h⟩→(if Region.wanted o (yielded ops a.tmps)then o.wp P a w K Q else K (a.put o.dst undef) w):=by
    intro hw e
    subst e
    rw[ot s hg hw]
    exact hK1 _ _ ρ ⟨s.hr,s.fr.put o.dst VR.undef,s.inv,s.b0⟩ (Below.refl _ _) (Ch.refl _ _ _ _)
   have enter:∀{k xz fl fz},eV P kf d o.op=some (.call k xz fl fz)→∃(f:FuncId)(xs:Array Operand),kf f=some k∧fy (kN kf) xs.toList=some xz∧
    ((Calls P f (xs.map a.eval) w fun e w'=>∃v,e= .returned v∧K (a.put o.dst v) w')→aK σ g=some true→(if Region.wanted o (yielded ops a.tmps)then o.wp P a w K Q else K (a.put o.dst undef) w)):=by
    intro k xz fl fz hop
    obtain⟨c,f,ho,hcal,hk,has⟩:=Ke hop
    refine⟨f,c.args,hk,has,fun hcalls hw=> ?_⟩
    rw[ot s hg hw,if_pos rfl]
    unfold Oper.wp
    rw[pq (a:=a) (w:=w) (call:=call) ho hcal ok hk,Oper.upon_enter]
    refine hcalls.mono fun e w'⟨v,he,hk⟩=> ?_
    subst he
    exact hk
   have args:∀{xz:List Opd}{xs:Array Operand}{avs:List V},fy (kN kf) xs.toList=some xz→am (lent σ.h) (xz.map (Opd.ev σ))=some avs→qz (fun _=>False) w avs (xs.map a.eval).toList:=by
    intro xz xs avs has hav
    have s':=s.unz
    obtain⟨hal,har⟩:=ph s' has
    have e:xz.map (Opd.ev ⟨σ.t.map V.unsub,lent σ.h⟩)=(xz.map (Opd.ev σ)).map V.unsub:=by
     rw[List.map_map]
     exact Yf fun x _=>Ee x
    rw[show(xs.map a.eval).toList=xs.toList.map a.eval by simp]
    refine jq (h:=lent σ.h) ?_ hal har (fun v l p u _ _ hl hv=>qu s'.hr hl hv) (fun e u r=>r.weak (fun _ h=>h.elim))
    rw[e,ve]
    exact hav
   have args1:∀{xz:List Opd}{xs:Array Operand}{avs:List V},fy (kN kf) xs.toList=some xz→am σ.h (xz.map (Opd.ev σ))=some avs→qz (fun _=>False) w avs (xs.map a.eval).toList:=by
    intro xz xs avs has hav
    obtain⟨hal,har⟩:=ph s has
    rw[show(xs.map a.eval).toList=xs.toList.map a.eval by simp]
    exact jq hav hal har (fun v l p u _ _ hl hv=>qu s.hr hl hv) (fun e u r=>r.weak (fun _ h=>h.elim))
   generalize hop':(if d.zn=true then Ow d.zl (UO kf o.op) o.dst op else uN d o.dst op)=op' at he hK
   have rd:Rd op op':=by
    subst hop'
    split
    ·exact RR _ _ _ _
    ·exact RQ _ _ _
   have plain:∀{op2:AOp},op2=op→az call ⟨o.dst,op2,g⟩ σ=some σ'→(if Region.wanted o (yielded ops a.tmps)then o.wp P a w K Q else K (a.put o.dst undef) w):=fun e h2=>by
    subst e
    exact Jm ok s hx h2 hK1
   clear hop'
   cases rd with
   |same=>exact plain rfl he
   |loadA g1 n x=>
    refine plain rfl ?_
    unfold az at he⊢
    simp only at he⊢
    split at he
    ·split at he
     ·rename_i v hf
      simp only[bj]at hf⊢
      split at hf
      ·cases hf
      ·rw[hf];exact he
     ·rename_i hf
      split at he
      ·rename_i hee;cases hee
      ·cases he
    ·exact he
    ·cases he
   |loadN g1 n x r=>
    refine plain rfl ?_
    unfold az at he⊢
    simp only at he⊢
    split at he
    ·split at he
     ·rename_i v hf
      simp only[bj]at hf⊢
      split at hf
      ·rw[hf];exact he
      ·cases hf
     ·rename_i hf
      split at he
      ·rename_i hee;cases hee
      ·cases he
    ·exact he
    ·cases he
   |storeB n x y=>
    refine plain rfl ?_
    unfold az at he⊢
    simp only at he⊢
    split at he
    ·split at he
     ·rename_i v hf;cases hf
     ·split at he
      ·rename_i v h' hee
       simp only[cf]at hee⊢
       split at hee
       ·simp only[bj]
        rw[hee]
        exact he
       ·cases hee
      ·cases he
    ·exact he
    ·cases he
   |storeT n x y=>
    unfold az at he
    simp only at he
    split at he
    ·rename_i hw
     split at he
     ·rename_i v hf;cases hf
     ·split at he
      ·rename_i v h' hee
       cases he
       simp only[cf]at hee
       split at hee
       ·rename_i m hev
        split at hee
        ·rename_i hcond
         obtain⟨rfl,hlen,hpl⟩:=hcond
         cases hee
         obtain⟨t,x0,y0,hoo⟩:=BC hop
         exact turn (Jo s hoo hop hev hlen hpl) rfl hw
        ·cases hee
       ·cases hee
      ·cases he
    ·rename_i hw
     cases he
     exact skip hw rfl
    ·cases he
   |allocT cs=>
    unfold az at he
    simp only at he
    split at he
    ·rename_i hw
     split at he
     ·rename_i v hf;cases hf
     ·split at he
      ·rename_i v h' hee
       cases he
       simp only[cf]at hee
       cases hee
       obtain⟨t,hoo⟩:∃t,o.op= .alloc t:=by
        cases hoo:o.op<;>rw[hoo]at hop
        case alloc t=>exact⟨t,rfl⟩
        all_goals
         exfalso
         simp only[eV]at hop
         first
          |(cases hop;done)
          |((repeat' (split at hop))<;>first|contradiction|(cases hop;done)|(simp at hop;done))
       exact turn (Il s hoo hop) rfl hw
      ·cases he
    ·rename_i hw
     cases he
     exact skip hw rfl
    ·cases he
   |allocW cs=>
    unfold az at he
    simp only at he
    split at he
    ·rename_i hw
     split at he
     ·rename_i v hf;cases hf
     ·split at he
      ·rename_i v h' hee
       cases he
       simp only[cf]at hee
       cases hee
       obtain⟨t,hoo⟩:∃t,o.op= .alloc t:=by
        cases hoo:o.op<;>rw[hoo]at hop
        case alloc t=>exact⟨t,rfl⟩
        all_goals
         exfalso
         simp only[eV]at hop
         first
          |(cases hop;done)
          |((repeat' (split at hop))<;>first|contradiction|(cases hop;done)|(simp at hop;done))
       exact turn (Im s hoo hop) rfl hw
      ·cases he
    ·rename_i hw
     cases he
     exact skip hw rfl
    ·cases he
   |boxW n x=>
    unfold az at he
    simp only at he
    split at he
    ·rename_i hw
     split at he
     ·rename_i v hf;cases hf
     ·split at he
      ·rename_i v h' hee
       cases he
       obtain⟨t,x0,hoo⟩:∃t x0,o.op= .box t x0:=by
        cases hoo:o.op<;>rw[hoo]at hop
        case box t x0=>exact⟨t,x0,rfl⟩
        all_goals
         exfalso
         simp only[eV]at hop
         first
          |(cases hop;done)
          |((repeat' (split at hop))<;>first|contradiction|(cases hop;done)|(simp at hop;done))
       exact turn (Mp s hoo hop (by simpa only[cf]using hee)) rfl hw
      ·cases he
    ·rename_i hw
     cases he
     exact skip hw rfl
    ·cases he
   |allocAt cs i=>
    unfold az at he
    simp only at he
    split at he
    ·rename_i hw
     split at he
     ·rename_i v hf;cases hf
     ·split at he
      ·rename_i v h' hee
       cases he
       simp only[cf]at hee
       split at hee
       ·rename_i hi
        cases hee
        obtain⟨t,hoo⟩:∃t,o.op= .alloc t:=by
         cases hoo:o.op<;>rw[hoo]at hop
         case alloc t=>exact⟨t,rfl⟩
         all_goals
          exfalso
          simp only[eV]at hop
          first
           |(cases hop;done)
           |((repeat' (split at hop))<;>first|contradiction|(cases hop;done)|(simp at hop;done))
        exact turn (Gr s hi hoo hop) rfl hw
       ·cases hee
      ·cases he
    ·rename_i hw
     cases he
     exact skip hw rfl
    ·cases he
   |storeD n x y=>
    unfold az at he
    simp only at he
    split at he
    ·rename_i hw
     split at he
     ·rename_i v hf;cases hf
     ·split at he
      ·rename_i v h' hee
       have old:bv σ.h n (x.ev σ) (y.ev σ)=some h'→v= .tup []→(if Region.wanted o (yielded ops a.tmps)then o.wp P a w K Q else K (a.put o.dst undef) w):=fun h1 h2=>by
        subst h2
        refine plain (op2:= .store n x y) rfl ?_
        unfold az
        simp only[hw,bj,cf,h1]
        exact he
       simp only[cf]at hee
       split at hee
       ·rename_i h2 hst
        cases hee
        unfold storeD at hst
        split at hst
        ·rename_i ob i j hev
         split at hst
         ·rename_i z es hd
          split at hst
          ·rename_i e ps hei hps
           split at hst
           ·rename_i hcond
            cases hst
            obtain⟨c1,c2,c3,c4,c5⟩:=hcond
            obtain⟨t,x0,y0,hoo⟩:=BC hop
            cases he
            exact turn (Jn s hoo hop hev hd hei hps c1 c2 c3 c4 c5) rfl hw
           ·cases hst
          ·cases hst
         ·exact old hst rfl
        ·cases hst
       ·cases hee
      ·cases he
    ·rename_i hw
     cases he
     exact skip hw rfl
    ·cases he
   |appendD z b x y=>
    unfold az at he
    simp only at he
    split at he
    ·rename_i hw
     split at he
     ·rename_i v hf;cases hf
     ·split at he
      ·rename_i v h' hee
       cases he
       obtain⟨c,hoo⟩:=DI hop
       exact turn (Gs s hoo hop hee) rfl hw
      ·cases he
    ·rename_i hw
     cases he
     exact skip hw rfl
    ·cases he
   |buildD z ps=>
    unfold az at he
    simp only at he
    split at he
    ·rename_i hw
     split at he
     ·rename_i v hf;cases hf
     ·split at he
      ·rename_i v h' hee
       cases he
       simp only[cf]at hee
       split at hee
       ·rename_i hcond
        simp only[Zm,decide_eq_true_eq,Zw,beq_iff_eq]at hcond
        obtain⟨⟨⟨⟨c1,c2⟩,c3⟩,c4⟩,c5⟩:=hcond
        split at hee
        ·rename_i es hes
         cases hee
         obtain⟨t,n,parts,hoo⟩:∃t n parts,o.op= .buildSlice t n parts:=by
          cases hoo:o.op<;>rw[hoo]at hop
          case buildSlice t n parts=>exact⟨t,n,parts,rfl⟩
          all_goals
           exfalso
           simp only[eV]at hop
           first
            |(cases hop;done)
            |((repeat' (split at hop))<;>first|contradiction|(cases hop;done)|(simp at hop;done))
         exact turn (It s hoo hop (fun y hy=>c1 _ (Yo.2 ⟨y,hy,rfl⟩)) c2 (by simpa using c3) (Zw.2 c4) c5 hes) rfl hw
        ·cases hee
       ·cases hee
      ·cases he
    ·rename_i hw
     cases he
     exact skip hw rfl
    ·cases he
   |slcW z x lo hi=>
    unfold az at he
    simp only at he
    split at he
    ·rename_i hw
     split at he
     ·rename_i v hf
      cases he
      obtain⟨u,h1,h2⟩:=Nj s hop hf
      exact valu h1 h2 rfl hw
     ·split at he
      ·rename_i hee;cases hee
      ·cases he
    ·rename_i hw
     cases he
     exact skip hw rfl
    ·cases he
   |delW z b x y=>
    unfold az at he
    simp only at he
    split at he
    ·rename_i hw
     split at he
     ·rename_i v hf;cases hf
     ·split at he
      ·rename_i v h' hee
       cases he
       obtain⟨c,hoo⟩:=DI hop
       exact turn (My s hoo hop hee) rfl hw
      ·cases he
    ·rename_i hw
     cases he
     exact skip hw rfl
    ·cases he
   |callC f xz fl fz=>
    unfold az at he
    simp only at he
    split at he
    ·rename_i hw
     split at he
     ·rename_i v hf;cases hf
     ·split at he
      ·rename_i v h' hee
       cases he
       simp only[cf]at hee
       split at hee
       ·rename_i avs havs
        split at hee
        ·rename_i r hr
         have hee':=Option.some.inj hee
         obtain⟨fid,xs,hk,has,ent⟩:=enter hop
         obtain⟨hclean,hcalls⟩:=ok.sound fid f avs r hk hr
         by_cases hcl:r.closed=true
         ·rw[if_pos hcl]at hee'
          obtain⟨rfl,rfl⟩:v=(thaw σ.h r).1∧h'=(thaw σ.h r).2:=⟨by rw[hee'],by rw[hee']⟩
          refine ent ((hcalls (fun _=>False) w _ s.inv (fun b h=>h.elim) (args1 has havs)).mono fun e w'⟨v,he,hb,hrr⟩=>⟨v,he,?_⟩) hw
          obtain⟨ρ',g1,g2,g3⟩:=FC s.hr hb hclean (hrr.weaken hcl (fun b hm=>Mu.lt s.hr hm))
          exact hK1 _ _ ρ' ⟨g1,(s.fr.ch g2).put o.dst g3,Γ.keep _ _ s.inv (hb.mono (Zc s.b0 s.hr.le)),s.b0⟩ (hb.mono s.hr.le) g2
         ·rw[if_neg hcl]at hee'
          obtain⟨rfl,rfl⟩:v=(thaw (freezeVs σ.h (xz.map (Opd.ev σ))) r).1∧h'=(thaw (freezeVs σ.h (xz.map (Opd.ev σ))) r).2:=⟨by rw[hee'],by rw[hee']⟩
          obtain⟨k1,c1⟩:=s.hr.freezeVs (xz.map (Opd.ev σ))
          obtain⟨hal,har⟩:=ph s has
          have ha:qz (Mu M0 ρ (freezeVs σ.h (xz.map (Opd.ev σ)))) w avs (xs.map a.eval).toList:=by
           rw[show(xs.map a.eval).toList=xs.toList.map a.eval by simp]
           exact jq havs hal har (fun v l p u hv hl hlr hvw=>mY k1 (hlr.ch c1) (by rw[jn];exact hvw) (kg _ l (.inr ⟨v,hv,hl⟩))) (fun e u r=>r.go c1.go)
          refine ent ((hcalls _ w _ s.inv (fun b hb=>Mu.lt k1 hb) ha).mono fun e w'⟨v,he,hb,hrr⟩=>⟨v,he,?_⟩) hw
          obtain⟨ρ',g1,g2,g3⟩:=FC k1 hb hclean hrr
          exact hK1 _ _ ρ' ⟨g1,(s.fr.ch (c1.trans g2)).put o.dst g3,Γ.keep _ _ s.inv (hb.mono (Zc s.b0 s.hr.le)),s.b0⟩ (hb.mono s.hr.le) (c1.trans g2)
        ·cases hee
       ·cases hee
      ·cases he
    ·rename_i hw
     cases he
     exact skip hw rfl
    ·cases he
   |loadZ g1 n x=>
    unfold az at he
    simp only at he
    split at he
    ·rename_i hw
     split at he
     ·rename_i v hf
      have old:bo σ.h g1 n (x.ev σ)=some v→(if Region.wanted o (yielded ops a.tmps)then o.wp P a w K Q else K (a.put o.dst undef) w):=fun h1=>by
       refine plain (op2:= .load g1 n x) rfl ?_
       unfold az
       simp only[hw,bj,h1]
       exact he
      cases he
      simp only[bj]at hf
      unfold qc at hf
      split at hf
      ·rename_i ob i j hev
       split at hf
       ·rename_i z es hob
        split at hf
        ·rename_i e hei
         split at hf
         ·rename_i l hej
          split at hf
          ·rename_i hcond
           obtain⟨rfl,rfl⟩:=hcond
           cases hf
           obtain⟨t,x0,hoo⟩:=RG hop
           obtain⟨u,h1,h2⟩:=K6 s hoo hop hev hob hei hej
           exact valu h1 h2 rfl hw
          ·cases hf
         ·cases hf
        ·cases hf
       ·exact old hf
      ·exact old hf
     ·split at he
      ·rename_i hee;cases hee
      ·cases he
    ·rename_i hw
     cases he
     exact skip hw rfl
    ·cases he
   |storeZ n x y=>
    unfold az at he
    simp only at he
    split at he
    ·rename_i hw
     split at he
     ·rename_i v hf;cases hf
     ·split at he
      ·rename_i v h' hee
       have old:bv σ.h n (x.ev σ) (y.ev σ)=some h'→v= .tup []→(if Region.wanted o (yielded ops a.tmps)then o.wp P a w K Q else K (a.put o.dst undef) w):=fun h1 h2=>by
        subst h2
        refine plain (op2:= .store n x y) rfl ?_
        unfold az
        simp only[hw,bj,cf,h1]
        exact he
       simp only[cf]at hee
       split at hee
       ·rename_i h2 hst
        cases hee
        unfold tf at hst
        split at hst
        ·rename_i ob i j hev
         split at hst
         ·rename_i z es hob
          split at hst
          ·rename_i e p hei hyv
           split at hst
           ·rename_i q hej
            split at hst
            ·rename_i hcond
             obtain⟨rfl,hp,hq⟩:=hcond
             cases hst
             obtain⟨t,x0,y0,hoo⟩:=BC hop
             cases he
             exact turn (Jp s hoo hop hev hob hei hyv hej hp hq) rfl hw
            ·cases hst
           ·cases hst
          ·cases hst
         ·exact old hst rfl
        ·exact old hst rfl
       ·cases hee
      ·cases he
    ·rename_i hw
     cases he
     exact skip hw rfl
    ·cases he
   |indexZ z x i=>
    unfold az at he
    simp only at he
    split at he
    ·rename_i hw
     split at he
     ·rename_i v hf
      by_cases hx:∃ob,x.ev σ= .one (.arr ob)
      ·obtain⟨ob,hev⟩:=hx
       cases he
       have hf':=hf
       rw[PO]at hf'
       obtain⟨u,h1,h2⟩:=A0 ok.prog s.unz hop rfl hf'
       simp only[bj,hev]at hf
       split at hf
       ·split at hf
        ·simp only[aG]at hf
         have key:∀{ob' i':Nat},v= .one (.ptr ob' i' 0)→VR (Mu M0 ρ σ.h) w ρ σ.h v u:=by
          rintro ob' i' rfl
          obtain⟨r,y,q1,q2,q3⟩:=h2
          obtain⟨y0,q4,rfl⟩:=mP q2
          refine⟨r,y0,q1,q4,?_⟩
          cases y0<;>exact q3
         have:∃ob' i',v= .one (.ptr ob' i' 0):=by
          repeat' (split at hf)
          all_goals first
           |(cases hf;exact⟨_,_,rfl⟩)
           |cases hf
         obtain⟨ob',i',e⟩:=this
         exact valu h1 (key e) rfl hw
        ·cases hf
       ·cases hf
      ·refine plain (op2:= .indexA z x i) rfl ?_
       have e:bj call σ (.indexA z x i)=bj call σ (.indexZ z x i):=by
        simp only[bj]
        have:∀n,aG (lent σ.h) z (x.ev σ) n=aG σ.h z (x.ev σ) n:=fun n=>by
         cases hxe:x.ev σ with
         |one l=>
          cases l with
          |arr ob=>exact absurd ⟨ob,hxe⟩ hx
          |pv p=>cases p<;>rfl
          |_=>rfl
         |_=>rfl
        simp only[this]
       unfold az
       simp only[hw,e,hf]
       exact he
     ·split at he
      ·rename_i hee;cases hee
      ·cases he
    ·rename_i hw
     cases he
     exact skip hw rfl
    ·cases he
   |lenZ x=>
    unfold az at he
    simp only at he
    split at he
    ·rename_i hw
     split at he
     ·rename_i v hf
      cases he
      have hf':=hf
      rw[S3]at hf'
      obtain⟨u,h1,h2⟩:=A0 ok.prog s.unz hop rfl hf'
      simp only[bj]at hf
      split at hf
      ·cases hf
       exact valu h1 (by simpa[VR,LR,ap]using h2) rfl hw
      ·cases hf
     ·split at he
      ·rename_i hee;cases hee
      ·cases he
    ·rename_i hw
     cases he
     exact skip hw rfl
    ·cases he
   |callM f x k fl fz=>
    unfold az at he
    simp only at he
    split at he
    ·rename_i hw
     split at he
     ·rename_i v hf;cases hf
     ·split at he
      ·rename_i v h' hee
       cases he
       simp only[cf]at hee
       split at hee
       ·rename_i n hkn
        obtain⟨fid,xs,hk,has,ent⟩:=enter hop
        obtain⟨x0,k0,hxs,cx,ck⟩:∃x0 k0,xs.toList=[x0,k0]∧kN kf x0=some x∧kN kf k0=some k:=by
         have hl:=eT has
         match hq:xs.toList,hl with
         |[x0,k0],_=>
          rw[hq]at has
          obtain⟨y0,h0,c0⟩:=ib has 0 x0 rfl
          obtain⟨y1,h1,c1⟩:=ib has 1 k0 rfl
          simp at h0 h1
          subst h0 h1
          exact⟨x0,k0,rfl,c0,c1⟩
        have rx:=gL s cx
        have rk:=gL s ck
        rw[hkn]at rk
        have ek:a.eval k0= .int .i64 n:=by simpa[VR,LR,ap]using rk
        have hxs':xs.map a.eval= #[a.eval x0, .int .i64 n]:=Array.ext' (by rw[Yj,hxs];simp[ek])
        rw[hxs']at ent
        have fin:(Calls P fid #[a.eval x0, .int .i64 n] w fun e w'=>∃u,e= .returned u∧Below base w w'∧HR M0 base w' ρ h'∧Ch (Mu M0 ρ σ.h) (Mu M0 ρ h') w w' ρ ρ σ.h h'∧VR (Mu M0 ρ h') w' ρ h' v u)→(if Region.wanted o (yielded ops a.tmps)then o.wp P a w K Q else K (a.put o.dst undef) w):=fun h=>by
         refine ent (h.mono fun e w'⟨u,he,hb,g1,g2,g3⟩=>⟨u,he,?_⟩) hw
         exact hK1 _ _ ρ ⟨g1,(s.fr.ch g2).put o.dst g3,Γ.keep _ _ s.inv (hb.mono s.b0),s.b0⟩ hb g2
        unfold jO at hee
        split at hee
        ·rename_i ob c hev
         rw[hev]at rx
         split at hee
         ·rename_i z es hob
          split at hee
          ·rename_i hce
           split at hee
           ·rename_i l hr
            split at hee
            ·cases hee
             refine fin ?_
             have hS:=ok.soundM fid f _ _ hk hr
             exact S4 s rx hob hce hS
            ·cases hee
           ·cases hee
          ·rename_i l0 hne hce
           split at hee
           ·rename_i l' z' es' hr
            split at hee
            ·rename_i hcond
             obtain⟨_,rfl⟩:=hcond
             cases hee
             refine fin ?_
             have hS:=ok.soundM fid f _ _ hk hr
             exact S5 s rx hob hce (fun e=>hne (by rw[e]at hce⊢)) hS
            ·cases hee
           ·cases hee
          ·cases hee
         ·cases hee
        ·split at hee
         ·rename_i hnd
          split at hee
          ·rename_i a' hl
           split at hee
           ·rename_i l outs hr
            split at hee
            ·split at hee
             ·rename_i h2 hp
              cases hee
              refine fin ?_
              have hS:=ok.soundM fid f _ _ hk hr
              exact UP s rx hnd hl hS hp
             ·cases hee
            ·cases hee
           ·cases hee
          ·cases hee
         ·cases hee
       ·cases hee
      ·cases he
    ·rename_i hw
     cases he
     exact skip hw rfl
    ·cases he
   |callZ f xz fl fz=>
    unfold az at he
    simp only at he
    split at he
    ·rename_i hw
     split at he
     ·rename_i v hf;cases hf
     ·split at he
      ·rename_i v h' hee
       cases he
       simp only[cf]at hee
       split at hee
       ·rename_i avs havs
        split at hee
        ·rename_i r hr
         split at hee
         ·rename_i hcl
          have hee':=Option.some.inj hee
          obtain⟨rfl,rfl⟩:v=(m8 σ.h r).1∧h'=(m8 σ.h r).2:=⟨by rw[hee'],by rw[hee']⟩
          obtain⟨fid,xs,hk,has,ent⟩:=enter hop
          obtain⟨hclean,hcalls⟩:=ok.sound fid f avs r hk hr
          refine ent ((hcalls (fun _=>False) w _ s.inv (fun b h=>h.elim) (args has havs)).mono fun e w'⟨v,he,hb,hrr⟩=>⟨v,he,?_⟩) hw
          obtain⟨M0',ρ',g0,g1,g2,g3⟩:=P8 s.hr hb hclean hcl hrr
          exact hK M0' _ _ ρ' g0 nofun ⟨g1,(s.fr.ch g2).put o.dst g3,Γ.keep _ _ s.inv (hb.mono (Zc s.b0 s.hr.le)),s.b0⟩ (hb.mono s.hr.le) g2
         ·cases hee
        ·cases hee
       ·cases hee
      ·cases he
    ·rename_i hw
     cases he
     exact skip hw rfl
    ·cases he
   |callF f xz fl fz=>
    unfold az at he
    simp only at he
    split at he
    ·rename_i hw
     split at he
     ·rename_i v hf
      cases he
      simp only[bj]at hf
      split at hf
      ·rename_i avs havs
       split at hf
       ·rename_i r hr
        split at hf
        ·rename_i hfl
         cases hf
         obtain⟨fid,xs,hk,has,ent⟩:=enter hop
         obtain⟨hclean,hcalls⟩:=ok.sound fid f avs r hk hr
         refine ent ((hcalls (fun _=>False) w _ s.inv (fun b h=>h.elim) (args has havs)).mono fun e w'⟨v,he,hb,hrr⟩=>⟨v,he,?_⟩) hw
         obtain⟨k1,c1⟩:=s.hr.world hb.size (fun b hlt=>hb.block b hlt)
         exact hK1 _ _ ρ ⟨k1,(s.fr.ch c1).put o.dst (yA hfl hrr),Γ.keep _ _ s.inv (hb.mono (Zc s.b0 s.hr.le)),s.b0⟩ (hb.mono s.hr.le) c1
        ·cases hf
       ·cases hf
      ·cases hf
     ·split at he
      ·rename_i hee;cases hee
      ·cases he
    ·rename_i hw
     cases he
     exact skip hw rfl
    ·cases he
   |callD f xz fl fz=>
    unfold az at he
    simp only at he
    split at he
    ·rename_i hw
     split at he
     ·rename_i v hf;cases hf
     ·split at he
      ·rename_i v h' hee
       cases he
       simp only[cf]at hee
       split at hee
       ·rename_i avs havs
        split at hee
        ·rename_i r hr
         cases hee
         obtain⟨fid,xs,hk,has,ent⟩:=enter hop
         obtain⟨hclean,hcalls⟩:=ok.sound fid f avs r hk hr
         obtain⟨k1,c1⟩:=s.hr.freezeVs (xz.map (Opd.ev σ))
         obtain⟨hal,har⟩:=ph s has
         have ha:qz (Mu M0 ρ (freezeVs σ.h (xz.map (Opd.ev σ)))) w avs (xs.map a.eval).toList:=by
          rw[show(xs.map a.eval).toList=xs.toList.map a.eval by simp]
          exact jq havs hal har (fun v l p u hv hl hlr hvw=>mY k1 (hlr.ch c1) (by rw[jn];exact hvw) (kg _ l (.inr ⟨v,hv,hl⟩))) (fun e u r=>r.go c1.go)
         refine ent ((hcalls _ w _ s.inv (fun b hb=>Mu.lt k1 hb) ha).mono fun e w'⟨v,he,hb,hrr⟩=>⟨v,he,?_⟩) hw
         obtain⟨k2,c2⟩:=k1.world hb.size (fun b hlt=>hb.block b hlt)
         exact hK1 _ _ ρ ⟨k2,((s.fr.ch c1).ch c2).put o.dst (Jh k1 hb hclean hrr),Γ.keep _ _ s.inv (hb.mono (Zc s.b0 s.hr.le)),s.b0⟩ (hb.mono s.hr.le) (c1.trans c2)
        ·cases hee
       ·cases hee
      ·cases he
    ·rename_i hw
     cases he
     exact skip hw rfl
    ·cases he
  ·cases hx'
 ·cases hc
end
end Gi
