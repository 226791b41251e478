/- Of this proof. -/
import Derived.Test.YtebnmoogdmpepaaGreatGioc
set_option linter.unusedSimpArgs false
set_option linter.unusedVariables false
namespace Gi
open Go Go.RowKit
variable {KI:KF}
section
variable {Γ:Ctx}{P:Program}{M0:Nat→Prop}{base:Nat}{σ:St}{a:Act}{w:World}{ρ:List (Option Nat)}{call:Nat→List V→Option V}
def Tb [KI:KF](Γ:Ctx)(P:Program)(f z:Nat):Prop:=
 ∀(c:Nat)(cs es:List (List PV))(p:List PV→Bool),(∀fc,kf fc=some c→∃fn,P.funcs[fc]? =some fn∧fn.body.isNone=false∧(fn.name== "runtime.NumGoroutine")=false)→(∀e∈es,∀fc,kf fc=some c→yC Γ P fc (.agg (e.map .pv)::cs.map tR) (aA (p e)))→Rk Γ P f z c cs es (es.filter fun e=> !p e)
def Sz :Option V→Bool
 |some (.one (.pv (.bool b)))=>b
 |_=>false
theorem zJ {call:Nat→List V→Option V}{c:Nat}{caps:List V}:∀{es es':List (List PV)},ft call c caps es=some es'→es'=es.filter (fun e=> !Sz (call c (.agg (e.map .pv)::caps)))∧∀e∈es,call c (.agg (e.map .pv)::caps)=some (aA (Sz (call c (.agg (e.map .pv)::caps))))
 |[],_,h=>by cases h;exact⟨rfl,fun e he=>by cases he⟩
 |e::es,es',h=>by
  simp only[ft]at h
  split at h
  ·rename_i b hb
   split at h
   ·rename_i r hr
    cases h
    obtain⟨i1,i2⟩:=zJ hr
    refine⟨?_,fun x hx=> ?_⟩
    ·rw[List.filter_cons,hb,←i1]
     cases b<;>rfl
    ·rcases Z8.1 hx with rfl|hx
     ·rw[hb];rfl
     ·exact i2 x hx
   ·cases h
  ·cases h
structure CallOK [KI:KF] (Γ:Ctx) (P:Program) (kf:FuncId→Option Nat) (call:Nat→List V→Option V):Prop where
 prog:KI.pr=P
 there:∀f k,kf f=some k→∃fn,P.funcs[f]? =some fn∧fn.body.isNone=false∧(fn.name== "runtime.NumGoroutine")=false
 sound:∀f k xz r,kf f=some k→call k xz=some r→yC Γ P f xz r
 soundM:∀f k xz r,kf f=some k→call (k+jX) xz=some r→At Γ P f xz r
 ins:∀f k fn t e z b,kf f=some k→P.funcs[f]? =some fn→fn.origin= "slices.Insert" →fn.params.toList.head? =some t→jm P t=some e→rB P e=some z→Oo P e=some b→DX P f z b
 del:∀f k fn t e z,kf f=some k→P.funcs[f]? =some fn→fn.origin= "slices.DeleteFunc" →fn.params.toList.head? =some t→jm P t=some e→rB P e=some z→Tb Γ P f z
theorem oP (s:SR Γ M0 base σ a w ρ){ops:Array Oper}{o:Oper}{g:Option (Nat×Bool)}{b:Bool}(hg:IR ops o.guard=some g)(hw:bf σ g=some b):Region.wanted o (yielded ops a.tmps)=b:=by
 unfold Region.wanted
 cases hgd:o.guard with
 |none=>
  rw[hgd]at hg
  simp only[IR]at hg;cases hg
  simp only[bf]at hw;cases hw
  rfl
 |some jw=>
  obtain⟨j,want⟩:=jw
  rw[hgd]at hg
  simp only[IR]at hg
  split at hg
  ·rename_i oj hoj
   split at hg
   ·rename_i t ht
    cases hg
    simp only[bf]at hw
    have hy:∀{x:Option Bool},(match a.tmps[t]? with|some (.bool b)=>some b|_=>none)=x→yielded ops a.tmps j=x:=by
     intro x hx
     unfold yielded
     simp only[hoj,Option.bind_some,ht]
     exact hx
    have r:=s.fr.eval t
    by_cases hlt:t<a.tmps.size
    ·have hev:a.tmps[t]? =some (a.eval (.tmp t)):=by simp[Act.eval,hlt]
     split at hw
     ·rename_i b' hb'
      cases hw
      rw[hb']at r
      have e:a.eval (.tmp t)= .bool b':=by simpa[VR,LR,av]using r
      simp only[hy (show _=some b' by rw[hev,e])]
      cases b'<;>cases want<;>rfl
     ·rename_i hb'
      cases hw
      rw[hb']at r
      obtain⟨vs,e,hl,_⟩:=r
      simp only[hy (show _=none by rw[hev,e])]
      rfl
     ·cases hw
    ·have hev:a.tmps[t]? =none:=Y9 (Nat.le_of_not_lt hlt)
     have ht0:σ.t.getD t (.tup [])= .tup []:=by
      have:¬t<σ.t.length:=by rw[←s.fr.size];exact hlt
      simp[List.getD,Yl (Nat.le_of_not_lt this)]
     rw[ht0]at hw
     cases hw
     simp only[hy (show _=none by rw[hev])]
     rfl
   ·cases hg
  ·cases hg
theorem tc {o:Oper}{c:Call}{f:FuncId}(hop:o.op= .call c)(hcal:c.callee= .value (.func f))(ok:CallOK Γ P kf call){k:Nat}(hk:kf f=some k):
 (execOp a.eval o).run P w= .ok (.enter f (c.args.map a.eval)) w:=by
 obtain⟨fn,h1,h2,h3⟩:=ok.there f k hk
 simp only[execOp,hop,resolve,hcal,Act.eval,Deferred.ofValue,Sem.run_bind,Sem.run_pure,Result.andThen_ok,invoke,callFunc,run_program,h1,h3,h2]
 simp
theorem Nl {o:Oper}{c:Call}{f:FuncId}{x:Operand}{cs:Array Value}(hop:o.op= .call c)(hcal:c.callee= .value x)(hf:a.eval x= .func (.func f) #[] cs)(ok:CallOK Γ P kf call){k:Nat}(hk:kf f=some k):
 (execOp a.eval o).run P w= .ok (.enter f (c.args.map a.eval++cs)) w:=by
 obtain⟨fn,h1,h2,h3⟩:=ok.there f k hk
 simp only[execOp,hop,resolve,hcal,hf,Deferred.ofValue,Sem.run_bind,Sem.run_pure,Result.andThen_ok,invoke,callFunc,run_program,h1,h3,h2]
 simp
theorem zq {M M':Nat→Prop}{b:Nat}{h:List AObj}{r:V}{v:Value}(hf:r.flat=true)(rr:wA M b w r v):VR M' w ρ h (db r) v:=by
 obtain⟨ρr,_,vr⟩:=rr
 have leaf:∀{l:L}{u:Value}{M1:Nat→Prop}{ρ1:List (Option Nat)}{h1:List AObj},l.flat=true→LR M1 w ρ1 h1 l u→LR M' w ρ h (da l) u:=by
  intro l u M1 ρ1 h1 hl hr
  cases l with
  |pv p=>cases p<;>first|(simp[L.flat]at hl;done)|(simpa[da,LR,av]using hr)
  |_=>simp[L.flat]at hl
 have same:∀(ls:List L)(g:List AObj),ls.all L.flat=true→thawL g ls=(ls,g):=by
  intro ls
  induction ls with
  |nil=>intro g _;rfl
  |cons l ls ih=>
   intro g hl
   simp only[Zr,Zh]at hl
   cases l with
   |pv p=>simp only[thawL,ih g hl.2]
   |_=>simp[L.flat]at hl
 have leaves:∀{ls:List L}{us:List Value}{M1:Nat→Prop}{ρ1:List (Option Nat)}{h1:List AObj},ls.all L.flat=true→sP M1 w ρ1 h1 ls us→sP M' w ρ h (ls.map da) us:=by
  intro ls us M1 ρ1 h1 hl hr
  refine⟨by simpa using hr.1,fun i l u hi hu=> ?_⟩
  simp only[Zq,Zj]at hi
  obtain⟨l0,h0,rfl⟩:=hi
  exact leaf ((Zu.1 hl) l0 (Zl h0)) (hr.2 i l0 u h0 hu)
 cases r with
 |one l=>
  have e:=same [l] [] (by simpa[V.flat]using hf)
  simp only[thaw,e]at vr
  exact leaf (by simpa[V.flat]using hf) vr
 |agg ls=>
  have e:=same ls [] (by simpa[V.flat]using hf)
  simp only[thaw,e]at vr
  obtain⟨cs,rfl,hl⟩:=vr
  exact⟨cs,rfl,leaves (by simpa[V.flat]using hf) hl⟩
 |tup xs=>
  have sameT:∀(xs:List (Bool×List L))(g:List AObj),(xs.all fun x=>x.2.all L.flat)=true→thawT g xs=(xs,g):=by
   intro xs
   induction xs with
   |nil=>intro g _;rfl
   |cons x xs ih=>
    intro g hx
    simp only[Zr,Zh]at hx
    obtain⟨b,ls⟩:=x
    simp only[thawT,same ls g hx.1,ih g hx.2]
  have hfx:(xs.all fun x=>x.2.all L.flat)=true:=by simpa[V.flat]using hf
  simp only[thaw,sameT xs [] hfx]at vr
  obtain⟨vs,rfl,h1,h2⟩:=vr
  refine⟨vs,rfl,by simpa[db]using h1,fun i x u hx hu=> ?_⟩
  simp only[Zq,Zj]at hx
  obtain⟨x0,h0,rfl⟩:=hx
  have hx0:=(Zu.1 hfx) x0 (Zl h0)
  have:=h2 i x0 u h0 hu
  obtain⟨b,ls⟩:=x0
  cases b with
  |true=>obtain⟨cs,rfl,hl⟩:=this;exact⟨cs,rfl,leaves hx0 hl⟩
  |false=>
   match ls,this,hx0 with
   |[l],this,hx0=>exact leaf (by simpa using hx0) this
theorem kF (s:SR Γ M0 base σ a w ρ){x:Operand}{y:Opd}(h:mK kf x=some y):VR (Mu M0 ρ σ.h) w ρ σ.h (y.ev σ) (a.eval x):=by
 unfold mK at h
 split at h
 ·rename_i f
  simp only[Zj]at h
  obtain⟨k,hk,rfl⟩:=h
  exact⟨f, #[],by simp[Act.eval],hk,rfl,fun i e u he=>by simp at he⟩
 ·exact aD s h
theorem HV (s:SR Γ M0 base σ a w ρ){g:Operand→Option Opd}(hg:∀x y,g x=some y→VR (Mu M0 ρ σ.h) w ρ σ.h (y.ev σ) (a.eval x)){xs:List Operand}{ys:List Opd}(h:gh g xs=some ys):(ys.map (Opd.ev σ)).length=(xs.map a.eval).length∧
 ∀(i:Nat)(v:V)(u:Value),(ys.map (Opd.ev σ))[i]? =some v→(xs.map a.eval)[i]? =some u→VR (Mu M0 ρ σ.h) w ρ σ.h v u:=by
 refine⟨by simp[ff h],fun i v u hv hu=> ?_⟩
 simp only[Zq,Zj]at hv hu
 obtain⟨y,hy,rfl⟩:=hv
 obtain⟨x,hx,rfl⟩:=hu
 obtain⟨y',hy',hc⟩:=iz h i x hx
 rw[hy]at hy';cases hy'
 exact hg x y hc
theorem Ru (s:SR Γ M0 base σ a w ρ){xs:List Operand}{ys:List Opd}(h:gh gP xs=some ys):(ys.map (Opd.ev σ)).length=(xs.map a.eval).length∧
 ∀(i:Nat)(v:V)(u:Value),(ys.map (Opd.ev σ))[i]? =some v→(xs.map a.eval)[i]? =some u→VR (Mu M0 ρ σ.h) w ρ σ.h v u:=HV s (fun x y h=>aD s h) h
theorem pY (s:SR Γ M0 base σ a w ρ){xs:List Operand}{ys:List Opd}(h:gh (mK kf) xs=some ys):(ys.map (Opd.ev σ)).length=(xs.map a.eval).length∧
 ∀(i:Nat)(v:V)(u:Value),(ys.map (Opd.ev σ))[i]? =some v→(xs.map a.eval)[i]? =some u→VR (Mu M0 ρ σ.h) w ρ σ.h v u:=HV s (fun x y h=>kF s h) h
theorem KG {d:Md}{op:Op}{k:Nat}{xz:List Opd}{fl fz:Bool}(hc:fI P kf d op=some (.call k xz fl fz)):∃c f,op= .call c∧c.callee= .value (.func f)∧kf f=some k∧gh (mK kf) c.args.toList=some xz:=by
 cases op
 case makeFunc fn first caps=>cases fn<;>simp only[fI]at hc<;>first|(cases hc;done)|((repeat' (split at hc))<;>cases hc)
 case call c=>
  simp only[fI]at hc
  split at hc
  ·rename_i f hcal
   split at hc
   ·rename_i k' as' fn h1 h2 h3
    split at hc
    ·repeat' (split at hc)
     all_goals cases hc
    split at hc
    ·repeat' (split at hc)
     all_goals cases hc
    split at hc
    ·cases hc
    ·cases hc
     exact⟨c,f,rfl,hcal,h1,h2⟩
   ·cases hc
  all_goals first|(cases hc;done)|((repeat' (split at hc))<;>cases hc)
 all_goals simp only[fI]at hc
 all_goals first
  |(cases hc;done)
  |(simp only[Zj]at hc;obtain⟨_,_,hc⟩:=hc;cases hc;done)
  |((repeat' (split at hc))<;>cases hc)
theorem PK {d:Md}{op:Op}{k:Nat}{xz:List Opd}(hc:fI P kf d op=some (.callD k xz)):∃c f,op= .call c∧c.callee= .value (.func f)∧kf f=some k∧gh (mK kf) c.args.toList=some xz:=by
 cases op
 case makeFunc fn first caps=>cases fn<;>simp only[fI]at hc<;>first|(cases hc;done)|((repeat' (split at hc))<;>cases hc)
 case call c=>
  simp only[fI]at hc
  split at hc
  ·rename_i f hcal
   split at hc
   ·rename_i k' as' fn h1 h2 h3
    split at hc
    ·repeat' (split at hc)
     all_goals cases hc
    split at hc
    ·repeat' (split at hc)
     all_goals cases hc
    split at hc
    ·cases hc
     exact⟨c,f,rfl,hcal,h1,h2⟩
    ·cases hc
   ·cases hc
  all_goals first|(cases hc;done)|((repeat' (split at hc))<;>cases hc)
 all_goals simp only[fI]at hc
 all_goals first
  |(cases hc;done)
  |(simp only[Zj]at hc;obtain⟨_,_,hc⟩:=hc;cases hc;done)
  |((repeat' (split at hc))<;>cases hc)
theorem Nq {d:Md}{op:Op}{k z b:Nat}{x i v:Opd}(hc:fI P kf d op=some (.insert k z b x i v)):∃c f fn t e,op= .call c∧c.callee= .value (.func f)∧kf f=some k∧gh (mK kf) c.args.toList=some [x,i,v]∧
 P.funcs[f]? =some fn∧fn.origin= "slices.Insert" ∧fn.params.toList.head? =some t∧jm P t=some e∧rB P e=some z∧Oo P e=some b:=by
 cases op
 case makeFunc fn first caps=>cases fn<;>simp only[fI]at hc<;>first|(cases hc;done)|((repeat' (split at hc))<;>cases hc)
 case call c=>
  simp only[fI]at hc
  split at hc
  ·rename_i f hcal
   split at hc
   ·rename_i k' as' fn h1 h2 h3
    split at hc
    ·rename_i horg
     split at hc
     ·rename_i x' i' v' t tl hpar
      split at hc
      ·rename_i e he
       split at hc
       ·rename_i z' b' hz hb
        cases hc
        exact⟨c,f,fn,t,e,rfl,hcal,h1,h2,h3,by simpa using horg,by rw[hpar];rfl,he,hz,hb⟩
       ·cases hc
      ·cases hc
     ·cases hc
    ·(repeat' (split at hc))<;>cases hc
   ·cases hc
  all_goals first|(cases hc;done)|((repeat' (split at hc))<;>cases hc)
 all_goals simp only[fI]at hc
 all_goals first
  |(cases hc;done)
  |(simp only[Zj]at hc;obtain⟨_,_,hc⟩:=hc;cases hc;done)
  |((repeat' (split at hc))<;>cases hc)
theorem Vo {xs:List Operand}{x i v:Opd}(h:gh (mK kf) xs=some [x,i,v]):∃x0 i0 v0,xs=[x0,i0,v0]∧mK kf x0=some x∧mK kf i0=some i∧mK kf v0=some v:=by
 have hl:=ff h
 match xs,hl with
 |[x0,i0,v0],_=>
  obtain⟨y0,h0,c0⟩:=iz h 0 x0 rfl
  obtain⟨y1,h1,c1⟩:=iz h 1 i0 rfl
  obtain⟨y2,h2,c2⟩:=iz h 2 v0 rfl
  simp at h0 h1 h2
  subst h0 h1 h2
  exact⟨x0,i0,v0,rfl,c0,c1,c2⟩
theorem Vn {xs:List Operand}{x i:Opd}(h:gh (mK kf) xs=some [x,i]):∃x0 i0,xs=[x0,i0]∧mK kf x0=some x∧mK kf i0=some i:=by
 have hl:=ff h
 match xs,hl with
 |[x0,i0],_=>
  obtain⟨y0,h0,c0⟩:=iz h 0 x0 rfl
  obtain⟨y1,h1,c1⟩:=iz h 1 i0 rfl
  simp at h0 h1
  subst h0 h1
  exact⟨x0,i0,rfl,c0,c1⟩
theorem RH {d:Md}{op:Op}{k z:Nat}{x g:Opd}(hc:fI P kf d op=some (.delF k z x g)):∃c f fn t e,op= .call c∧c.callee= .value (.func f)∧kf f=some k∧gh (mK kf) c.args.toList=some [x,g]∧
 P.funcs[f]? =some fn∧fn.origin= "slices.DeleteFunc" ∧fn.params.toList.head? =some t∧jm P t=some e∧rB P e=some z:=by
 cases op
 case makeFunc fn first caps=>cases fn<;>simp only[fI]at hc<;>first|(cases hc;done)|((repeat' (split at hc))<;>cases hc)
 case call c=>
  simp only[fI]at hc
  split at hc
  ·rename_i f hcal
   split at hc
   ·rename_i k' as' fn h1 h2 h3
    split at hc
    ·(repeat' (split at hc))<;>cases hc
    ·split at hc
     ·rename_i horg
      split at hc
      ·rename_i x' g' t tl hpar
       split at hc
       ·rename_i e he
        split at hc
        ·rename_i z' hz
         cases hc
         exact⟨c,f,fn,t,e,rfl,hcal,h1,h2,h3,by simpa using horg,by rw[hpar];rfl,he,hz⟩
        ·cases hc
       ·cases hc
      ·cases hc
     ·split at hc<;>cases hc
   ·cases hc
  all_goals first|(cases hc;done)|((repeat' (split at hc))<;>cases hc)
 all_goals simp only[fI]at hc
 all_goals first
  |(cases hc;done)
  |(simp only[Zj]at hc;obtain⟨_,_,hc⟩:=hc;cases hc;done)
  |((repeat' (split at hc))<;>cases hc)
theorem PM {d:Md}{op:Op}{x:Opd}{xz:List Opd}(hc:fI P kf d op=some (.callV x xz)):∃c t,op= .call c∧c.callee= .value (.tmp t)∧x= .tmp t∧gh gP c.args.toList=some xz:=by
 cases op
 case makeFunc fn first caps=>cases fn<;>simp only[fI]at hc<;>first|(cases hc;done)|((repeat' (split at hc))<;>cases hc)
 case call c=>
  simp only[fI]at hc
  split at hc
  ·split at hc
   ·(repeat' (split at hc))<;>cases hc
   ·cases hc
  ·rename_i t hcal
   split at hc
   ·rename_i as' h1
    cases hc
    exact⟨c,t,rfl,hcal,rfl,h1⟩
   ·cases hc
  all_goals first|(cases hc;done)|((repeat' (split at hc))<;>cases hc)
 all_goals simp only[fI]at hc
 all_goals first
  |(cases hc;done)
  |(simp only[Zj]at hc;obtain⟨_,_,hc⟩:=hc;cases hc;done)
  |((repeat' (split at hc))<;>cases hc)
theorem JK (ok:CallOK Γ P kf call)(s:SR Γ M0 base σ a w ρ){ops:Array Oper}{o:Oper}{d:Md}{oo:AOper}{σ':St}{K:Act→World→Prop}{Q:Exit→Act→World→Prop}
 (hc:IS P kf d ops o=some oo) (he:aJ call oo σ=some σ') (hK:∀a' w' ρ',SR Γ M0 base σ' a' w' ρ'→Below base w w'→Ch (Mu M0 ρ σ.h) (Mu M0 ρ' σ'.h) w w' ρ ρ' σ.h σ'.h→K a' w'):
 if Region.wanted o (yielded ops a.tmps)then o.wp P a w K Q else K (a.put o.dst undef) w:=by
 unfold IS at hc
 split at hc
 ·rename_i op g hop hg
  cases hc
  unfold aJ at he
  simp only at he
  split at he
  ·rename_i hw
   rw[oP s hg hw,if_pos rfl]
   have fin:∀{v:V}{u:Value}{w':World},Below w.heap.size w w'→VR (Mu M0 ρ σ.h) w' ρ σ.h v u→σ'=⟨put σ.t o.dst v,σ.h⟩→K (a.put o.dst u) w':=by
    intro v u w' hb hv e
    subst e
    obtain⟨k1,c1⟩:=s.hr.world hb.size (fun b hlt=>hb.block b hlt)
    exact hK _ _ ρ ⟨k1,(s.fr.ch c1).put o.dst hv,Γ.keep _ _ s.inv (hb.mono (Zc s.b0 s.hr.le)),s.b0⟩ (hb.mono s.hr.le) c1
   by_cases hcall:op.isCall=true
   ·by_cases hv:∃x xz,op= .callV x xz
    ·obtain⟨x,xz,rfl⟩:=hv
     obtain⟨c,t,ho,hcal,hx,has⟩:=PM hop
     obtain⟨hal,har⟩:=Ru s has
     have hvals:(c.args.map a.eval).toList=c.args.toList.map a.eval:=by simp
     split at he
     ·rename_i v hf
      cases he
      simp only[bJ]at hf
      split at hf
      ·rename_i k caps hxe
       split at hf
       ·rename_i avs havs
        split at hf
        ·rename_i r hr
         split at hf
         ·rename_i hflat
          cases hf
          have rx:=aD s (show gP (.tmp t)=some (.tmp t)from rfl)
          rw[←hx,hxe]at rx
          obtain⟨f,cs,ef,hk,hcl,hcr⟩:=rx
          obtain⟨hclean,hcalls⟩:=ok.sound f k _ r hk hr
          have ha:qc (fun _=>False) w avs (c.args.map a.eval).toList:=by
           rw[hvals]
           exact jL havs hal har (fun v l p u _ _ hl hv=>rq s.hr hl hv) (fun e u r=>r.weak (fun _ h=>h.elim))
          have ha2:qc (fun _=>False) w (avs++caps.map tR) (c.args.map a.eval++cs).toList:=by
           refine⟨by simp only[Zw,Zt,Array.toList_append];rw[ha.1,hcl];simp,fun i x u hx hu=> ?_⟩
           rw[Array.toList_append]at hu
           by_cases hi:i<avs.length
           ·rw[Ze hi]at hx
            rw[Ze (by rw[←ha.1];exact hi)]at hu
            exact ha.2 i x u hx hu
           ·rw[Zk (by omega)]at hx
            rw[Zk (by rw[←ha.1];omega),←ha.1]at hu
            simp only[Zq,Zj]at hx
            obtain⟨e,he,rfl⟩:=hx
            exact((hcr _ e u he (by simpa using hu)).weak (fun _ h=>h.elim)).arg
          unfold Oper.wp
          rw[Nl (a:=a) (w:=w) (call:=call) ho hcal ef ok hk,Oper.upon_enter]
          refine(hcalls (fun _=>False) w _ s.inv (fun b h=>h.elim) ha2).mono fun e w'⟨v,he,hb,hrr⟩=> ?_
          subst he
          exact fin hb (zq hflat hrr) rfl
         ·cases hf
        ·cases hf
       ·cases hf
      ·cases hf
     ·split at he
      ·rename_i hee;cases hee
      ·cases he
    by_cases hv2:∃x,op= .s2b x
    ·obtain⟨x,rfl⟩:=hv2
     split at he
     ·rename_i v hf
      cases he
      obtain⟨u,w',q1,q2,q3⟩:=QN s hop hf
      unfold Oper.wp
      rw[q1,Oper.upon_value]
      exact fin q2 q3 rfl
     ·split at he
      ·rename_i hee;cases hee
      ·cases he
    by_cases hv5:∃z ps,op= .buildF z ps
    ·obtain⟨z,ps,rfl⟩:=hv5
     split at he
     ·rename_i v hf
      cases he
      obtain⟨u,w',q1,q2,q3⟩:=IN s hop hf
      unfold Oper.wp
      rw[q1,Oper.upon_value]
      exact fin q2 q3 rfl
     ·split at he
      ·rename_i hee;cases hee
      ·cases he
    by_cases hv6:∃z x lo hi,op= .slcF z x lo hi
    ·obtain⟨z,x,lo,hi,rfl⟩:=hv6
     split at he
     ·rename_i v hf
      cases he
      obtain⟨n,u,w',ρ',h1,h2,h3,h4,h5,h6⟩:=NN s hop hf
      unfold Oper.wp
      rw[h1]
      have hSR:K (a.put o.dst u) w':=hK _ _ ρ' ⟨h4,(s.fr.ch h5).put o.dst h6,Γ.keep _ _ s.inv (h3.mono s.b0),s.b0⟩ h3 h5
      rcases h2 with rfl|⟨rfl,rfl⟩
      ·exact hSR
      ·exact hSR
     ·split at he
      ·rename_i hee;cases hee
      ·cases he
    by_cases hv3:∃k xz,op= .callD k xz
    ·obtain⟨k,xz,rfl⟩:=hv3
     obtain⟨c,f,ho,hcal,hk,has⟩:=PK hop
     have hex:=tc (a:=a) (w:=w) (call:=call) ho hcal ok hk
     obtain⟨hal,har⟩:=pY s has
     have hvals:(c.args.map a.eval).toList=c.args.toList.map a.eval:=by simp
     unfold Oper.wp
     rw[hex,Oper.upon_enter]
     split at he
     ·rename_i v hf;cases hf
     ·split at he
      ·rename_i v h' hee
       cases he
       simp only[cI]at hee
       split at hee
       ·rename_i avs havs
        split at hee
        ·rename_i r hr
         cases hee
         obtain⟨hclean,hcalls⟩:=ok.sound f k avs r hk hr
         obtain⟨k1,c1⟩:=s.hr.freezeVs (xz.map (Opd.ev σ))
         have ha:qc (Mu M0 ρ (freezeVs σ.h (xz.map (Opd.ev σ)))) w avs (c.args.map a.eval).toList:=by
          rw[hvals]
          exact jL havs hal har (fun v l p u hv hl hlr hvw=>nI k1 (hlr.ch c1) (by rw[jI];exact hvw) (kS _ l (.inr ⟨v,hv,hl⟩))) (fun e u r=>r.go c1.go)
         refine(hcalls _ w _ s.inv (fun b hb=>Mu.lt k1 hb) ha).mono fun e w'⟨v,he,hb,hrr⟩=> ?_
         subst he
         obtain⟨k2,c2⟩:=k1.world hb.size (fun b hlt=>hb.block b hlt)
         exact hK _ _ ρ ⟨k2,((s.fr.ch c1).ch c2).put o.dst (JE k1 hb hclean hrr),Γ.keep _ _ s.inv (hb.mono (Zc s.b0 s.hr.le)),s.b0⟩ (hb.mono s.hr.le) (c1.trans c2)
        ·cases hee
       ·cases hee
      ·cases he
    by_cases hv4:∃k z b x i v,op= .insert k z b x i v
    ·obtain⟨k,z,b,x,i,v,rfl⟩:=hv4
     obtain⟨c,f,fn,t,e,ho,hcal,hk,has,hfn,horg,hpar,he1,hz1,hb1⟩:=Nq hop
     have hex:=tc (a:=a) (w:=w) (call:=call) ho hcal ok hk
     have iok:=ok.ins f k fn t e z b hk hfn horg hpar he1 hz1 hb1
     obtain⟨x0,i0,v0,hxs,cx,ci,cv⟩:=Vo has
     have rx:=kF s cx
     have ri:=kF s ci
     have rv:=kF s cv
     have hargs:c.args.map a.eval= #[a.eval x0,a.eval i0,a.eval v0]:=Array.ext' (by rw[Ym,hxs];rfl)
     unfold Oper.wp
     rw[hex,Oper.upon_enter,hargs]
     split at he
     ·rename_i v1 hf;cases hf
     ·split at he
      ·rename_i v1 h1 hee
       cases he
       simp only[cI]at hee
       split at hee
       ·rename_i n o2 ex ei ev
        rw[ex]at rx
        rw[ev]at rv
        obtain⟨ad,ux⟩:∃ad,a.eval x0= .slice ad 0 0:=rx
        have ui:=ri.int ei
        split at hee
        ·rename_i z2 vs ho2
         split at hee
         ·rename_i hp
          cases hee
          obtain⟨rfl,hm,rfl,hlim,h63⟩:=hp
          rw[ux,ui]
          refine(Nr s iok ho2 hm hlim (by unfold maxLen;omega) rv).mono fun e w'⟨u,ρ',he,hb,g1,g2,g3⟩=> ?_
          subst he
          exact hK _ _ ρ' ⟨g1,(s.fr.ch g2).put o.dst g3,Γ.keep _ _ s.inv (hb.mono s.b0),s.b0⟩ hb g2
         ·cases hee
        ·cases hee
       ·rename_i o1 n o2 ex ei ev
        rw[ex]at rx
        rw[ev]at rv
        have ui:=ri.int ei
        split at hee
        ·rename_i z1 es z2 vs ho1 ho2
         split at hee
         ·rename_i hp
          cases hee
          obtain⟨rfl,rfl,hne,hm,hn0,hn1,hlim,h63⟩:=hp
          have hn:a.eval i0= .int .i64 ((n.toNat:Nat):Int):=by
           rw[ui]
           congr 1
           omega
          rw[hn]
          refine(Np s iok ho1 ho2 hne hm (i:=n.toNat) (by omega) hlim (by unfold maxLen;omega) rx rv).mono fun e w'⟨u,ρ',he,hb,g1,g2,g3⟩=> ?_
          subst he
          exact hK _ _ ρ' ⟨g1,(s.fr.ch g2).put o.dst g3,Γ.keep _ _ s.inv (hb.mono s.b0),s.b0⟩ hb g2
         ·cases hee
        ·cases hee
       ·cases hee
      ·cases he
    by_cases hv7:∃k z x g,op= .delF k z x g
    ·obtain⟨k,z,x,g,rfl⟩:=hv7
     obtain⟨c,f,fn,t,e,ho,hcal,hk,has,hfn,horg,hpar,he1,hz1⟩:=RH hop
     have hex:=tc (a:=a) (w:=w) (call:=call) ho hcal ok hk
     have dok:=ok.del f k fn t e z hk hfn horg hpar he1 hz1
     have dok2:∀{cc:Nat}{cs es es':List (List PV)},ft call cc (cs.map tR) es=some es'→Rk Γ P f z cc cs es es':=fun{cc}{cs}{es}{es'}h=>by
      obtain⟨rfl,hp⟩:=zJ h
      exact dok _ _ _ (fun e=>Sz (call cc (.agg (e.map .pv)::cs.map tR))) (fun fc hfc=>ok.there _ _ hfc) fun e he fc hfc=>ok.sound _ _ _ _ hfc (hp e he)
     obtain⟨x0,g0,hxs,cx,cg⟩:=Vn has
     have rx:=kF s cx
     have rg:=kF s cg
     have hargs:c.args.map a.eval= #[a.eval x0,a.eval g0]:=Array.ext' (by rw[Ym,hxs];rfl)
     unfold Oper.wp
     rw[hex,Oper.upon_enter,hargs]
     split at he
     ·rename_i v1 hf;cases hf
     ·split at he
      ·rename_i v1 h1 hee
       cases he
       simp only[cI]at hee
       split at hee
       ·rename_i cc cs ex eg
        rw[ex]at rx
        rw[eg]at rg
        obtain⟨ad,ux⟩:∃ad,a.eval x0= .slice ad 0 0:=rx
        ·cases hee
         rw[ux]
         refine((dok2 (es:=[]) rfl).1 rfl _ w _ ad s.inv (show LR (Mu M0 ρ σ.h) w [] [] (.fn cc cs) (a.eval g0)from rg)).mono fun e w'⟨he,hb⟩=> ?_
         subst he
         exact fin hb (v:= .one .nil) ⟨ad,rfl⟩ rfl
       ·rename_i o1 cc cs ex eg
        rw[ex]at rx
        rw[eg]at rg
        split at hee
        ·rename_i z1 es ho1
         split at hee
         ·rename_i hz
          subst hz
          split at hee
          ·rename_i es' hr
           cases hee
           refine(Tl s (dok2 hr) ho1 rx rg).mono fun e w'⟨u,ρ',he,hb,g1,g2,g3⟩=> ?_
           subst he
           exact hK _ _ ρ' ⟨g1,(s.fr.ch g2).put o.dst g3,Γ.keep _ _ s.inv (hb.mono s.b0),s.b0⟩ hb g2
          ·cases hee
         ·cases hee
        ·cases hee
       ·cases hee
      ·cases he
    cases op<;>simp[AOp.isCall]at hcall
    case delF k z x g=>exact absurd ⟨k,z,x,g,rfl⟩ hv7
    case insert k z b x i v=>exact absurd ⟨k,z,b,x,i,v,rfl⟩ hv4
    case callV x xz=>exact absurd ⟨x,xz,rfl⟩ hv
    case s2b x=>exact absurd ⟨x,rfl⟩ hv2
    case callD k xz=>exact absurd ⟨k,xz,rfl⟩ hv3
    case buildF z ps=>exact absurd ⟨z,ps,rfl⟩ hv5
    case slcF z x lo hi=>exact absurd ⟨z,x,lo,hi,rfl⟩ hv6
    rename_i k xz fl fz
    obtain⟨c,f,ho,hcal,hk,has⟩:=KG hop
    have hex:=tc (a:=a) (w:=w) (call:=call) ho hcal ok hk
    obtain⟨hal,har⟩:=pY s has
    have hvals:(c.args.map a.eval).toList=c.args.toList.map a.eval:=by simp
    unfold Oper.wp
    rw[hex,Oper.upon_enter]
    split at he
    ·rename_i v hf
     cases he
     simp only[bJ]at hf
     split at hf
     ·split at hf
      ·rename_i hfl hmut
       split at hf
       ·rename_i avs havs
        split at hf
        ·rename_i r hr
         split at hf
         ·cases hf
         ·rename_i hflat
          cases hf
          obtain⟨hclean,hcalls⟩:=ok.sound f k avs r hk hr
          cases fl with
          |true=>
           have hflat':r.flat=true:=by simpa using hflat
           have ha:qc (fun _=>False) w avs (c.args.map a.eval).toList:=by
            rw[hvals]
            exact jL havs hal har (fun v l p u _ _ hl hv=>rq s.hr hl hv) (fun e u r=>r.weak (fun _ h=>h.elim))
           refine(hcalls (fun _=>False) w _ s.inv (fun b h=>h.elim) ha).mono fun e w'⟨v,he,hb,hrr⟩=> ?_
           subst he
           exact fin hb (zq hflat' hrr) rfl
          |false=>
           have hm:∀v∈xz.map (Opd.ev σ),V.mut σ.h v=false:=by
            intro v hv
            simp only[Bool.false_or,Yb]at hmut
            have:=(List.any_eq_false.1 hmut) v hv
            simpa using this
           have ha:qc (Mu M0 ρ σ.h) w avs (c.args.map a.eval).toList:=by
            rw[hvals]
            refine jL havs hal har (fun v l p u hv hl hlr hvw=>nI s.hr hlr hvw ?_) (fun _ _ r=>r)
            have:=hm v hv
            simp only[V.mut]at this
            have:=(List.any_eq_false.1 this) l hl
            simpa using this
           refine(hcalls (Mu M0 ρ σ.h) w _ s.inv (fun b hb=>Mu.lt s.hr hb) ha).mono fun e w'⟨v,he,hb,hrr⟩=> ?_
           subst he
           exact fin hb (JE s.hr hb hclean hrr) rfl
        ·cases hf
       ·cases hf
      ·cases hf
     ·cases hf
    ·split at he
     ·rename_i v h' hee
      cases he
      cases fl<;>cases fz<;>simp only[cI]at hee<;>try (cases hee;done)
      split at hee
      ·rename_i avs havs
       split at hee
       ·rename_i r hr
        have hee':=Option.some.inj hee
        obtain⟨rfl,rfl⟩:v=(thaw (freezeVs σ.h (xz.map (Opd.ev σ))) r.ow).1∧h'=(thaw (freezeVs σ.h (xz.map (Opd.ev σ))) r.ow).2:=⟨by rw[hee'],by rw[hee']⟩
        obtain⟨hclean,hcalls⟩:=ok.sound f k avs r hk hr
        obtain⟨k1,c1⟩:=s.hr.freezeVs (xz.map (Opd.ev σ))
        have ha:qc (Mu M0 ρ (freezeVs σ.h (xz.map (Opd.ev σ)))) w avs (c.args.map a.eval).toList:=by
         rw[hvals]
         exact jL havs hal har (fun v l p u hv hl hlr hvw=>nI k1 (hlr.ch c1) (by rw[jI];exact hvw) (kS _ l (.inr ⟨v,hv,hl⟩))) (fun e u r=>r.go c1.go)
        refine(hcalls _ w _ s.inv (fun b hb=>Mu.lt k1 hb) ha).mono fun e w'⟨v,he,hb,hrr⟩=> ?_
        subst he
        obtain⟨ρ',g1,g2,g3⟩:=F2 k1 hb (V.clean_ow hclean) hrr.ow
        exact hK _ _ ρ' ⟨g1,(s.fr.ch (c1.trans g2)).put o.dst g3,Γ.keep _ _ s.inv (hb.mono (Zc s.b0 s.hr.le)),s.b0⟩ (hb.mono s.hr.le) (c1.trans g2)
       ·cases hee
      ·cases hee
     ·cases he
   ·have hnc:op.isCall=false:=by simpa using hcall
    split at he
    ·rename_i v hf
     cases he
     obtain⟨u,hu,hv⟩:=Br ok.prog s hop hnc hf
     unfold Oper.wp
     rw[hu,Oper.upon_value]
     exact fin (Below.refl _ _) hv rfl
    ·split at he
     ·rename_i v h' hee
      cases he
      have ht:ko P M0 base σ w ρ v h' (execOp a.eval o):=by
       cases hoo:o.op<;>rw[hoo]at hop
       case alloc t=>exact B1 s hoo (hoo▸hop) hee
       case box t x=>exact HY s hoo (hoo▸hop) hee
       case buildSlice t n ps=>exact IP s hoo (hoo▸hop) hee
       case store t x y=>exact Ma s hoo (hoo▸hop) hee
       case makeSlice t x y=>exact Nx s hoo (hoo▸hop) hee
       case slice t x lo hi mx=>exact F9 s hoo (hoo▸hop) hee
       case makeFunc fn first caps=>exact Nz s hoo (hoo▸hop) hee
       case call c=>
        cases op
        case append z b x y=>exact IG s hoo (hoo▸hop) hee
        case appendS b x y=>exact GM s hoo (hoo▸hop) hee
        all_goals first
         |(simp[AOp.isCall]at hnc;done)
         |(cases hee;done)
         |(exfalso;simp only[fI]at hop;repeat' (split at hop))<;>cases hop
       all_goals
        exfalso
        simp only[fI]at hop
        first
         |(cases hop;done)
         |(simp only[Zj]at hop;obtain⟨_,_,rfl⟩:=hop;cases hee;done)
         |(repeat' (split at hop))<;>first|(cases hop;done)|(cases hop;cases hee;done)
      obtain⟨n,u,w',ρ',h1,h2,h3,h4,h5,h6⟩:=ht
      unfold Oper.wp
      rw[h1]
      have hSR:K (a.put o.dst u) w':=hK _ _ ρ' ⟨h4,(s.fr.ch h5).put o.dst h6,Γ.keep _ _ s.inv (h3.mono s.b0),s.b0⟩ h3 h5
      rcases h2 with rfl|⟨rfl,rfl⟩
      ·exact hSR
      ·exact hSR
     ·cases he
  ·rename_i hw
   cases he
   rw[oP s hg hw]
   exact hK _ _ ρ ⟨s.hr,s.fr.put o.dst VR.undef,s.inv,s.b0⟩ (Below.refl _ _) (Ch.refl _ _ _ _)
  ·cases he
 ·cases hc
theorem BW {d:Md}{op:Op}{n:Nat}{x y:Opd}(hop:fI P kf d op=some (.store n x y)):∃t x0 y0,op= .store t x0 y0:=by
 cases hoo:op<;>rw[hoo]at hop
 case store t x0 y0=>exact⟨t,x0,y0,rfl⟩
 all_goals
  exfalso
  simp only[fI]at hop
  first
   |(cases hop;done)
   |((repeat' (split at hop))<;>first|contradiction|(cases hop;done)|(simp at hop;done))
theorem Sf {d:Md}{op:Op}{g:Bool}{n:Nat}{x:Opd}(hop:fI P kf d op=some (.load g n x)):∃t x0,op= .load t x0:=by
 cases hoo:op<;>rw[hoo]at hop
 case load t x0=>exact⟨t,x0,rfl⟩
 all_goals
  exfalso
  simp only[fI]at hop
  first
   |(cases hop;done)
   |((repeat' (split at hop))<;>first|contradiction|(cases hop;done)|(simp at hop;done))
theorem MV {d:Md}{op:Op}{z b:Nat}{x y:Opd}(hop:fI P kf d op=some (.append z b x y)):∃c,op= .call c:=by
 cases hoo:op<;>rw[hoo]at hop
 case call c=>exact⟨c,rfl⟩
 all_goals
  exfalso
  simp only[fI]at hop
  first
   |(cases hop;done)
   |((repeat' (split at hop))<;>first|contradiction|(cases hop;done)|(simp at hop;done))
inductive Rd:AOp→AOp→Prop where
 |same (op:AOp):Rd op op
 |loadA (g:Bool) (n:Nat) (a:Opd):Rd (.load g n a) (.loadA g n a)
 |loadN (g:Bool) (n:Nat) (a:Opd) (r:Nat):Rd (.load g n a) (.loadN g n a r)
 |storeB (n:Nat) (a v:Opd):Rd (.store n a v) (.storeB n a v)
 |storeT (n:Nat) (a v:Opd):Rd (.store n a v) (.storeT n a v)
 |allocT (cs:List L):Rd (.alloc cs) (.allocT cs.length)
 |allocW (cs:List L):Rd (.alloc cs) (.allocW cs)
 |allocAt (cs:List L) (i:Nat):Rd (.alloc cs) (.allocAt i cs)
 |boxW (n:Nat) (x:Opd):Rd (.box x) (.boxW n x)
 |storeD (n:Nat) (a v:Opd):Rd (.store n a v) (.storeD n a v)
 |appendD (z b:Nat) (x y:Opd):Rd (.append z b x y) (.appendD z b x y)
 |buildD (z:Nat) (ps:List Opd):Rd (.buildS z ps) (.buildD z ps)
 |callC (f:Nat) (xz:List Opd) (fl fz:Bool):Rd (.call f xz fl fz) (.callC f xz)
 |loadZ (g:Bool) (n:Nat) (a:Opd):Rd (.load g n a) (.loadZ g n a)
 |storeZ (n:Nat) (a v:Opd):Rd (.store n a v) (.storeZ n a v)
 |indexZ (z:Nat) (x i:Opd):Rd (.indexA z x i) (.indexZ z x i)
 |lenZ (x:Opd):Rd (.len x) (.lenZ x)
 |callM (f:Nat) (x k:Opd) (fl fz:Bool):Rd (.call f [x,k] fl fz) (.callM f x k)
 |callZ (f:Nat) (xz:List Opd) (fl fz:Bool):Rd (.call f xz fl fz) (.callZ f xz)
 |callF (f:Nat) (xz:List Opd) (fl fz:Bool):Rd (.call f xz fl fz) (.callF f xz)
 |callD (f:Nat) (xz:List Opd) (fl fz:Bool):Rd (.call f xz fl fz) (.callD f xz)
theorem So (md:Md)(dst:Option Nat)(op:AOp):Rd op (xl md dst op):=by
 cases op with
 |alloc zero=>
  cases dst with
  |none=>exact .same _
  |some t=>
   simp only[xl]
   split
   ·constructor
   ·split
    ·constructor
    ·split<;>constructor
 |store n a v=>
  cases a with
  |tmp t=>
   simp only[xl]
   split
   ·constructor
   ·split
    ·constructor
    ·split<;>constructor
  |_=>exact .same _
 |load g n a=>
  simp only[xl]
  split
  ·constructor
  ·split<;>constructor
 |box x=>
  cases dst with
  |none=>exact .same _
  |some t=>simp only[xl];split<;>constructor
 |append z b x y=>simp only[xl];split<;>constructor
 |buildS z ps=>simp only[xl];split<;>constructor
 |call f xz fl fz=>
  simp only[xl]
  (repeat' split)<;>constructor
 |_=>exact .same _
theorem Sp (zl:List Nat)(mk:Bool)(dst:Option Nat)(op:AOp):Rd op (O6 zl mk dst op):=by
 cases op with
 |load g n a=>constructor
 |store n a v=>constructor
 |indexA z x i=>constructor
 |len x=>constructor
 |call f xz fl fz=>
  simp only[O6]
  (repeat' split)<;>constructor
 |_=>exact .same _
theorem vT {h:List AObj}:∀(vs:List V),aj h (vs.map V.unsub)=aj h vs
 |[]=>rfl
 |v::vs=>by
  have hl:∀l:L,l.unsub.view h=l.view h:=fun l=>by cases l<;>rfl
  have hls:∀ls:List L,viewL h (ls.map L.unsub)=viewL h ls:=fun ls=>by
   induction ls with
   |nil=>rfl
   |cons l ls ih=>simp only[Zv,viewL,hl,ih]
  have hv:v.unsub.view h=v.view h:=by
   cases v with
   |one l=>cases l<;>rfl
   |agg ls=>simp only[V.unsub,V.view,hls]
   |tup xs=>rfl
  simp only[Zv,aj,hv,vT vs]
theorem L9 (ok:CallOK Γ P kf call)(s:SR Γ M0 base σ a w ρ){ops:Array Oper}{o:Oper}{d:Md}{oo:AOper}{σ':St}{K:Act→World→Prop}{Q:Exit→Act→World→Prop}
 (hc:xa P kf d ops o=some oo) (he:aJ call oo σ=some σ')
 (hK:∀M0' a' w' ρ',(∀b,M0 b→M0' b)→(oo.op.noZ=true→M0'=M0)→SR Γ M0' base σ' a' w' ρ'→Below base w w'→Ch (Mu M0 ρ σ.h) (Mu M0' ρ' σ'.h) w w' ρ ρ' σ.h σ'.h→K a' w'):
 if Region.wanted o (yielded ops a.tmps)then o.wp P a w K Q else K (a.put o.dst undef) w:=by
 unfold xa at hc
 split at hc
 ·rename_i x hx
  cases hc
  have hx':=hx
  unfold IS at hx'
  split at hx'
  ·rename_i op g hop hg
   cases hx'
   have hK1:∀a' w' ρ',SR Γ M0 base σ' a' w' ρ'→Below base w w'→Ch (Mu M0 ρ σ.h) (Mu M0 ρ' σ'.h) w w' ρ ρ' σ.h σ'.h→K a' w':=fun a' w' ρ' h1 h2 h3=>hK M0 a' w' ρ' (fun _ h=>h) (fun _=>rfl) h1 h2 h3
   have turn:∀{v:V}{h':List AObj},ko P M0 base σ w ρ v h' (execOp a.eval o)→σ'=⟨put σ.t o.dst v,h'⟩→bf σ g=some true→(if Region.wanted o (yielded ops a.tmps)then o.wp P a w K Q else K (a.put o.dst undef) w):=by
    intro v h' ht e hw
    rw[oP s hg hw,if_pos rfl]
    obtain⟨n,u,w',ρ',h1,h2,h3,h4,h5,h6⟩:=ht
    subst e
    unfold Oper.wp
    rw[h1]
    have hSR:K (a.put o.dst u) w':=hK1 _ _ ρ' ⟨h4,(s.fr.ch h5).put o.dst h6,Γ.keep _ _ s.inv (h3.mono s.b0),s.b0⟩ h3 h5
    rcases h2 with rfl|⟨rfl,rfl⟩
    ·exact hSR
    ·exact hSR
   have valu:∀{v:V}{u:Value},(execOp a.eval o).run P w= .ok (.value u) w→VR (Mu M0 ρ σ.h) w ρ σ.h v u→σ'=⟨put σ.t o.dst v,σ.h⟩→bf σ g=some true→(if Region.wanted o (yielded ops a.tmps)then o.wp P a w K Q else K (a.put o.dst undef) w):=by
    intro v u h1 h2 e hw
    exact turn ⟨.value u,u,w,ρ,h1, .inl rfl,Below.refl _ _,s.hr,Ch.refl _ _ _ _,h2⟩ e hw
   have skip:bf σ g=some false→σ'=⟨put σ.t o.dst (.tup []),σ.h⟩→(if Region.wanted o (yielded ops a.tmps)then o.wp P a w K Q else K (a.put o.dst undef) w):=by
    intro hw e
    subst e
    rw[oP s hg hw]
    exact hK1 _ _ ρ ⟨s.hr,s.fr.put o.dst VR.undef,s.inv,s.b0⟩ (Below.refl _ _) (Ch.refl _ _ _ _)
   have enter:∀{k xz fl fz},fI P kf d o.op=some (.call k xz fl fz)→∃(f:FuncId)(xs:Array Operand),kf f=some k∧gh (mK kf) xs.toList=some xz∧
    ((Calls P f (xs.map a.eval) w fun e w'=>∃v,e= .returned v∧K (a.put o.dst v) w')→bf σ g=some true→(if Region.wanted o (yielded ops a.tmps)then o.wp P a w K Q else K (a.put o.dst undef) w)):=by
    intro k xz fl fz hop
    obtain⟨c,f,ho,hcal,hk,has⟩:=KG hop
    refine⟨f,c.args,hk,has,fun hcalls hw=> ?_⟩
    rw[oP s hg hw,if_pos rfl]
    unfold Oper.wp
    rw[tc (a:=a) (w:=w) (call:=call) ho hcal ok hk,Oper.upon_enter]
    refine hcalls.mono fun e w'⟨v,he,hk⟩=> ?_
    subst he
    exact hk
   have args:∀{xz:List Opd}{xs:Array Operand}{avs:List V},gh (mK kf) xs.toList=some xz→aj (lent σ.h) (xz.map (Opd.ev σ))=some avs→qc (fun _=>False) w avs (xs.map a.eval).toList:=by
    intro xz xs avs has hav
    have s':=s.unz
    obtain⟨hal,har⟩:=pY s' has
    have e:xz.map (Opd.ev ⟨σ.t.map V.unsub,lent σ.h⟩)=(xz.map (Opd.ev σ)).map V.unsub:=by
     rw[List.map_map]
     exact Yh fun x _=>Eu x
    rw[show(xs.map a.eval).toList=xs.toList.map a.eval by simp]
    refine jL (h:=lent σ.h) ?_ hal har (fun v l p u _ _ hl hv=>rq s'.hr hl hv) (fun e u r=>r.weak (fun _ h=>h.elim))
    rw[e,vT]
    exact hav
   have args1:∀{xz:List Opd}{xs:Array Operand}{avs:List V},gh (mK kf) xs.toList=some xz→aj σ.h (xz.map (Opd.ev σ))=some avs→qc (fun _=>False) w avs (xs.map a.eval).toList:=by
    intro xz xs avs has hav
    obtain⟨hal,har⟩:=pY s has
    rw[show(xs.map a.eval).toList=xs.toList.map a.eval by simp]
    exact jL hav hal har (fun v l p u _ _ hl hv=>rq s.hr hl hv) (fun e u r=>r.weak (fun _ h=>h.elim))
   generalize hop':(if d.zn=true then O6 d.zl (Vi kf o.op) o.dst op else xl d o.dst op)=op' at he hK
   have rd:Rd op op':=by
    subst hop'
    split
    ·exact Sp _ _ _ _
    ·exact So _ _ _
   have plain:∀{op2:AOp},op2=op→aJ call ⟨o.dst,op2,g⟩ σ=some σ'→(if Region.wanted o (yielded ops a.tmps)then o.wp P a w K Q else K (a.put o.dst undef) w):=fun e h2=>by
    subst e
    exact JK ok s hx h2 hK1
   clear hop'
   cases rd with
   |same=>exact plain rfl he
   |loadA g1 n x=>
    refine plain rfl ?_
    unfold aJ at he⊢
    simp only at he⊢
    split at he
    ·split at he
     ·rename_i v hf
      simp only[bJ]at hf⊢
      split at hf
      ·cases hf
      ·rw[hf];exact he
     ·rename_i hf
      split at he
      ·rename_i hee;cases hee
      ·cases he
    ·exact he
    ·cases he
   |loadN g1 n x r=>
    refine plain rfl ?_
    unfold aJ at he⊢
    simp only at he⊢
    split at he
    ·split at he
     ·rename_i v hf
      simp only[bJ]at hf⊢
      split at hf
      ·rw[hf];exact he
      ·cases hf
     ·rename_i hf
      split at he
      ·rename_i hee;cases hee
      ·cases he
    ·exact he
    ·cases he
   |storeB n x y=>
    refine plain rfl ?_
    unfold aJ at he⊢
    simp only at he⊢
    split at he
    ·split at he
     ·rename_i v hf;cases hf
     ·split at he
      ·rename_i v h' hee
       simp only[cI]at hee⊢
       split at hee
       ·simp only[bJ]
        rw[hee]
        exact he
       ·cases hee
      ·cases he
    ·exact he
    ·cases he
   |storeT n x y=>
    unfold aJ at he
    simp only at he
    split at he
    ·rename_i hw
     split at he
     ·rename_i v hf;cases hf
     ·split at he
      ·rename_i v h' hee
       cases he
       simp only[cI]at hee
       split at hee
       ·rename_i m hev
        split at hee
        ·rename_i hcond
         obtain⟨rfl,hlen,hpl⟩:=hcond
         cases hee
         obtain⟨t,x0,y0,hoo⟩:=BW hop
         exact turn (JM s hoo hop hev hlen hpl) rfl hw
        ·cases hee
       ·cases hee
      ·cases he
    ·rename_i hw
     cases he
     exact skip hw rfl
    ·cases he
   |allocT cs=>
    unfold aJ at he
    simp only at he
    split at he
    ·rename_i hw
     split at he
     ·rename_i v hf;cases hf
     ·split at he
      ·rename_i v h' hee
       cases he
       simp only[cI]at hee
       cases hee
       obtain⟨t,hoo⟩:∃t,o.op= .alloc t:=by
        cases hoo:o.op<;>rw[hoo]at hop
        case alloc t=>exact⟨t,rfl⟩
        all_goals
         exfalso
         simp only[fI]at hop
         first
          |(cases hop;done)
          |((repeat' (split at hop))<;>first|contradiction|(cases hop;done)|(simp at hop;done))
       exact turn (IC s hoo hop) rfl hw
      ·cases he
    ·rename_i hw
     cases he
     exact skip hw rfl
    ·cases he
   |allocW cs=>
    unfold aJ at he
    simp only at he
    split at he
    ·rename_i hw
     split at he
     ·rename_i v hf;cases hf
     ·split at he
      ·rename_i v h' hee
       cases he
       simp only[cI]at hee
       cases hee
       obtain⟨t,hoo⟩:∃t,o.op= .alloc t:=by
        cases hoo:o.op<;>rw[hoo]at hop
        case alloc t=>exact⟨t,rfl⟩
        all_goals
         exfalso
         simp only[fI]at hop
         first
          |(cases hop;done)
          |((repeat' (split at hop))<;>first|contradiction|(cases hop;done)|(simp at hop;done))
       exact turn (ID s hoo hop) rfl hw
      ·cases he
    ·rename_i hw
     cases he
     exact skip hw rfl
    ·cases he
   |boxW n x=>
    unfold aJ at he
    simp only at he
    split at he
    ·rename_i hw
     split at he
     ·rename_i v hf;cases hf
     ·split at he
      ·rename_i v h' hee
       cases he
       obtain⟨t,x0,hoo⟩:∃t x0,o.op= .box t x0:=by
        cases hoo:o.op<;>rw[hoo]at hop
        case box t x0=>exact⟨t,x0,rfl⟩
        all_goals
         exfalso
         simp only[fI]at hop
         first
          |(cases hop;done)
          |((repeat' (split at hop))<;>first|contradiction|(cases hop;done)|(simp at hop;done))
       exact turn (M3 s hoo hop (by simpa only[cI]using hee)) rfl hw
      ·cases he
    ·rename_i hw
     cases he
     exact skip hw rfl
    ·cases he
   |allocAt cs i=>
    unfold aJ at he
    simp only at he
    split at he
    ·rename_i hw
     split at he
     ·rename_i v hf;cases hf
     ·split at he
      ·rename_i v h' hee
       cases he
       simp only[cI]at hee
       split at hee
       ·rename_i hi
        cases hee
        obtain⟨t,hoo⟩:∃t,o.op= .alloc t:=by
         cases hoo:o.op<;>rw[hoo]at hop
         case alloc t=>exact⟨t,rfl⟩
         all_goals
          exfalso
          simp only[fI]at hop
          first
           |(cases hop;done)
           |((repeat' (split at hop))<;>first|contradiction|(cases hop;done)|(simp at hop;done))
        exact turn (GK s hi hoo hop) rfl hw
       ·cases hee
      ·cases he
    ·rename_i hw
     cases he
     exact skip hw rfl
    ·cases he
   |storeD n x y=>
    unfold aJ at he
    simp only at he
    split at he
    ·rename_i hw
     split at he
     ·rename_i v hf;cases hf
     ·split at he
      ·rename_i v h' hee
       have old:bB σ.h n (x.ev σ) (y.ev σ)=some h'→v= .tup []→(if Region.wanted o (yielded ops a.tmps)then o.wp P a w K Q else K (a.put o.dst undef) w):=fun h1 h2=>by
        subst h2
        refine plain (op2:= .store n x y) rfl ?_
        unfold aJ
        simp only[hw,bJ,cI,h1]
        exact he
       simp only[cI]at hee
       split at hee
       ·rename_i h2 hst
        cases hee
        unfold storeD at hst
        split at hst
        ·rename_i ob i j hev
         split at hst
         ·rename_i z es hd
          split at hst
          ·rename_i e ps hei hps
           split at hst
           ·rename_i hcond
            cases hst
            obtain⟨c1,c2,c3,c4,c5⟩:=hcond
            obtain⟨t,x0,y0,hoo⟩:=BW hop
            cases he
            exact turn (JL s hoo hop hev hd hei hps c1 c2 c3 c4 c5) rfl hw
           ·cases hst
          ·cases hst
         ·exact old hst rfl
        ·cases hst
       ·cases hee
      ·cases he
    ·rename_i hw
     cases he
     exact skip hw rfl
    ·cases he
   |appendD z b x y=>
    unfold aJ at he
    simp only at he
    split at he
    ·rename_i hw
     split at he
     ·rename_i v hf;cases hf
     ·split at he
      ·rename_i v h' hee
       cases he
       obtain⟨c,hoo⟩:=MV hop
       exact turn (GL s hoo hop hee) rfl hw
      ·cases he
    ·rename_i hw
     cases he
     exact skip hw rfl
    ·cases he
   |buildD z ps=>
    unfold aJ at he
    simp only at he
    split at he
    ·rename_i hw
     split at he
     ·rename_i v hf;cases hf
     ·split at he
      ·rename_i v h' hee
       cases he
       simp only[cI]at hee
       split at hee
       ·rename_i hcond
        simp only[Zh,decide_eq_true_eq,Zu,beq_iff_eq]at hcond
        obtain⟨⟨⟨⟨c1,c2⟩,c3⟩,c4⟩,c5⟩:=hcond
        split at hee
        ·rename_i es hes
         cases hee
         obtain⟨t,n,parts,hoo⟩:∃t n parts,o.op= .buildSlice t n parts:=by
          cases hoo:o.op<;>rw[hoo]at hop
          case buildSlice t n parts=>exact⟨t,n,parts,rfl⟩
          all_goals
           exfalso
           simp only[fI]at hop
           first
            |(cases hop;done)
            |((repeat' (split at hop))<;>first|contradiction|(cases hop;done)|(simp at hop;done))
         exact turn (IM s hoo hop (fun y hy=>c1 _ (Yt.2 ⟨y,hy,rfl⟩)) c2 (by simpa using c3) (Zu.2 c4) c5 hes) rfl hw
        ·cases hee
       ·cases hee
      ·cases he
    ·rename_i hw
     cases he
     exact skip hw rfl
    ·cases he
   |callC f xz fl fz=>
    unfold aJ at he
    simp only at he
    split at he
    ·rename_i hw
     split at he
     ·rename_i v hf;cases hf
     ·split at he
      ·rename_i v h' hee
       cases he
       simp only[cI]at hee
       split at hee
       ·rename_i avs havs
        split at hee
        ·rename_i r hr
         have hee':=Option.some.inj hee
         obtain⟨fid,xs,hk,has,ent⟩:=enter hop
         obtain⟨hclean,hcalls⟩:=ok.sound fid f avs r hk hr
         by_cases hcl:r.closed=true
         ·rw[if_pos hcl]at hee'
          obtain⟨rfl,rfl⟩:v=(thaw σ.h r).1∧h'=(thaw σ.h r).2:=⟨by rw[hee'],by rw[hee']⟩
          refine ent ((hcalls (fun _=>False) w _ s.inv (fun b h=>h.elim) (args1 has havs)).mono fun e w'⟨v,he,hb,hrr⟩=>⟨v,he,?_⟩) hw
          obtain⟨ρ',g1,g2,g3⟩:=F2 s.hr hb hclean (hrr.weaken hcl (fun b hm=>Mu.lt s.hr hm))
          exact hK1 _ _ ρ' ⟨g1,(s.fr.ch g2).put o.dst g3,Γ.keep _ _ s.inv (hb.mono (Zc s.b0 s.hr.le)),s.b0⟩ (hb.mono s.hr.le) g2
         ·rw[if_neg hcl]at hee'
          obtain⟨rfl,rfl⟩:v=(thaw (freezeVs σ.h (xz.map (Opd.ev σ))) r).1∧h'=(thaw (freezeVs σ.h (xz.map (Opd.ev σ))) r).2:=⟨by rw[hee'],by rw[hee']⟩
          obtain⟨k1,c1⟩:=s.hr.freezeVs (xz.map (Opd.ev σ))
          obtain⟨hal,har⟩:=pY s has
          have ha:qc (Mu M0 ρ (freezeVs σ.h (xz.map (Opd.ev σ)))) w avs (xs.map a.eval).toList:=by
           rw[show(xs.map a.eval).toList=xs.toList.map a.eval by simp]
           exact jL havs hal har (fun v l p u hv hl hlr hvw=>nI k1 (hlr.ch c1) (by rw[jI];exact hvw) (kS _ l (.inr ⟨v,hv,hl⟩))) (fun e u r=>r.go c1.go)
          refine ent ((hcalls _ w _ s.inv (fun b hb=>Mu.lt k1 hb) ha).mono fun e w'⟨v,he,hb,hrr⟩=>⟨v,he,?_⟩) hw
          obtain⟨ρ',g1,g2,g3⟩:=F2 k1 hb hclean hrr
          exact hK1 _ _ ρ' ⟨g1,(s.fr.ch (c1.trans g2)).put o.dst g3,Γ.keep _ _ s.inv (hb.mono (Zc s.b0 s.hr.le)),s.b0⟩ (hb.mono s.hr.le) (c1.trans g2)
        ·cases hee
       ·cases hee
      ·cases he
    ·rename_i hw
     cases he
     exact skip hw rfl
    ·cases he
   |loadZ g1 n x=>
    unfold aJ at he
    simp only at he
    split at he
    ·rename_i hw
     split at he
     ·rename_i v hf
      have old:bA σ.h g1 n (x.ev σ)=some v→(if Region.wanted o (yielded ops a.tmps)then o.wp P a w K Q else K (a.put o.dst undef) w):=fun h1=>by
       refine plain (op2:= .load g1 n x) rfl ?_
       unfold aJ
       simp only[hw,bJ,h1]
       exact he
      cases he
      simp only[bJ]at hf
      unfold sN at hf
      split at hf
      ·rename_i ob i j hev
       split at hf
       ·rename_i z es hob
        split at hf
        ·rename_i e hei
         split at hf
         ·rename_i l hej
          split at hf
          ·rename_i hcond
           obtain⟨rfl,rfl⟩:=hcond
           cases hf
           obtain⟨t,x0,hoo⟩:=Sf hop
           obtain⟨u,h1,h2⟩:=LB s hoo hop hev hob hei hej
           exact valu h1 h2 rfl hw
          ·cases hf
         ·cases hf
        ·cases hf
       ·exact old hf
      ·exact old hf
     ·split at he
      ·rename_i hee;cases hee
      ·cases he
    ·rename_i hw
     cases he
     exact skip hw rfl
    ·cases he
   |storeZ n x y=>
    unfold aJ at he
    simp only at he
    split at he
    ·rename_i hw
     split at he
     ·rename_i v hf;cases hf
     ·split at he
      ·rename_i v h' hee
       have old:bB σ.h n (x.ev σ) (y.ev σ)=some h'→v= .tup []→(if Region.wanted o (yielded ops a.tmps)then o.wp P a w K Q else K (a.put o.dst undef) w):=fun h1 h2=>by
        subst h2
        refine plain (op2:= .store n x y) rfl ?_
        unfold aJ
        simp only[hw,bJ,cI,h1]
        exact he
       simp only[cI]at hee
       split at hee
       ·rename_i h2 hst
        cases hee
        unfold wu at hst
        split at hst
        ·rename_i ob i j hev
         split at hst
         ·rename_i z es hob
          split at hst
          ·rename_i e p hei hyv
           split at hst
           ·rename_i q hej
            split at hst
            ·rename_i hcond
             obtain⟨rfl,hp,hq⟩:=hcond
             cases hst
             obtain⟨t,x0,y0,hoo⟩:=BW hop
             cases he
             exact turn (JN s hoo hop hev hob hei hyv hej hp hq) rfl hw
            ·cases hst
           ·cases hst
          ·cases hst
         ·exact old hst rfl
        ·exact old hst rfl
       ·cases hee
      ·cases he
    ·rename_i hw
     cases he
     exact skip hw rfl
    ·cases he
   |indexZ z x i=>
    unfold aJ at he
    simp only at he
    split at he
    ·rename_i hw
     split at he
     ·rename_i v hf
      by_cases hx:∃ob,x.ev σ= .one (.arr ob)
      ·obtain⟨ob,hev⟩:=hx
       cases he
       have hf':=hf
       rw[Qo]at hf'
       obtain⟨u,h1,h2⟩:=Br ok.prog s.unz hop rfl hf'
       simp only[bJ,hev]at hf
       split at hf
       ·split at hf
        ·simp only[aH]at hf
         have key:∀{ob' i':Nat},v= .one (.ptr ob' i' 0)→VR (Mu M0 ρ σ.h) w ρ σ.h v u:=by
          rintro ob' i' rfl
          obtain⟨r,y,q1,q2,q3⟩:=h2
          obtain⟨y0,q4,rfl⟩:=nA q2
          refine⟨r,y0,q1,q4,?_⟩
          cases y0<;>exact q3
         have:∃ob' i',v= .one (.ptr ob' i' 0):=by
          repeat' (split at hf)
          all_goals first
           |(cases hf;exact⟨_,_,rfl⟩)
           |cases hf
         obtain⟨ob',i',e⟩:=this
         exact valu h1 (key e) rfl hw
        ·cases hf
       ·cases hf
      ·refine plain (op2:= .indexA z x i) rfl ?_
       have e:bJ call σ (.indexA z x i)=bJ call σ (.indexZ z x i):=by
        simp only[bJ]
        have:∀n,aH (lent σ.h) z (x.ev σ) n=aH σ.h z (x.ev σ) n:=fun n=>by
         cases hxe:x.ev σ with
         |one l=>
          cases l with
          |arr ob=>exact absurd ⟨ob,hxe⟩ hx
          |pv p=>cases p<;>rfl
          |_=>rfl
         |_=>rfl
        simp only[this]
       unfold aJ
       simp only[hw,e,hf]
       exact he
     ·split at he
      ·rename_i hee;cases hee
      ·cases he
    ·rename_i hw
     cases he
     exact skip hw rfl
    ·cases he
   |lenZ x=>
    unfold aJ at he
    simp only at he
    split at he
    ·rename_i hw
     split at he
     ·rename_i v hf
      cases he
      have hf':=hf
      rw[Tz]at hf'
      obtain⟨u,h1,h2⟩:=Br ok.prog s.unz hop rfl hf'
      simp only[bJ]at hf
      split at hf
      ·cases hf
       exact valu h1 (by simpa[VR,LR,av]using h2) rfl hw
      ·cases hf
     ·split at he
      ·rename_i hee;cases hee
      ·cases he
    ·rename_i hw
     cases he
     exact skip hw rfl
    ·cases he
   |callM f x k fl fz=>
    unfold aJ at he
    simp only at he
    split at he
    ·rename_i hw
     split at he
     ·rename_i v hf;cases hf
     ·split at he
      ·rename_i v h' hee
       cases he
       simp only[cI]at hee
       split at hee
       ·rename_i n hkn
        obtain⟨fid,xs,hk,has,ent⟩:=enter hop
        obtain⟨x0,k0,hxs,cx,ck⟩:∃x0 k0,xs.toList=[x0,k0]∧mK kf x0=some x∧mK kf k0=some k:=by
         have hl:=ff has
         match hq:xs.toList,hl with
         |[x0,k0],_=>
          rw[hq]at has
          obtain⟨y0,h0,c0⟩:=iz has 0 x0 rfl
          obtain⟨y1,h1,c1⟩:=iz has 1 k0 rfl
          simp at h0 h1
          subst h0 h1
          exact⟨x0,k0,rfl,c0,c1⟩
        have rx:=kF s cx
        have rk:=kF s ck
        rw[hkn]at rk
        have ek:a.eval k0= .int .i64 n:=by simpa[VR,LR,av]using rk
        have hxs':xs.map a.eval= #[a.eval x0, .int .i64 n]:=Array.ext' (by rw[Ym,hxs];simp[ek])
        rw[hxs']at ent
        have fin:(Calls P fid #[a.eval x0, .int .i64 n] w fun e w'=>∃u,e= .returned u∧Below base w w'∧HR M0 base w' ρ h'∧Ch (Mu M0 ρ σ.h) (Mu M0 ρ h') w w' ρ ρ σ.h h'∧VR (Mu M0 ρ h') w' ρ h' v u)→(if Region.wanted o (yielded ops a.tmps)then o.wp P a w K Q else K (a.put o.dst undef) w):=fun h=>by
         refine ent (h.mono fun e w'⟨u,he,hb,g1,g2,g3⟩=>⟨u,he,?_⟩) hw
         exact hK1 _ _ ρ ⟨g1,(s.fr.ch g2).put o.dst g3,Γ.keep _ _ s.inv (hb.mono s.b0),s.b0⟩ hb g2
        unfold k9 at hee
        split at hee
        ·rename_i ob c hev
         rw[hev]at rx
         split at hee
         ·rename_i z es hob
          split at hee
          ·rename_i hce
           split at hee
           ·rename_i l hr
            split at hee
            ·cases hee
             refine fin ?_
             have hS:=ok.soundM fid f _ _ hk hr
             exact TC s rx hob hce hS
            ·cases hee
           ·cases hee
          ·rename_i l0 hne hce
           split at hee
           ·rename_i l' z' es' hr
            split at hee
            ·rename_i hcond
             obtain⟨_,rfl⟩:=hcond
             cases hee
             refine fin ?_
             have hS:=ok.soundM fid f _ _ hk hr
             exact TD s rx hob hce (fun e=>hne (by rw[e]at hce⊢)) hS
            ·cases hee
           ·cases hee
          ·cases hee
         ·cases hee
        ·split at hee
         ·rename_i hnd
          split at hee
          ·rename_i a' hl
           split at hee
           ·rename_i l outs hr
            split at hee
            ·split at hee
             ·rename_i h2 hp
              cases hee
              refine fin ?_
              have hS:=ok.soundM fid f _ _ hk hr
              exact Vk s rx hnd hl hS hp
             ·cases hee
            ·cases hee
           ·cases hee
          ·cases hee
         ·cases hee
       ·cases hee
      ·cases he
    ·rename_i hw
     cases he
     exact skip hw rfl
    ·cases he
   |callZ f xz fl fz=>
    unfold aJ at he
    simp only at he
    split at he
    ·rename_i hw
     split at he
     ·rename_i v hf;cases hf
     ·split at he
      ·rename_i v h' hee
       cases he
       simp only[cI]at hee
       split at hee
       ·rename_i avs havs
        split at hee
        ·rename_i r hr
         split at hee
         ·rename_i hcl
          have hee':=Option.some.inj hee
          obtain⟨rfl,rfl⟩:v=(sf σ.h r).1∧h'=(sf σ.h r).2:=⟨by rw[hee'],by rw[hee']⟩
          obtain⟨fid,xs,hk,has,ent⟩:=enter hop
          obtain⟨hclean,hcalls⟩:=ok.sound fid f avs r hk hr
          refine ent ((hcalls (fun _=>False) w _ s.inv (fun b h=>h.elim) (args has havs)).mono fun e w'⟨v,he,hb,hrr⟩=>⟨v,he,?_⟩) hw
          obtain⟨M0',ρ',g0,g1,g2,g3⟩:=QI s.hr hb hclean hcl hrr
          exact hK M0' _ _ ρ' g0 nofun ⟨g1,(s.fr.ch g2).put o.dst g3,Γ.keep _ _ s.inv (hb.mono (Zc s.b0 s.hr.le)),s.b0⟩ (hb.mono s.hr.le) g2
         ·cases hee
        ·cases hee
       ·cases hee
      ·cases he
    ·rename_i hw
     cases he
     exact skip hw rfl
    ·cases he
   |callF f xz fl fz=>
    unfold aJ at he
    simp only at he
    split at he
    ·rename_i hw
     split at he
     ·rename_i v hf
      cases he
      simp only[bJ]at hf
      split at hf
      ·rename_i avs havs
       split at hf
       ·rename_i r hr
        split at hf
        ·rename_i hfl
         cases hf
         obtain⟨fid,xs,hk,has,ent⟩:=enter hop
         obtain⟨hclean,hcalls⟩:=ok.sound fid f avs r hk hr
         refine ent ((hcalls (fun _=>False) w _ s.inv (fun b h=>h.elim) (args has havs)).mono fun e w'⟨v,he,hb,hrr⟩=>⟨v,he,?_⟩) hw
         obtain⟨k1,c1⟩:=s.hr.world hb.size (fun b hlt=>hb.block b hlt)
         exact hK1 _ _ ρ ⟨k1,(s.fr.ch c1).put o.dst (zq hfl hrr),Γ.keep _ _ s.inv (hb.mono (Zc s.b0 s.hr.le)),s.b0⟩ (hb.mono s.hr.le) c1
        ·cases hf
       ·cases hf
      ·cases hf
     ·split at he
      ·rename_i hee;cases hee
      ·cases he
    ·rename_i hw
     cases he
     exact skip hw rfl
    ·cases he
   |callD f xz fl fz=>
    unfold aJ at he
    simp only at he
    split at he
    ·rename_i hw
     split at he
     ·rename_i v hf;cases hf
     ·split at he
      ·rename_i v h' hee
       cases he
       simp only[cI]at hee
       split at hee
       ·rename_i avs havs
        split at hee
        ·rename_i r hr
         cases hee
         obtain⟨fid,xs,hk,has,ent⟩:=enter hop
         obtain⟨hclean,hcalls⟩:=ok.sound fid f avs r hk hr
         obtain⟨k1,c1⟩:=s.hr.freezeVs (xz.map (Opd.ev σ))
         obtain⟨hal,har⟩:=pY s has
         have ha:qc (Mu M0 ρ (freezeVs σ.h (xz.map (Opd.ev σ)))) w avs (xs.map a.eval).toList:=by
          rw[show(xs.map a.eval).toList=xs.toList.map a.eval by simp]
          exact jL havs hal har (fun v l p u hv hl hlr hvw=>nI k1 (hlr.ch c1) (by rw[jI];exact hvw) (kS _ l (.inr ⟨v,hv,hl⟩))) (fun e u r=>r.go c1.go)
         refine ent ((hcalls _ w _ s.inv (fun b hb=>Mu.lt k1 hb) ha).mono fun e w'⟨v,he,hb,hrr⟩=>⟨v,he,?_⟩) hw
         obtain⟨k2,c2⟩:=k1.world hb.size (fun b hlt=>hb.block b hlt)
         exact hK1 _ _ ρ ⟨k2,((s.fr.ch c1).ch c2).put o.dst (JE k1 hb hclean hrr),Γ.keep _ _ s.inv (hb.mono (Zc s.b0 s.hr.le)),s.b0⟩ (hb.mono s.hr.le) (c1.trans c2)
        ·cases hee
       ·cases hee
      ·cases he
    ·rename_i hw
     cases he
     exact skip hw rfl
    ·cases he
  ·cases hx'
 ·cases hc
end
end Gi
