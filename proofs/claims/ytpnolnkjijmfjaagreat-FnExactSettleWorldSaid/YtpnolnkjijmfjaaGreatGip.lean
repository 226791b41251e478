/- Of this proof. -/
import Derived.Test.YtpnolnkjijmfjaaGreatGilu
set_option linter.all false
namespace Gi
open Go Go.RowKit
set_option maxHeartbeats 2000000
variable {KI:KF}
section
variable {Γ:Ctx}{P:Program}{M0:Nat->Prop}{base:Nat}{Z:St}{a:Act}{w:World}{J:List (Option Nat)}{call:Nat->List V->Option V}
def acp [KI:KF](Γ:Ctx)(P:Program)(f z:Nat):Prop:=
 ∀(c:Nat)(cs es:List (List PV))(p:List PV->Bool),(∀fc,kf fc=some c->∃fn,P.funcs[fc]? =some fn/\ fn.body.isNone=false/\ (fn.name== "runtime.NumGoroutine")=false)->(∀e∈es,∀fc,kf fc=some c->CP Γ P fc (.agg (e.map .pv)::cs.map xg) (cL (p e)))->aay Γ P f z c cs es (es.filter fun e=> !p e)
def abL :Option V->Bool
 |some (.one (.pv (.bool b)))=>b
 |_=>false
def DO {call:Nat->List V->Option V}{c:Nat}{caps:List V}:∀{es es':List (List PV)},iR call c caps es=some es'->es'=es.filter (fun e=> !abL (call c (.agg (e.map .pv)::caps)))/\ ∀e∈es,call c (.agg (e.map .pv)::caps)=some (cL (abL (call c (.agg (e.map .pv)::caps))))
 |[],_,h=>by cases h;exact⟨rfl,fun e he=>by cases he⟩
 |e::es,es',h=>by simp only[iR]at h;split at h;rename_i b hb;split at h;rename_i r hr;cases h;obtain⟨i1,i2⟩:=DO hr;refine⟨?_,fun x hx=> ?_⟩;rw[YT,hb,<-i1];cases b<;>rfl;rcases ZG.1 hx with rfl|hx;rw[hb];rfl;exact i2 x hx;cases h;cases h
structure QA [KI:KF] (Γ:Ctx) (P:Program) (kf:FuncId->Option Nat) (call:Nat->List V->Option V):Prop where
 prog:KI.pr=P
 there:∀f k,kf f=some k->∃fn,P.funcs[f]? =some fn/\ fn.body.isNone=false/\ (fn.name== "runtime.NumGoroutine")=false
 sound:∀f k xz r,kf f=some k->call k xz=some r->CP Γ P f xz r
 soundM:∀f k xz r,kf f=some k->call (k+iT) xz=some r->El Γ P f xz r
 soundI:∀f k xz r,kf f=some k->call (k+2*iT) xz=some r->SZ Γ P f xz r
 ins:∀f k fn t e z b,kf f=some k->P.funcs[f]? =some fn->fn.origin= "slices.Insert" ->fn.params.toList.head? =some t->lR P t=some e->vX P e=some z->S9 P e=some b->CN P f z b
 del:∀f k fn t e z,kf f=some k->P.funcs[f]? =some fn->fn.origin= "slices.DeleteFunc" ->fn.params.toList.head? =some t->lR P t=some e->vX P e=some z->acp Γ P f z
def tG (s:SR Γ M0 base Z a w J){ops:Array Oper}{o:Oper}{g:Option (Nat×Bool)}{b:Bool}(hg:Nl ops o.guard=some g)(hw:dG Z g=some b):Region.wanted o (yielded ops a.tmps)=b:=by
 unfold Region.wanted;cases b6:o.guard with
 |none=>rw[b6]at hg;simp only[Nl]at hg;cases hg;simp only[dG]at hw;cases hw;rfl
 |some jw=>
  obtain⟨j,want⟩:=jw;rw[b6]at hg;simp only[Nl]at hg;split at hg;rename_i oj bz;split at hg;rename_i t ht;cases hg;simp only[dG]at hw;have hy:∀{x:Option Bool},(match a.tmps[t]? with|some (.bool b)=>some b|_=>none)=x->yielded ops a.tmps j=x:=by intro x hx;unfold yielded;simp only[bz,Option.bind_some,ht];exact hx
  have r:=s.fr.eval t;by_cases hlt:t<a.tmps.size;have ak:a.tmps[t]? =some (a.eval (.tmp t)):=by simp[Act.eval,hlt]
  split at hw;rename_i b' aX;cases hw;rw[aX]at r;have e:a.eval (.tmp t)= .bool b':=by simpa[VR,LR,cG]using r
  simp only[hy (show _=some b' by rw[ak,e])];cases b'<;>cases want<;>rfl;rename_i aX;cases hw;rw[aX]at r;obtain⟨vs,e,hl,_⟩:=r;simp only[hy (show _=none by rw[ak,e])];rfl;cases hw;have ak:a.tmps[t]? =none:=Yt (K' hlt);have bA:Z.t.getD t (.b8 [])= .b8 []:=by
   have:¬t<Z.t.length:=by rw[<-s.fr.size];exact hlt
   simp[List.getD,ZT (K' this)]
  rw[bA]at hw;cases hw;simp only[hy (show _=none by rw[ak])];rfl;cases hg;cases hg
def xr {o:Oper}{c:Call}{f:FuncId}(a2:o.op= .call c)(a7:c.callee= .value (.func f))(ok:QA Γ P kf call){k:Nat}(hk:kf f=some k):
 (execOp a.eval o).run P w= .ok (.enter f (c.args.map a.eval)) w:=by obtain⟨fn,h1,h2,h3⟩:=ok.there f k hk;simp only[execOp,a2,resolve,a7,Act.eval,Deferred.ofValue,Sem.run_bind,Sem.run_pure,Result.andThen_ok,invoke,callFunc,run_program,h1,h3,h2];simp
def Tr {o:Oper}{c:Call}{f:FuncId}{x:Operand}{cs:Array Value}(a2:o.op= .call c)(a7:c.callee= .value x)(hf:a.eval x= .func (.func f) #[] cs)(ok:QA Γ P kf call){k:Nat}(hk:kf f=some k):
 (execOp a.eval o).run P w= .ok (.enter f (c.args.map a.eval++cs)) w:=by obtain⟨fn,h1,h2,h3⟩:=ok.there f k hk;simp only[execOp,a2,resolve,a7,hf,Deferred.ofValue,Sem.run_bind,Sem.run_pure,Result.andThen_ok,invoke,callFunc,run_program,h1,h3,h2];simp
def Du {M M':Nat->Prop}{b:Nat}{h:List Q0}{r:V}{v:Value}(hf:r.flat=true)(rr:AU M b w r v):VR M' w J h (fe r) v:=by
 obtain⟨ρr,_,vr⟩:=rr;have leaf:∀{l:L}{u:Value}{M1:Nat->Prop}{ρ1:List (Option Nat)}{h1:List Q0},l.flat=true->LR M1 w ρ1 h1 l u->LR M' w J h (fv l) u:=by
  intro l u M1 ρ1 h1 hl hr;cases l with
  |pv p=>cases p<;>first|(simp[L.flat]at hl;done)|(simpa[fv,LR,cG]using hr)
  |_=>simp[L.flat]at hl
 have same:∀(ls:List L)(g:List Q0),ls.all L.flat=true->thawL g ls=(ls,g):=by
  intro ls;induction ls with
  |nil=>intro g _;rfl
  |cons l ls ih=>
   intro g hl;simp only[Zq,Zg]at hl;cases l with
   |pv p=>simp only[thawL,ih g hl.2]
   |_=>simp[L.flat]at hl
 have leaves:∀{ls:List L}{us:List Value}{M1:Nat->Prop}{ρ1:List (Option Nat)}{h1:List Q0},ls.all L.flat=true->xc M1 w ρ1 h1 ls us->xc M' w J h (ls.map fv) us:=by intro ls us M1 ρ1 h1 hl hr;refine⟨by simpa using hr.1,fun i l u hi hu=> ?_⟩;simp only[Zp,Zl]at hi;obtain⟨l0,h0,rfl⟩:=hi;exact leaf ((Zu.1 hl) l0 (Zn h0)) (hr.2 i l0 u h0 hu)
 cases r with
 |one l=>have e:=same [l] [] (by simpa[V.flat]using hf);simp only[thaw,e]at vr;exact leaf (by simpa[V.flat]using hf) vr
 |agg ls=>have e:=same ls [] (by simpa[V.flat]using hf);simp only[thaw,e]at vr;obtain⟨cs,rfl,hl⟩:=vr;exact⟨cs,rfl,leaves (by simpa[V.flat]using hf) hl⟩
 |b8 xs=>
  have aH:∀(xs:List (Bool×List L))(g:List Q0),(xs.all fun x=>x.2.all L.flat)=true->thawT g xs=(xs,g):=by
   intro xs;induction xs with
   |nil=>intro g _;rfl
   |cons x xs ih=>intro g hx;simp only[Zq,Zg]at hx;obtain⟨b,ls⟩:=x;simp only[thawT,same ls g hx.1,ih g hx.2]
  have b7:(xs.all fun x=>x.2.all L.flat)=true:=by simpa[V.flat]using hf
  simp only[thaw,aH xs [] b7]at vr;obtain⟨vs,rfl,h1,h2⟩:=vr;refine⟨vs,rfl,by simpa[fe]using h1,fun i x u hx hu=> ?_⟩;simp only[Zp,Zl]at hx;obtain⟨x0,h0,rfl⟩:=hx;have aR:=(Zu.1 b7) x0 (Zn h0);have:=h2 i x0 u h0 hu;obtain⟨b,ls⟩:=x0;cases b with
  |true=>obtain⟨cs,rfl,hl⟩:=this;exact⟨cs,rfl,leaves aR hl⟩
  |false=>
   match ls,this,aR with
   |[l],this,aR=>exact leaf (by simpa using aR) this
def ol (s:SR Γ M0 base Z a w J){x:Operand}{y:Opd}(h:ql kf x=some y):VR (Mu M0 J Z.h) w J Z.h (y.ev Z) (a.eval x):=by unfold ql at h;split at h;rename_i f;simp only[Zl]at h;obtain⟨k,hk,rfl⟩:=h;exact⟨f, #[],by simp[Act.eval],hk,rfl,fun i e u he=>by simp at he⟩;exact cR s h
def Mi (s:SR Γ M0 base Z a w J){g:Operand->Option Opd}(hg:∀x y,g x=some y->VR (Mu M0 J Z.h) w J Z.h (y.ev Z) (a.eval x)){xs:List Operand}{ys:List Opd}(h:j5 g xs=some ys):(ys.map (Opd.ev Z)).length=(xs.map a.eval).length/\
 ∀(i:Nat)(v:V)(u:Value),(ys.map (Opd.ev Z))[i]? =some v->(xs.map a.eval)[i]? =some u->VR (Mu M0 J Z.h) w J Z.h v u:=by refine⟨by simp[iH h],fun i v u hv hu=> ?_⟩;simp only[Zp,Zl]at hv hu;obtain⟨y,hy,rfl⟩:=hv;obtain⟨x,hx,rfl⟩:=hu;obtain⟨y',b9,hc⟩:=lf h i x hx;rw[hy]at b9;cases b9;exact hg x y hc
def aaJ (s:SR Γ M0 base Z a w J){xs:List Operand}{ys:List Opd}(h:j5 kw xs=some ys):(ys.map (Opd.ev Z)).length=(xs.map a.eval).length/\
 ∀(i:Nat)(v:V)(u:Value),(ys.map (Opd.ev Z))[i]? =some v->(xs.map a.eval)[i]? =some u->VR (Mu M0 J Z.h) w J Z.h v u:=Mi s (fun x y h=>cR s h) h
def sj (s:SR Γ M0 base Z a w J){xs:List Operand}{ys:List Opd}(h:j5 (ql kf) xs=some ys):(ys.map (Opd.ev Z)).length=(xs.map a.eval).length/\
 ∀(i:Nat)(v:V)(u:Value),(ys.map (Opd.ev Z))[i]? =some v->(xs.map a.eval)[i]? =some u->VR (Mu M0 J Z.h) w J Z.h v u:=Mi s (fun x y h=>ol s h) h
def PK {d:Md}{op:Op}{k:Nat}{xz:List Opd}{fl fz:Bool}(hc:jm P kf d op=some (.call k xz fl fz)):∃c f,op= .call c/\ c.callee= .value (.func f)/\ kf f=some k/\ j5 (ql kf) c.args.toList=some xz:=by
 cases op;case makeFunc fn first caps=>cases fn<;>simp only[jm]at hc<;>first|(cases hc;done)|((repeat' (split at hc))<;>cases hc)
 case call c=>
  simp only[jm]at hc
  split at hc
  ·rename_i f a7
   split at hc
   ·rename_i k' aS fn h1 h2 h3
    split at hc
    ·repeat' (split at hc)
     all_goals cases hc
    split at hc
    ·repeat' (split at hc)
     all_goals cases hc
    split at hc
    ·repeat' (split at hc)
     all_goals cases hc
    split at hc
    ·cases hc
    ·cases hc
     exact⟨c,f,rfl,a7,h1,h2⟩
   ·cases hc
  all_goals first|(cases hc;done)|((repeat' (split at hc))<;>cases hc)
 all_goals simp only[jm]at hc
 all_goals first
  |(cases hc;done)
  |(simp only[Zl]at hc;obtain⟨_,_,hc⟩:=hc;cases hc;done)
  |((repeat' (split at hc))<;>cases hc)
def VP {d:Md}{op:Op}{k:Nat}{xz:List Opd}(hc:jm P kf d op=some (.bS k xz)):∃c f,op= .call c/\ c.callee= .value (.func f)/\ kf f=some k/\ j5 (ql kf) c.args.toList=some xz:=by
 cases op;case makeFunc fn first caps=>cases fn<;>simp only[jm]at hc<;>first|(cases hc;done)|((repeat' (split at hc))<;>cases hc)
 case call c=>
  simp only[jm]at hc
  split at hc
  ·rename_i f a7
   split at hc
   ·rename_i k' aS fn h1 h2 h3
    split at hc
    ·repeat' (split at hc)
     all_goals cases hc
    split at hc
    ·repeat' (split at hc)
     all_goals cases hc
    split at hc
    ·repeat' (split at hc)
     all_goals cases hc
    split at hc
    ·cases hc
     exact⟨c,f,rfl,a7,h1,h2⟩
    ·cases hc
   ·cases hc
  all_goals first|(cases hc;done)|((repeat' (split at hc))<;>cases hc)
 all_goals simp only[jm]at hc
 all_goals first
  |(cases hc;done)
  |(simp only[Zl]at hc;obtain⟨_,_,hc⟩:=hc;cases hc;done)
  |((repeat' (split at hc))<;>cases hc)
def Tx {d:Md}{op:Op}{k z b:Nat}{x i v:Opd}(hc:jm P kf d op=some (.insert k z b x i v)):∃c f fn t e,op= .call c/\ c.callee= .value (.func f)/\ kf f=some k/\ j5 (ql kf) c.args.toList=some [x,i,v]/\
 P.funcs[f]? =some fn/\ fn.origin= "slices.Insert" /\ fn.params.toList.head? =some t/\ lR P t=some e/\ vX P e=some z/\ S9 P e=some b:=by
 cases op;case makeFunc fn first caps=>cases fn<;>simp only[jm]at hc<;>first|(cases hc;done)|((repeat' (split at hc))<;>cases hc)
 case call c=>
  simp only[jm]at hc
  split at hc
  ·rename_i f a7
   split at hc
   ·rename_i k' aS fn h1 h2 h3
    split at hc
    ·rename_i al
     split at hc
     ·rename_i x' i' v' t tl an
      split at hc
      ·rename_i e he
       split at hc
       ·rename_i z' b' hz hb
        cases hc
        exact⟨c,f,fn,t,e,rfl,a7,h1,h2,h3,by simpa using al,by rw[an];rfl,he,hz,hb⟩
       ·cases hc
      ·cases hc
     ·cases hc
    ·(repeat' (split at hc))<;>cases hc
   ·cases hc
  all_goals first|(cases hc;done)|((repeat' (split at hc))<;>cases hc)
 all_goals simp only[jm]at hc
 all_goals first
  |(cases hc;done)
  |(simp only[Zl]at hc;obtain⟨_,_,hc⟩:=hc;cases hc;done)
  |((repeat' (split at hc))<;>cases hc)
def afi {xs:List Operand}{x i v:Opd}(h:j5 (ql kf) xs=some [x,i,v]):∃x0 i0 v0,xs=[x0,i0,v0]/\ ql kf x0=some x/\ ql kf i0=some i/\ ql kf v0=some v:=by
 have hl:=iH h;match xs,hl with
 |[x0,i0,v0],_=>obtain⟨y0,h0,c0⟩:=lf h 0 x0 rfl;obtain⟨y1,h1,c1⟩:=lf h 1 i0 rfl;obtain⟨y2,h2,c2⟩:=lf h 2 v0 rfl;simp at h0 h1 h2;subst h0 h1 h2;exact⟨x0,i0,v0,rfl,c0,c1,c2⟩
def afh {xs:List Operand}{x i:Opd}(h:j5 (ql kf) xs=some [x,i]):∃x0 i0,xs=[x0,i0]/\ ql kf x0=some x/\ ql kf i0=some i:=by
 have hl:=iH h;match xs,hl with
 |[x0,i0],_=>obtain⟨y0,h0,c0⟩:=lf h 0 x0 rfl;obtain⟨y1,h1,c1⟩:=lf h 1 i0 rfl;simp at h0 h1;subst h0 h1;exact⟨x0,i0,rfl,c0,c1⟩
def aaX {d:Md}{op:Op}{k z:Nat}{x g:Opd}(hc:jm P kf d op=some (.c9 k z x g)):∃c f fn t e,op= .call c/\ c.callee= .value (.func f)/\ kf f=some k/\ j5 (ql kf) c.args.toList=some [x,g]/\
 P.funcs[f]? =some fn/\ fn.origin= "slices.DeleteFunc" /\ fn.params.toList.head? =some t/\ lR P t=some e/\ vX P e=some z:=by
 cases op;case makeFunc fn first caps=>cases fn<;>simp only[jm]at hc<;>first|(cases hc;done)|((repeat' (split at hc))<;>cases hc)
 case call c=>
  simp only[jm]at hc
  split at hc
  ·rename_i f a7
   split at hc
   ·rename_i k' aS fn h1 h2 h3
    split at hc
    ·(repeat' (split at hc))<;>cases hc
    ·split at hc
     ·rename_i al
      split at hc
      ·rename_i x' g' t tl an
       split at hc
       ·rename_i e he
        split at hc
        ·rename_i z' hz
         cases hc
         exact⟨c,f,fn,t,e,rfl,a7,h1,h2,h3,by simpa using al,by rw[an];rfl,he,hz⟩
        ·cases hc
       ·cases hc
      ·cases hc
     ·split at hc
      ·(repeat' (split at hc))<;>cases hc
      ·split at hc<;>cases hc
   ·cases hc
  all_goals first|(cases hc;done)|((repeat' (split at hc))<;>cases hc)
 all_goals simp only[jm]at hc
 all_goals first
  |(cases hc;done)
  |(simp only[Zl]at hc;obtain⟨_,_,hc⟩:=hc;cases hc;done)
  |((repeat' (split at hc))<;>cases hc)
def VS {d:Md}{op:Op}{x:Opd}{xz:List Opd}(hc:jm P kf d op=some (.bp x xz)):∃c t,op= .call c/\ c.callee= .value (.tmp t)/\ x= .tmp t/\ j5 kw c.args.toList=some xz:=by
 cases op;case makeFunc fn first caps=>cases fn<;>simp only[jm]at hc<;>first|(cases hc;done)|((repeat' (split at hc))<;>cases hc)
 case call c=>
  simp only[jm]at hc
  split at hc
  ·split at hc
   ·(repeat' (split at hc))<;>cases hc
   ·cases hc
  ·rename_i t a7
   split at hc
   ·rename_i aS h1
    cases hc
    exact⟨c,t,rfl,a7,rfl,h1⟩
   ·cases hc
  all_goals first|(cases hc;done)|((repeat' (split at hc))<;>cases hc)
 all_goals simp only[jm]at hc
 all_goals first
  |(cases hc;done)
  |(simp only[Zl]at hc;obtain⟨_,_,hc⟩:=hc;cases hc;done)
  |((repeat' (split at hc))<;>cases hc)
def OA (ok:QA Γ P kf call)(s:SR Γ M0 base Z a w J){ops:Array Oper}{o:Oper}{d:Md}{oo:X2}{Z':St}{K:Act->World->Prop}{Q:Exit->Act->World->Prop}
 (hc:Nm P kf d ops o=some oo) (he:cT call oo Z=some Z') (hK:∀a' w' J',SR Γ M0 base Z' a' w' J'->Below base w w'->Ch (Mu M0 J Z.h) (Mu M0 J' Z'.h) w w' J J' Z.h Z'.h->K a' w'):
 if Region.wanted o (yielded ops a.tmps)then o.wp P a w K Q else K (a.put o.dst undef) w:=by
 unfold Nm at hc;split at hc
 ·rename_i op g a2 hg;cases hc;unfold cT at he;simp only at he;split at he
  ·rename_i hw;rw[tG s hg hw,if_pos rfl];have fin:∀{v:V}{u:Value}{w':World},Below w.heap.size w w'->VR (Mu M0 J Z.h) w' J Z.h v u->Z'=⟨put Z.t o.dst v,Z.h⟩->K (a.put o.dst u) w':=by intro v u w' hb hv e;subst e;obtain⟨k1,c1⟩:=s.hr.world hb.size (fun b hlt=>hb.block b hlt);exact hK _ _ J ⟨k1,(s.fr.ch c1).put o.dst hv,Γ.keep _ _ s.inv (hb.mono (Zc s.b0 s.hr.le)),s.b0⟩ (hb.mono s.hr.le) c1
   by_cases az:op.cG=true
   ·by_cases hv:∃x xz,op= .bp x xz;obtain⟨x,xz,rfl⟩:=hv;obtain⟨c,t,ho,a7,hx,has⟩:=VS a2;obtain⟨ai,aj⟩:=aaJ s has;have af:(c.args.map a.eval).toList=c.args.toList.map a.eval:=by simp
    split at he;rename_i v hf;cases he;simp only[dY]at hf;split at hf;rename_i k caps aY;split at hf;rename_i ab aa;split at hf;rename_i r hr;split at hf;rename_i au;cases hf;have rx:=cR s (show kw (.tmp t)=some (.tmp t)from rfl);rw[<-hx,aY]at rx;obtain⟨f,cs,ef,hk,aB,bB⟩:=rx;obtain⟨a6,a5⟩:=ok.sound f k _ r hk hr;have ha:uD (fun _=>False) w ab (c.args.map a.eval).toList:=by rw[af];exact m7 aa ai aj (fun v l p u _ _ hl hv=>vT s.hr hl hv) (fun e u r=>r.weak (fun _ h=>h.elim))
    have bC:uD (fun _=>False) w (ab++caps.map xg) (c.args.map a.eval++cs).toList:=by refine⟨by simp only[Zv,Zr,Array.toList_append];rw[ha.1,aB];simp,fun i x u hx hu=> ?_⟩;rw[Array.toList_append]at hu;by_cases hi:i<ab.length;rw[Ze hi]at hx;rw[Ze (by rw[<-ha.1];exact hi)]at hu;exact ha.2 i x u hx hu;rw[Zm (by omega)]at hx;rw[Zm (by rw[<-ha.1];omega),<-ha.1]at hu;simp only[Zp,Zl]at hx;obtain⟨e,he,rfl⟩:=hx;exact((bB _ e u he (by simpa using hu)).weak (fun _ h=>h.elim)).arg
    unfold Oper.wp;rw[Tr (a:=a) (w:=w) (call:=call) ho a7 ef ok hk,Oper.upon_enter];refine(a5 (fun _=>False) w _ s.inv (fun b h=>h.elim) bC).mono fun e w'⟨v,he,hb,ah⟩=> ?_;subst he;exact fin hb (Du au ah) rfl;cases hf;cases hf;cases hf;cases hf;split at he;rename_i a1;cases a1;cases he;by_cases bk:∃x,op= .cM x;obtain⟨x,rfl⟩:=bk;split at he;rename_i v hf;cases he;obtain⟨u,w',q1,q2,q3⟩:=WU s a2 hf;unfold Oper.wp;rw[q1,Oper.upon_value];exact fin q2 q3 rfl;split at he;rename_i a1;cases a1;cases he;by_cases bl:∃z ps,op= .bc z ps;obtain⟨z,ps,rfl⟩:=bl;split at he;rename_i v hf;cases he;obtain⟨u,w',q1,q2,q3⟩:=Nj s a2 hf;unfold Oper.wp;rw[q1,Oper.upon_value];exact fin q2 q3 rfl;split at he;rename_i a1;cases a1;cases he;by_cases bn:∃z x lo hi,op= .c8 z x lo hi;obtain⟨z,x,lo,hi,rfl⟩:=bn;split at he;rename_i v hf;cases he;obtain⟨n,u,w',J',h1,h2,h3,h4,h5,h6⟩:=TV s a2 hf;unfold Oper.wp;rw[h1];have aA:K (a.put o.dst u) w':=hK _ _ J' ⟨h4,(s.fr.ch h5).put o.dst h6,Γ.keep _ _ s.inv (h3.mono s.b0),s.b0⟩ h3 h5;rcases h2 with rfl|⟨rfl,rfl⟩;exact aA;exact aA;split at he;rename_i a1;cases a1;cases he;by_cases bo:∃k xz,op= .bS k xz;obtain⟨k,xz,rfl⟩:=bo;obtain⟨c,f,ho,a7,hk,has⟩:=VP a2;have hex:=xr (a:=a) (w:=w) (call:=call) ho a7 ok hk;obtain⟨ai,aj⟩:=sj s has;have af:(c.args.map a.eval).toList=c.args.toList.map a.eval:=by simp
    unfold Oper.wp;rw[hex,Oper.upon_enter];split at he;rename_i v hf;cases hf;split at he;rename_i v h' a1;cases he;simp only[fa]at a1;split at a1;rename_i ab aa;split at a1;rename_i r hr;cases a1;obtain⟨a6,a5⟩:=ok.sound f k ab r hk hr;obtain⟨k1,c1⟩:=s.hr.freezeVs (xz.map (Opd.ev Z));have ha:uD (Mu M0 J (freezeVs Z.h (xz.map (Opd.ev Z)))) w ab (c.args.map a.eval).toList:=by rw[af];exact m7 aa ai aj (fun v l p u hv hl aw ax=>ro k1 (aw.ch c1) (by rw[m4];exact ax) (oI _ l (.inr ⟨v,hv,hl⟩))) (fun e u r=>r.go c1.go)
    refine(a5 _ w _ s.inv (fun b hb=>Mu.lt k1 hb) ha).mono fun e w'⟨v,he,hb,ah⟩=> ?_;subst he;obtain⟨k2,c2⟩:=k1.world hb.size (fun b hlt=>hb.block b hlt);exact hK _ _ J ⟨k2,((s.fr.ch c1).ch c2).put o.dst (Oj k1 hb a6 ah),Γ.keep _ _ s.inv (hb.mono (Zc s.b0 s.hr.le)),s.b0⟩ (hb.mono s.hr.le) (c1.trans c2);cases a1;cases a1;cases he;by_cases br:∃k z b x i v,op= .insert k z b x i v;obtain⟨k,z,b,x,i,v,rfl⟩:=br;obtain⟨c,f,fn,t,e,ho,a7,hk,has,aZ,al,an,he1,b1,bD⟩:=Tx a2;have hex:=xr (a:=a) (w:=w) (call:=call) ho a7 ok hk;have aT:=ok.ins f k fn t e z b hk aZ al an he1 b1 bD;obtain⟨x0,i0,v0,aI,cx,ci,cv⟩:=afi has;have rx:=ol s cx;have ri:=ol s ci;have rv:=ol s cv;have av:c.args.map a.eval= #[a.eval x0,a.eval i0,a.eval v0]:=Array.ext' (by rw[ZZ,aI];rfl);unfold Oper.wp;rw[hex,Oper.upon_enter,av];split at he;rename_i v1 hf;cases hf;split at he;rename_i v1 h1 a1;cases he;simp only[fa]at a1;split at a1;rename_i n o2 ex ei ev;rw[ex]at rx;rw[ev]at rv;obtain⟨ad,ux⟩:∃ad,a.eval x0= .slice ad 0 0:=rx;have ui:=ri.int ei;split at a1;rename_i z2 vs aC;split at a1;rename_i hp;cases a1;obtain⟨rfl,hm,rfl,ao,aJ⟩:=hp;rw[ux,ui];refine(Ck s.hr aT (src:=none) aC hm (i:=0) (YB _) (by simpa[cq]using ao) (by simp only[cq,Zx,ZK];unfold maxLen;omega) (.inl ⟨rfl,ad,rfl⟩) rv).mono fun e w' q=> ?_;obtain⟨u,J',he,hb,g1,g2,g3⟩:=q.ct s.hr;subst he;exact hK _ _ J' ⟨g1,(s.fr.ch g2).put o.dst g3,Γ.keep _ _ s.inv (hb.mono s.b0),s.b0⟩ hb g2;cases a1;rename_i z2 vs aC;split at a1;rename_i hp;cases a1;obtain⟨rfl,hm,rfl,ao,aJ⟩:=hp;rw[ux,ui];refine(Rs s aT (src:=none) (by simp only[dg,aC]) hm (i:=0) (YB _) (by simpa[cq]using ao) (by simp only[cq,Zx,ZK];unfold maxLen;omega) (.inl ⟨rfl,ad,rfl⟩) rv).mono fun e w'⟨u,J',he,hb,g1,g2,g3⟩=> ?_;simp only[cq,cJ,Qc,QX,Zw,Zk]at g1 g2 g3;subst he;exact hK _ _ J' ⟨g1,(s.fr.ch g2).put o.dst g3,Γ.keep _ _ s.inv (hb.mono s.b0),s.b0⟩ hb g2;cases a1;cases a1;rename_i o1 n o2 ex ei ev;rw[ex]at rx;rw[ev]at rv;have ui:=ri.int ei;have hn:0<=n->a.eval i0= .int .i64 ((n.toNat:Nat):Int):=fun aU=>by rw[ui];congr 1;omega
    split at a1;rename_i z2 vs aC;split at a1;rename_i z1 es aK;split at a1;rename_i hp;cases a1;obtain⟨rfl,rfl,aL,hm,aU,bE,ao,aJ⟩:=hp;rw[hn aU];have hi:n.toNat<=es.length:=by omega
    refine(Ck s.hr aT (src:=some (o1,es)) aC hm hi ao (by unfold maxLen;exact aJ) (.inr ⟨o1,es,rfl,aK,aL,rx⟩) rv).mono fun e w' q=> ?_;obtain⟨u,J',he,hb,g1,g2,g3⟩:=q.turn s.hr hi;subst he;exact hK _ _ J' ⟨g1,(s.fr.ch g2).put o.dst g3,Γ.keep _ _ s.inv (hb.mono s.b0),s.b0⟩ hb g2;cases a1;cases a1;rename_i z2 vs aC;split at a1;rename_i z1 es aK;split at a1;rename_i hp;cases a1;obtain⟨rfl,rfl,aL,hm,aU,bE,ao,aJ⟩:=hp;rw[hn aU];have hi:n.toNat<=es.length:=by omega
    refine(Rs s aT (src:=some (o1,es)) (by simp only[dg,aC]) hm hi ao (by unfold maxLen;exact aJ) (.inr ⟨o1,es,rfl,aK,aL,rx⟩) rv).mono fun e w'⟨u,J',he,hb,g1,g2,g3⟩=> ?_;subst he;exact hK _ _ J' ⟨g1,(s.fr.ch g2).put o.dst g3,Γ.keep _ _ s.inv (hb.mono s.b0),s.b0⟩ hb g2;cases a1;cases a1;cases a1;cases a1;cases he;by_cases bu:∃k z x g,op= .c9 k z x g;obtain⟨k,z,x,g,rfl⟩:=bu;obtain⟨c,f,fn,t,e,ho,a7,hk,has,aZ,al,an,he1,b1⟩:=aaX a2;have hex:=xr (a:=a) (w:=w) (call:=call) ho a7 ok hk;have bF:=ok.del f k fn t e z hk aZ al an he1 b1;have aM:∀{cc:Nat}{cs es es':List (List PV)},iR call cc (cs.map xg) es=some es'->aay Γ P f z cc cs es es':=fun{cc}{cs}{es}{es'}h=>by obtain⟨rfl,hp⟩:=DO h;exact bF _ _ _ (fun e=>abL (call cc (.agg (e.map .pv)::cs.map xg))) (fun fc b2=>ok.there _ _ b2) fun e he fc b2=>ok.sound _ _ _ _ b2 (hp e he)
    obtain⟨x0,g0,aI,cx,cg⟩:=afh has;have rx:=ol s cx;have rg:=ol s cg;have av:c.args.map a.eval= #[a.eval x0,a.eval g0]:=Array.ext' (by rw[ZZ,aI];rfl);unfold Oper.wp;rw[hex,Oper.upon_enter,av];split at he;rename_i v1 hf;cases hf;split at he;rename_i v1 h1 a1;cases he;simp only[fa]at a1;split at a1;rename_i cc cs ex eg;rw[ex]at rx;rw[eg]at rg;obtain⟨ad,ux⟩:∃ad,a.eval x0= .slice ad 0 0:=rx;cases a1;rw[ux];refine((aM (es:=[]) rfl).1 rfl _ w _ ad s.inv (show LR (Mu M0 J Z.h) w [] [] (.fn cc cs) (a.eval g0)from rg)).mono fun e w'⟨he,hb⟩=> ?_;subst he;exact fin hb (v:= .one .nil) ⟨ad,rfl⟩ rfl;rename_i o1 cc cs ex eg;rw[ex]at rx;rw[eg]at rg;split at a1;rename_i z1 es aK;split at a1;rename_i hz;subst hz;split at a1;rename_i es' hr;cases a1;refine(acA s (aM hr) aK rx rg).mono fun e w'⟨u,J',he,hb,g1,g2,g3⟩=> ?_;subst he;exact hK _ _ J' ⟨g1,(s.fr.ch g2).put o.dst g3,Γ.keep _ _ s.inv (hb.mono s.b0),s.b0⟩ hb g2;cases a1;cases a1;cases a1;cases a1;cases he;cases op<;>simp[AOp.cG]at az;case c9 k z x g=>exact absurd ⟨k,z,x,g,rfl⟩ bu
    case insert k z b x i v=>exact absurd ⟨k,z,b,x,i,v,rfl⟩ br
    case bp x xz=>exact absurd ⟨x,xz,rfl⟩ hv
    case cM x=>exact absurd ⟨x,rfl⟩ bk
    case bS k xz=>exact absurd ⟨k,xz,rfl⟩ bo
    case bc z ps=>exact absurd ⟨z,ps,rfl⟩ bl
    case c8 z x lo hi=>exact absurd ⟨z,x,lo,hi,rfl⟩ bn
    rename_i k xz fl fz;obtain⟨c,f,ho,a7,hk,has⟩:=PK a2;have hex:=xr (a:=a) (w:=w) (call:=call) ho a7 ok hk;obtain⟨ai,aj⟩:=sj s has;have af:(c.args.map a.eval).toList=c.args.toList.map a.eval:=by simp
    unfold Oper.wp;rw[hex,Oper.upon_enter];split at he;rename_i v hf;cases he;simp only[dY]at hf;split at hf;split at hf;rename_i bw aN;split at hf;rename_i ab aa;split at hf;rename_i r hr;split at hf;cases hf;rename_i au;cases hf;obtain⟨a6,a5⟩:=ok.sound f k ab r hk hr;cases fl with
    |true=>
     have aD:r.flat=true:=by simpa using au
     have ha:uD (fun _=>False) w ab (c.args.map a.eval).toList:=by rw[af];exact m7 aa ai aj (fun v l p u _ _ hl hv=>vT s.hr hl hv) (fun e u r=>r.weak (fun _ h=>h.elim))
     refine(a5 (fun _=>False) w _ s.inv (fun b h=>h.elim) ha).mono fun e w'⟨v,he,hb,ah⟩=> ?_;subst he;exact fin hb (Du aD ah) rfl
    |false=>
     have hm:∀v∈xz.map (Opd.ev Z),V.mut Z.h v=false:=by intro v hv;simp only[Bool.false_or,Zz]at aN;have:=(Qo.1 aN) v hv;simpa using this
     have ha:uD (Mu M0 J Z.h) w ab (c.args.map a.eval).toList:=by rw[af];refine m7 aa ai aj (fun v l p u hv hl aw ax=>ro s.hr aw ax ?_) (fun _ _ r=>r);have:=hm v hv;simp only[V.mut]at this;have:=(Qo.1 this) l hl;simpa using this
     refine(a5 (Mu M0 J Z.h) w _ s.inv (fun b hb=>Mu.lt s.hr hb) ha).mono fun e w'⟨v,he,hb,ah⟩=> ?_;subst he;exact fin hb (Oj s.hr hb a6 ah) rfl
    cases hf;cases hf;cases hf;cases hf
    ·split at he
     ·rename_i v h' a1;cases he;cases fl<;>cases fz<;>simp only[fa]at a1<;>try (cases a1;done)
      split at a1;rename_i ab aa;split at a1;rename_i r hr;have ae:=Option.some.inj a1;obtain⟨rfl,rfl⟩:v=(thaw (freezeVs Z.h (xz.map (Opd.ev Z))) r.ow).1/\ h'=(thaw (freezeVs Z.h (xz.map (Opd.ev Z))) r.ow).2:=⟨by rw[ae],by rw[ae]⟩;obtain⟨a6,a5⟩:=ok.sound f k ab r hk hr;obtain⟨k1,c1⟩:=s.hr.freezeVs (xz.map (Opd.ev Z));have ha:uD (Mu M0 J (freezeVs Z.h (xz.map (Opd.ev Z)))) w ab (c.args.map a.eval).toList:=by rw[af];exact m7 aa ai aj (fun v l p u hv hl aw ax=>ro k1 (aw.ch c1) (by rw[m4];exact ax) (oI _ l (.inr ⟨v,hv,hl⟩))) (fun e u r=>r.go c1.go)
      refine(a5 _ w _ s.inv (fun b hb=>Mu.lt k1 hb) ha).mono fun e w'⟨v,he,hb,ah⟩=> ?_;subst he;obtain⟨J',g1,g2,g3⟩:=Kg k1 hb (V.bm a6) ah.ow;exact hK _ _ J' ⟨g1,(s.fr.ch (c1.trans g2)).put o.dst g3,Γ.keep _ _ s.inv (hb.mono (Zc s.b0 s.hr.le)),s.b0⟩ (hb.mono s.hr.le) (c1.trans g2);cases a1;cases a1
     cases he
   ·have bx:op.cG=false:=by simpa using az
    split at he;rename_i v hf;cases he;obtain⟨u,hu,hv⟩:=Fu ok.prog s a2 bx hf;unfold Oper.wp;rw[hu,Oper.upon_value];exact fin (Below.refl _ _) hv rfl
    ·split at he
     ·rename_i v h' a1;cases he;have ht:nU P M0 base Z w J v h' (execOp a.eval o):=by
       cases hoo:o.op<;>rw[hoo]at a2;case alloc t=>exact Gg s hoo (hoo▸a2) a1
       case box t x=>exact Mm s hoo (hoo▸a2) a1
       case buildSlice t n ps=>exact Nk s hoo (hoo▸a2) a1
       case store t x y=>exact Sd s hoo (hoo▸a2) a1
       case makeSlice t x y=>exact TE s hoo (hoo▸a2) a1
       case slice t x lo hi mx=>exact Kp s hoo (hoo▸a2) a1
       case makeFunc fn first caps=>exact TG s hoo (hoo▸a2) a1
       case call c=>
        cases op
        case append z b x y=>exact Na s hoo (hoo▸a2) a1
        case bT b x y=>exact K9 s hoo (hoo▸a2) a1
        all_goals first
         |(simp[AOp.cG]at bx;done)
         |(cases a1;done)
         |(exfalso;simp only[jm]at a2;repeat' (split at a2))<;>cases a2
       all_goals
        exfalso
        simp only[jm]at a2
        first
         |(cases a2;done)
         |(simp only[Zl]at a2;obtain⟨_,_,rfl⟩:=a2;cases a1;done)
         |(repeat' (split at a2))<;>first|(cases a2;done)|(cases a2;cases a1;done)
      obtain⟨n,u,w',J',h1,h2,h3,h4,h5,h6⟩:=ht;unfold Oper.wp;rw[h1];have aA:K (a.put o.dst u) w':=hK _ _ J' ⟨h4,(s.fr.ch h5).put o.dst h6,Γ.keep _ _ s.inv (h3.mono s.b0),s.b0⟩ h3 h5;rcases h2 with rfl|⟨rfl,rfl⟩;exact aA;exact aA
     cases he
  rename_i hw;cases he;rw[tG s hg hw];exact hK _ _ J ⟨s.hr,s.fr.put o.dst VR.undef,s.inv,s.b0⟩ (Below.refl _ _) (Ch.refl _ _ _ _);cases he
 cases hc
def Gb {d:Md}{op:Op}{n:Nat}{x y:Opd}(a2:jm P kf d op=some (.store n x y)):∃t x0 y0,op= .store t x0 y0:=by
 cases hoo:op<;>rw[hoo]at a2;case store t x0 y0=>exact⟨t,x0,y0,rfl⟩
 all_goals
  exfalso
  simp only[jm]at a2
  first
   |(cases a2;done)
   |((repeat' (split at a2))<;>first|contradiction|(cases a2;done)|(simp at a2;done))
def abr {d:Md}{op:Op}{g:Bool}{n:Nat}{x:Opd}(a2:jm P kf d op=some (.load g n x)):∃t x0,op= .load t x0:=by
 cases hoo:op<;>rw[hoo]at a2;case load t x0=>exact⟨t,x0,rfl⟩
 all_goals
  exfalso
  simp only[jm]at a2
  first
   |(cases a2;done)
   |((repeat' (split at a2))<;>first|contradiction|(cases a2;done)|(simp at a2;done))
def S3 {d:Md}{op:Op}{z b:Nat}{x y:Opd}(a2:jm P kf d op=some (.append z b x y)):∃c,op= .call c:=by
 cases hoo:op<;>rw[hoo]at a2;case call c=>exact⟨c,rfl⟩
 all_goals
  exfalso
  simp only[jm]at a2
  first
   |(cases a2;done)
   |((repeat' (split at a2))<;>first|contradiction|(cases a2;done)|(simp at a2;done))
inductive Rd:AOp->AOp->Prop where
 |same (op:AOp):Rd op op
 |bs (g:Bool) (n:Nat) (a:Opd):Rd (.load g n a) (.bs g n a)
 |bj (g:Bool) (n:Nat) (a:Opd) (r:Nat):Rd (.load g n a) (.bj g n a r)
 |bR (n:Nat) (a v:Opd):Rd (.store n a v) (.bR n a v)
 |storeT (n:Nat) (a v:Opd):Rd (.store n a v) (.storeT n a v)
 |storeAt (i n:Nat) (a v:Opd):Rd (.store n a v) (.storeAt i n a v)
 |bX (cs:List L):Rd (.alloc cs) (.bX cs.length)
 |bd (cs:List L):Rd (.alloc cs) (.bd cs)
 |bK (cs:List L) (i:Nat):Rd (.alloc cs) (.bK i cs)
 |c5 (n:Nat) (x:Opd):Rd (.box x) (.c5 n x)
 |bt (f:Nat) (xz:List Opd) (fl fz:Bool):Rd (.call f xz fl fz) (.bt f xz)
 |storeD (n:Nat) (a v:Opd):Rd (.store n a v) (.storeD n a v)
 |bJ (z b:Nat) (x y:Opd):Rd (.append z b x y) (.bJ z b x y)
 |bZ (z:Nat) (ps:List Opd):Rd (.bO z ps) (.bZ z ps)
 |bP (f:Nat) (xz:List Opd) (fl fz:Bool):Rd (.call f xz fl fz) (.bP f xz)
 |bq (g:Bool) (n:Nat) (a:Opd):Rd (.load g n a) (.bq g n a)
 |bY (n:Nat) (a v:Opd):Rd (.store n a v) (.bY n a v)
 |bN (z:Nat) (x i:Opd):Rd (.bH z x i) (.bN z x i)
 |c3 (x:Opd):Rd (.len x) (.c3 x)
 |bh (f:Nat) (x k:Opd) (fl fz:Bool):Rd (.call f [x,k] fl fz) (.bh f x k)
 |bg (f:Nat) (xz:List Opd) (fl fz:Bool):Rd (.call f xz fl fz) (.bg f xz)
 |bf (f:Nat) (xz:List Opd) (fl fz:Bool):Rd (.call f xz fl fz) (.bf f xz)
 |bS (f:Nat) (xz:List Opd) (fl fz:Bool):Rd (.call f xz fl fz) (.bS f xz)
def abB (md:Md)(dst:Option Nat)(op:AOp):Rd op (BA md dst op):=by
 cases op with
 |alloc zero=>
  cases dst with
  |none=>exact .same _
  |some t=>simp only[BA];split;constructor;split;constructor;split<;>constructor
 |store n a v=>
  cases a with
  |tmp t=>simp only[BA];(repeat' split)<;>constructor
  |_=>exact .same _
 |load g n a=>simp only[BA];split;split<;>constructor;split<;>constructor
 |box x=>
  cases dst with
  |none=>exact .same _
  |some t=>simp only[BA];split<;>constructor
 |append z b x y=>simp only[BA];(repeat' split)<;>constructor
 |bO z ps=>simp only[BA];split<;>constructor
 |call f xz fl fz=>simp only[BA];(repeat' split)<;>constructor
 |_=>exact .same _
def abC (zl:List Nat)(mk:Bool)(dst:Option Nat)(op:AOp):Rd op (U5 zl mk dst op):=by
 cases op with
 |load g n a=>constructor
 |store n a v=>constructor
 |bH z x i=>constructor
 |len x=>constructor
 |call f xz fl fz=>simp only[U5];(repeat' split)<;>constructor
 |_=>exact .same _
def Am {h:List Q0}:∀(vs:List V),cy h (vs.map V.bL)=cy h vs
 |[]=>rfl
 |v::vs=>by
  have hl:∀l:L,l.bL.view h=l.view h:=fun l=>by cases l<;>rfl
  have bG:∀ls:List L,viewL h (ls.map L.bL)=viewL h ls:=fun ls=>by
   induction ls with
   |nil=>rfl
   |cons l ls ih=>simp only[Zt,viewL,hl,ih]
  have hv:v.bL.view h=v.view h:=by
   cases v with
   |one l=>cases l<;>rfl
   |agg ls=>simp only[V.bL,V.view,bG]
   |b8 xs=>rfl
  simp only[Zt,cy,hv,Am vs]
def Sc (ok:QA Γ P kf call)(s:SR Γ M0 base Z a w J){ops:Array Oper}{o:Oper}{d:Md}{oo:X2}{Z':St}{K:Act->World->Prop}{Q:Exit->Act->World->Prop}
 (hc:Bo P kf d ops o=some oo) (he:cT call oo Z=some Z')
 (hK:∀aF a' w' J',(∀b,M0 b->aF b)->(oo.op.bb=true->aF=M0)->SR Γ aF base Z' a' w' J'->Below base w w'->Ch (Mu M0 J Z.h) (Mu aF J' Z'.h) w w' J J' Z.h Z'.h->K a' w'):
 if Region.wanted o (yielded ops a.tmps)then o.wp P a w K Q else K (a.put o.dst undef) w:=by
 unfold Bo at hc;split at hc
 ·rename_i x hx;cases hc;have aV:=hx;unfold Nm at aV;split at aV
  ·rename_i op g a2 hg;cases aV;have ay:∀a' w' J',SR Γ M0 base Z' a' w' J'->Below base w w'->Ch (Mu M0 J Z.h) (Mu M0 J' Z'.h) w w' J J' Z.h Z'.h->K a' w':=fun a' w' J' h1 h2 h3=>hK M0 a' w' J' (fun _ h=>h) (fun _=>rfl) h1 h2 h3;have turn:∀{v:V}{h':List Q0},nU P M0 base Z w J v h' (execOp a.eval o)->Z'=⟨put Z.t o.dst v,h'⟩->dG Z g=some true->(if Region.wanted o (yielded ops a.tmps)then o.wp P a w K Q else K (a.put o.dst undef) w):=by intro v h' ht e hw;rw[tG s hg hw,if_pos rfl];obtain⟨n,u,w',J',h1,h2,h3,h4,h5,h6⟩:=ht;subst e;unfold Oper.wp;rw[h1];have aA:K (a.put o.dst u) w':=ay _ _ J' ⟨h4,(s.fr.ch h5).put o.dst h6,Γ.keep _ _ s.inv (h3.mono s.b0),s.b0⟩ h3 h5;rcases h2 with rfl|⟨rfl,rfl⟩;exact aA;exact aA
   have aE:∀{v:V}{u:Value},(execOp a.eval o).run P w= .ok (.value u) w->VR (Mu M0 J Z.h) w J Z.h v u->Z'=⟨put Z.t o.dst v,Z.h⟩->dG Z g=some true->(if Region.wanted o (yielded ops a.tmps)then o.wp P a w K Q else K (a.put o.dst undef) w):=by intro v u h1 h2 e hw;exact turn ⟨.value u,u,w,J,h1, .inl rfl,Below.refl _ _,s.hr,Ch.refl _ _ _ _,h2⟩ e hw
   have skip:dG Z g=some false->Z'=⟨put Z.t o.dst (.b8 []),Z.h⟩->(if Region.wanted o (yielded ops a.tmps)then o.wp P a w K Q else K (a.put o.dst undef) w):=by intro hw e;subst e;rw[tG s hg hw];exact ay _ _ J ⟨s.hr,s.fr.put o.dst VR.undef,s.inv,s.b0⟩ (Below.refl _ _) (Ch.refl _ _ _ _)
   have enter:∀{k xz fl fz},jm P kf d o.op=some (.call k xz fl fz)->∃(f:FuncId)(xs:Array Operand),kf f=some k/\ j5 (ql kf) xs.toList=some xz/\
    ((Calls P f (xs.map a.eval) w fun e w'=>∃v,e= .returned v/\ K (a.put o.dst v) w')->dG Z g=some true->(if Region.wanted o (yielded ops a.tmps)then o.wp P a w K Q else K (a.put o.dst undef) w)):=by intro k xz fl fz a2;obtain⟨c,f,ho,a7,hk,has⟩:=PK a2;refine⟨f,c.args,hk,has,fun a5 hw=> ?_⟩;rw[tG s hg hw,if_pos rfl];unfold Oper.wp;rw[xr (a:=a) (w:=w) (call:=call) ho a7 ok hk,Oper.upon_enter];refine a5.mono fun e w'⟨v,he,hk⟩=> ?_;subst he;exact hk
   have args:∀{xz:List Opd}{xs:Array Operand}{ab:List V},j5 (ql kf) xs.toList=some xz->cy (lent Z.h) (xz.map (Opd.ev Z))=some ab->uD (fun _=>False) w ab (xs.map a.eval).toList:=by
    intro xz xs ab has b3;have s':=s.ba;obtain⟨ai,aj⟩:=sj s' has;have e:xz.map (Opd.ev ⟨Z.t.map V.bL,lent Z.h⟩)=(xz.map (Opd.ev Z)).map V.bL:=by rw[List.map_map];exact ZO fun x _=>IU x
    rw[show(xs.map a.eval).toList=xs.toList.map a.eval by simp];refine m7 (h:=lent Z.h) ?_ ai aj (fun v l p u _ _ hl hv=>vT s'.hr hl hv) (fun e u r=>r.weak (fun _ h=>h.elim));rw[e,Am];exact b3
   have aO:∀{xz:List Opd}{xs:Array Operand}{ab:List V},j5 (ql kf) xs.toList=some xz->cy Z.h (xz.map (Opd.ev Z))=some ab->uD (fun _=>False) w ab (xs.map a.eval).toList:=by intro xz xs ab has b3;obtain⟨ai,aj⟩:=sj s has;rw[show(xs.map a.eval).toList=xs.toList.map a.eval by simp];exact m7 b3 ai aj (fun v l p u _ _ hl hv=>vT s.hr hl hv) (fun e u r=>r.weak (fun _ h=>h.elim))
   generalize aP:(if d.zn=true then U5 d.zl (afc kf o.op) o.dst op else BA d o.dst op)=bI at he hK;have rd:Rd op bI:=by subst aP;split;exact abC _ _ _ _;exact abB _ _ _
   have plain:∀{op2:AOp},op2=op->cT call ⟨o.dst,op2,g⟩ Z=some Z'->(if Region.wanted o (yielded ops a.tmps)then o.wp P a w K Q else K (a.put o.dst undef) w):=fun e h2=>by subst e;exact OA ok s hx h2 ay
   clear aP;cases rd with
   |same=>exact plain rfl he
   |bs g1 n x=>refine plain rfl ?_;unfold cT at he⊢;simp only at he⊢;split at he;split at he;rename_i v hf;simp only[dY]at hf⊢;split at hf;cases hf;rw[hf];exact he;rename_i hf;split at he;rename_i a1;cases a1;cases he;exact he;cases he
   |bj g1 n x r=>refine plain rfl ?_;unfold cT at he⊢;simp only at he⊢;split at he;split at he;rename_i v hf;simp only[dY]at hf⊢;split at hf;rw[hf];exact he;cases hf;rename_i hf;split at he;rename_i a1;cases a1;cases he;exact he;cases he
   |bR n x y=>refine plain rfl ?_;unfold cT at he⊢;simp only at he⊢;split at he;split at he;rename_i v hf;cases hf;split at he;rename_i v h' a1;simp only[fa]at a1⊢;split at a1;simp only[dY];rw[a1];exact he;cases a1;cases he;exact he;cases he
   |storeAt i n x y=>refine plain rfl ?_;unfold cT at he⊢;simp only at he⊢;split at he;split at he;rename_i v hf;cases hf;split at he;rename_i v h' a1;simp only[fa]at a1⊢;split at a1;rename_i o j cs hx hi;split at a1;rename_i hp;obtain⟨rfl,h2,h3,h4⟩:=hp;cases a1;simp only[dY,dK,hx,hi,h2,h3,h4,and_self,if_true];exact he;cases a1;cases a1;cases he;exact he;cases he
   |storeT n x y=>unfold cT at he;simp only at he;split at he;rename_i hw;split at he;rename_i v hf;cases hf;split at he;rename_i v h' a1;cases he;simp only[fa]at a1;split at a1;rename_i m ak;split at a1;rename_i a8;obtain⟨rfl,hlen,bM⟩:=a8;cases a1;obtain⟨t,x0,y0,hoo⟩:=Gb a2;exact turn (OC s hoo a2 ak hlen bM) rfl hw;cases a1;cases a1;cases he;rename_i hw;cases he;exact skip hw rfl;cases he
   |bX cs=>
    unfold cT at he;simp only at he;split at he
    ·rename_i hw;split at he;rename_i v hf;cases hf
     ·split at he
      ·rename_i v h' a1;cases he;simp only[fa]at a1;cases a1;obtain⟨t,hoo⟩:∃t,o.op= .alloc t:=by
        cases hoo:o.op<;>rw[hoo]at a2;case alloc t=>exact⟨t,rfl⟩
        all_goals
         exfalso
         simp only[jm]at a2
         first
          |(cases a2;done)
          |((repeat' (split at a2))<;>first|contradiction|(cases a2;done)|(simp at a2;done))
       exact turn (M6 s hoo a2) rfl hw
      cases he
    rename_i hw;cases he;exact skip hw rfl;cases he
   |bd cs=>
    unfold cT at he;simp only at he;split at he
    ·rename_i hw;split at he;rename_i v hf;cases hf
     ·split at he
      ·rename_i v h' a1;cases he;simp only[fa]at a1;cases a1;obtain⟨t,hoo⟩:∃t,o.op= .alloc t:=by
        cases hoo:o.op<;>rw[hoo]at a2;case alloc t=>exact⟨t,rfl⟩
        all_goals
         exfalso
         simp only[jm]at a2
         first
          |(cases a2;done)
          |((repeat' (split at a2))<;>first|contradiction|(cases a2;done)|(simp at a2;done))
       exact turn (M7 s hoo a2) rfl hw
      cases he
    rename_i hw;cases he;exact skip hw rfl;cases he
   |c5 n x=>
    unfold cT at he;simp only at he;split at he
    ·rename_i hw;split at he;rename_i v hf;cases hf
     ·split at he
      ·rename_i v h' a1;cases he;obtain⟨t,x0,hoo⟩:∃t x0,o.op= .box t x0:=by
        cases hoo:o.op<;>rw[hoo]at a2;case box t x0=>exact⟨t,x0,rfl⟩
        all_goals
         exfalso
         simp only[jm]at a2
         first
          |(cases a2;done)
          |((repeat' (split at a2))<;>first|contradiction|(cases a2;done)|(simp at a2;done))
       exact turn (S8 s hoo a2 (by simpa only[fa]using a1)) rfl hw
      cases he
    rename_i hw;cases he;exact skip hw rfl;cases he
   |bK cs i=>
    unfold cT at he;simp only at he;split at he
    ·rename_i hw;split at he;rename_i v hf;cases hf
     ·split at he
      ·rename_i v h' a1;cases he;simp only[fa]at a1;split at a1
       ·rename_i hi;cases a1;obtain⟨t,hoo⟩:∃t,o.op= .alloc t:=by
         cases hoo:o.op<;>rw[hoo]at a2;case alloc t=>exact⟨t,rfl⟩
         all_goals
          exfalso
          simp only[jm]at a2
          first
           |(cases a2;done)
           |((repeat' (split at a2))<;>first|contradiction|(cases a2;done)|(simp at a2;done))
        exact turn (K7 s hi hoo a2) rfl hw
       cases a1
      cases he
    rename_i hw;cases he;exact skip hw rfl;cases he
   |storeD n x y=>
    unfold cT at he;simp only at he;split at he;rename_i hw;split at he;rename_i v hf;cases hf;split at he;rename_i v h' a1;have old:dK Z.h n (x.ev Z) (y.ev Z)=some h'->v= .b8 []->(if Region.wanted o (yielded ops a.tmps)then o.wp P a w K Q else K (a.put o.dst undef) w):=fun h1 h2=>by subst h2;refine plain (op2:= .store n x y) rfl ?_;unfold cT;simp only[hw,dY,fa,h1];exact he
    simp only[fa]at a1;split at a1;rename_i h2 ag;cases a1;unfold storeD at ag;split at ag;rename_i ob i j ak;split at ag;rename_i z es hd;split at ag;rename_i e ps hei bQ;split at ag;rename_i a8;cases ag;obtain⟨c1,c2,c3,c4,c5⟩:=a8;obtain⟨t,x0,y0,hoo⟩:=Gb a2;cases he;exact turn (OB s hoo a2 ak hd hei bQ c1 c2 c3 c4 c5) rfl hw;cases ag;cases ag;exact old ag rfl;cases ag;cases a1;cases he;rename_i hw;cases he;exact skip hw rfl;cases he
   |bJ z b x y=>unfold cT at he;simp only at he;split at he;rename_i hw;split at he;rename_i v hf;cases hf;split at he;rename_i v h' a1;cases he;obtain⟨c,hoo⟩:=S3 a2;exact turn (K8 s hoo a2 a1) rfl hw;cases he;rename_i hw;cases he;exact skip hw rfl;cases he
   |bZ z ps=>
    unfold cT at he;simp only at he;split at he
    ·rename_i hw;split at he;rename_i v hf;cases hf
     ·split at he
      ·rename_i v h' a1;cases he;simp only[fa]at a1;split at a1
       ·rename_i a8;simp only[Zg,decide_eq_true_eq,Zu,beq_iff_eq]at a8;obtain⟨⟨⟨⟨c1,c2⟩,c3⟩,c4⟩,c5⟩:=a8;split at a1
        ·rename_i es bU;cases a1;obtain⟨t,n,parts,hoo⟩:∃t n parts,o.op= .buildSlice t n parts:=by
          cases hoo:o.op<;>rw[hoo]at a2;case buildSlice t n parts=>exact⟨t,n,parts,rfl⟩
          all_goals
           exfalso
           simp only[jm]at a2
           first
            |(cases a2;done)
            |((repeat' (split at a2))<;>first|contradiction|(cases a2;done)|(simp at a2;done))
         exact turn (Ni s hoo a2 (fun y hy=>c1 _ (ZV.2 ⟨y,hy,rfl⟩)) c2 (by simpa using c3) (Zu.2 c4) c5 bU) rfl hw
        cases a1
       cases a1
      cases he
    rename_i hw;cases he;exact skip hw rfl;cases he
   |bt f xz fl fz=>unfold cT at he;simp only at he;split at he;rename_i hw;split at he;rename_i v hf;cases hf;split at he;rename_i v h' a1;cases he;simp only[fa]at a1;split at a1;rename_i e0 bV;split at a1;rename_i e' ps hr;split at a1;rename_i h2 ls bW c6;cases a1;obtain⟨aq,xs,hk,has,ar⟩:=enter a2;obtain⟨ai,aj⟩:=sj s has;obtain⟨hI,cd,e2,cf,cj,cl,q1,q2,q3,q4,a5⟩:=ok.soundI aq f _ _ hk hr;simp only[UM,zj bV]at q1;cases q1;cases q2;rw[bW]at q3;cases q3;rw[c6]at q4;cases q4;refine ar ((a5 M0 base w J (xs.map a.eval) s.inv s.b0 s.hr (by rw[show(xs.map a.eval).toList=xs.toList.map a.eval by simp];exact ai) (by rw[show(xs.map a.eval).toList=xs.toList.map a.eval by simp];exact aj)).mono fun e w'⟨v,J',he,hb,g1,g2,g3⟩=>⟨v,he,?_⟩) hw;exact ay _ _ J' ⟨g1,(s.fr.ch g2).put o.dst g3,Γ.keep _ _ s.inv (hb.mono s.b0),s.b0⟩ hb g2;cases a1;cases a1;cases a1;cases he;rename_i hw;cases he;exact skip hw rfl;cases he
   |bP f xz fl fz=>
    unfold cT at he;simp only at he;split at he;rename_i hw;split at he;rename_i v hf;cases hf;split at he;rename_i v h' a1;cases he;simp only[fa]at a1;split at a1;rename_i ab aa;split at a1;rename_i r hr;have ae:=Option.some.inj a1;obtain⟨aq,xs,hk,has,ar⟩:=enter a2;obtain⟨a6,a5⟩:=ok.sound aq f ab r hk hr;by_cases aB:r.closed=true;rw[if_pos aB]at ae;obtain⟨rfl,rfl⟩:v=(thaw Z.h r).1/\ h'=(thaw Z.h r).2:=⟨by rw[ae],by rw[ae]⟩;refine ar ((a5 (fun _=>False) w _ s.inv (fun b h=>h.elim) (aO has aa)).mono fun e w'⟨v,he,hb,ah⟩=>⟨v,he,?_⟩) hw;obtain⟨J',g1,g2,g3⟩:=Kg s.hr hb a6 (ah.weaken aB (fun b hm=>Mu.lt s.hr hm));exact ay _ _ J' ⟨g1,(s.fr.ch g2).put o.dst g3,Γ.keep _ _ s.inv (hb.mono (Zc s.b0 s.hr.le)),s.b0⟩ (hb.mono s.hr.le) g2;rw[if_neg aB]at ae;obtain⟨rfl,rfl⟩:v=(thaw (freezeVs Z.h (xz.map (Opd.ev Z))) r).1/\ h'=(thaw (freezeVs Z.h (xz.map (Opd.ev Z))) r).2:=⟨by rw[ae],by rw[ae]⟩;obtain⟨k1,c1⟩:=s.hr.freezeVs (xz.map (Opd.ev Z));obtain⟨ai,aj⟩:=sj s has;have ha:uD (Mu M0 J (freezeVs Z.h (xz.map (Opd.ev Z)))) w ab (xs.map a.eval).toList:=by rw[show(xs.map a.eval).toList=xs.toList.map a.eval by simp];exact m7 aa ai aj (fun v l p u hv hl aw ax=>ro k1 (aw.ch c1) (by rw[m4];exact ax) (oI _ l (.inr ⟨v,hv,hl⟩))) (fun e u r=>r.go c1.go)
    refine ar ((a5 _ w _ s.inv (fun b hb=>Mu.lt k1 hb) ha).mono fun e w'⟨v,he,hb,ah⟩=>⟨v,he,?_⟩) hw;obtain⟨J',g1,g2,g3⟩:=Kg k1 hb a6 ah;exact ay _ _ J' ⟨g1,(s.fr.ch (c1.trans g2)).put o.dst g3,Γ.keep _ _ s.inv (hb.mono (Zc s.b0 s.hr.le)),s.b0⟩ (hb.mono s.hr.le) (c1.trans g2);cases a1;cases a1;cases he;rename_i hw;cases he;exact skip hw rfl;cases he
   |bq g1 n x=>
    unfold cT at he;simp only at he;split at he;rename_i hw;split at he;rename_i v hf;have old:dP Z.h g1 n (x.ev Z)=some v->(if Region.wanted o (yielded ops a.tmps)then o.wp P a w K Q else K (a.put o.dst undef) w):=fun h1=>by refine plain (op2:= .load g1 n x) rfl ?_;unfold cT;simp only[hw,dY,h1];exact he
    cases he;simp only[dY]at hf;unfold vB at hf;split at hf;rename_i ob i j ak;split at hf;rename_i z es aG;split at hf;rename_i e hei;split at hf;rename_i l b4;split at hf;rename_i a8;obtain⟨rfl,rfl⟩:=a8;cases hf;obtain⟨t,x0,hoo⟩:=abr a2;obtain⟨u,h1,h2⟩:=Rz s hoo a2 ak aG hei b4;exact aE h1 h2 rfl hw;cases hf;cases hf;cases hf;exact old hf;exact old hf;split at he;rename_i a1;cases a1;cases he;rename_i hw;cases he;exact skip hw rfl;cases he
   |bY n x y=>
    unfold cT at he;simp only at he;split at he;rename_i hw;split at he;rename_i v hf;cases hf;split at he;rename_i v h' a1;have old:dK Z.h n (x.ev Z) (y.ev Z)=some h'->v= .b8 []->(if Region.wanted o (yielded ops a.tmps)then o.wp P a w K Q else K (a.put o.dst undef) w):=fun h1 h2=>by subst h2;refine plain (op2:= .store n x y) rfl ?_;unfold cT;simp only[hw,dY,fa,h1];exact he
    simp only[fa]at a1;split at a1;rename_i h2 ag;cases a1;unfold yy at ag;split at ag;rename_i ob i j ak;split at ag;rename_i z es aG;split at ag;rename_i e p hei c7;split at ag;rename_i q b4;split at ag;rename_i a8;obtain⟨rfl,hp,hq⟩:=a8;cases ag;obtain⟨t,x0,y0,hoo⟩:=Gb a2;cases he;exact turn (OD s hoo a2 ak aG hei c7 b4 hp hq) rfl hw;cases ag;cases ag;cases ag;exact old ag rfl;exact old ag rfl;cases a1;cases he;rename_i hw;cases he;exact skip hw rfl;cases he
   |bN z x i=>
    unfold cT at he;simp only at he;split at he
    ·rename_i hw;split at he
     ·rename_i v hf;by_cases hx:∃ob,x.ev Z= .one (.arr ob)
      ·obtain⟨ob,ak⟩:=hx;cases he;have aQ:=hf;rw[Wr]at aQ;obtain⟨u,h1,h2⟩:=Fu ok.prog s.ba a2 rfl aQ;simp only[dY,ak]at hf;split at hf
       ·split at hf
        ·simp only[cN]at hf;have key:∀{ob' i':Nat},v= .one (.ptr ob' i' 0)->VR (Mu M0 J Z.h) w J Z.h v u:=by rintro ob' i' rfl;obtain⟨r,y,q1,q2,q3⟩:=h2;obtain⟨y0,q4,rfl⟩:=rf q2;refine⟨r,y0,q1,q4,?_⟩;cases y0<;>exact q3
         have:∃ob' i',v= .one (.ptr ob' i' 0):=by
          repeat' (split at hf)
          all_goals first
           |(cases hf;exact⟨_,_,rfl⟩)
           |cases hf
         obtain⟨ob',i',e⟩:=this;exact aE h1 (key e) rfl hw
        cases hf
       cases hf
      refine plain (op2:= .bH z x i) rfl ?_;have e:dY call Z (.bH z x i)=dY call Z (.bN z x i):=by
       simp only[dY];have:∀n,cN (lent Z.h) z (x.ev Z) n=cN Z.h z (x.ev Z) n:=fun n=>by
        cases aY:x.ev Z with
        |one l=>
         cases l with
         |arr ob=>exact absurd ⟨ob,aY⟩ hx
         |pv p=>cases p<;>rfl
         |_=>rfl
        |_=>rfl
       simp only[this]
      unfold cT;simp only[hw,e,hf];exact he
     split at he;rename_i a1;cases a1;cases he
    rename_i hw;cases he;exact skip hw rfl;cases he
   |c3 x=>unfold cT at he;simp only at he;split at he;rename_i hw;split at he;rename_i v hf;cases he;have aQ:=hf;rw[acR]at aQ;obtain⟨u,h1,h2⟩:=Fu ok.prog s.ba a2 rfl aQ;simp only[dY]at hf;split at hf;cases hf;exact aE h1 (by simpa[VR,LR,cG]using h2) rfl hw;cases hf;split at he;rename_i a1;cases a1;cases he;rename_i hw;cases he;exact skip hw rfl;cases he
   |bh f x k fl fz=>
    unfold cT at he;simp only at he;split at he;rename_i hw;split at he;rename_i v hf;cases hf;split at he;rename_i v h' a1;cases he;simp only[fa]at a1;split at a1;rename_i n ca;obtain⟨aq,xs,hk,has,ar⟩:=enter a2;obtain⟨x0,k0,aI,cx,ck⟩:∃x0 k0,xs.toList=[x0,k0]/\ ql kf x0=some x/\ ql kf k0=some k:=by
     have hl:=iH has;match hq:xs.toList,hl with
     |[x0,k0],_=>rw[hq]at has;obtain⟨y0,h0,c0⟩:=lf has 0 x0 rfl;obtain⟨y1,h1,c1⟩:=lf has 1 k0 rfl;simp at h0 h1;subst h0 h1;exact⟨x0,k0,rfl,c0,c1⟩
    have rx:=ol s cx;have rk:=ol s ck;rw[ca]at rk;have ek:a.eval k0= .int .i64 n:=by simpa[VR,LR,cG]using rk
    have b5:xs.map a.eval= #[a.eval x0, .int .i64 n]:=Array.ext' (by rw[ZZ,aI];simp[ek]);rw[b5]at ar;have fin:(Calls P aq #[a.eval x0, .int .i64 n] w fun e w'=>∃u,e= .returned u/\ Below base w w'/\ HR M0 base w' J h'/\ Ch (Mu M0 J Z.h) (Mu M0 J h') w w' J J Z.h h'/\ VR (Mu M0 J h') w' J h' v u)->(if Region.wanted o (yielded ops a.tmps)then o.wp P a w K Q else K (a.put o.dst undef) w):=fun h=>by refine ar (h.mono fun e w'⟨u,he,hb,g1,g2,g3⟩=>⟨u,he,?_⟩) hw;exact ay _ _ J ⟨g1,(s.fr.ch g2).put o.dst g3,Γ.keep _ _ s.inv (hb.mono s.b0),s.b0⟩ hb g2
    unfold nV at a1;split at a1;rename_i ob c ak;rw[ak]at rx;split at a1;rename_i z es aG;split at a1;rename_i aW;split at a1;rename_i l hr;split at a1;cases a1;refine fin ?_;have hS:=ok.soundM aq f _ _ hk hr;exact acS s rx aG aW hS;cases a1;cases a1;rename_i l0 aL aW;split at a1;rename_i l' z' es' hr;split at a1;rename_i a8;obtain⟨_,rfl⟩:=a8;cases a1;refine fin ?_;have hS:=ok.soundM aq f _ _ hk hr;exact acT s rx aG aW (fun e=>aL (by rw[e]at aW⊢)) hS;cases a1;cases a1;cases a1;cases a1;split at a1;rename_i cb;split at a1;rename_i a' hl;split at a1;rename_i l outs hr;split at a1;split at a1;rename_i h2 hp;cases a1;refine fin ?_;have hS:=ok.soundM aq f _ _ hk hr;exact afe s rx cb hl hS hp;cases a1;cases a1;cases a1;cases a1;cases a1;cases a1;cases he;rename_i hw;cases he;exact skip hw rfl;cases he
   |bg f xz fl fz=>unfold cT at he;simp only at he;split at he;rename_i hw;split at he;rename_i v hf;cases hf;split at he;rename_i v h' a1;cases he;simp only[fa]at a1;split at a1;rename_i ab aa;split at a1;rename_i r hr;split at a1;rename_i aB;have ae:=Option.some.inj a1;obtain⟨rfl,rfl⟩:v=(wv Z.h r).1/\ h'=(wv Z.h r).2:=⟨by rw[ae],by rw[ae]⟩;obtain⟨aq,xs,hk,has,ar⟩:=enter a2;obtain⟨a6,a5⟩:=ok.sound aq f ab r hk hr;refine ar ((a5 (fun _=>False) w _ s.inv (fun b h=>h.elim) (args has aa)).mono fun e w'⟨v,he,hb,ah⟩=>⟨v,he,?_⟩) hw;obtain⟨aF,J',g0,g1,g2,g3⟩:=WN s.hr hb a6 aB ah;exact hK aF _ _ J' g0 nofun ⟨g1,(s.fr.ch g2).put o.dst g3,Γ.keep _ _ s.inv (hb.mono (Zc s.b0 s.hr.le)),s.b0⟩ (hb.mono s.hr.le) g2;cases a1;cases a1;cases a1;cases he;rename_i hw;cases he;exact skip hw rfl;cases he
   |bf f xz fl fz=>unfold cT at he;simp only at he;split at he;rename_i hw;split at he;rename_i v hf;cases he;simp only[dY]at hf;split at hf;rename_i ab aa;split at hf;rename_i r hr;split at hf;rename_i bw;cases hf;obtain⟨aq,xs,hk,has,ar⟩:=enter a2;obtain⟨a6,a5⟩:=ok.sound aq f ab r hk hr;refine ar ((a5 (fun _=>False) w _ s.inv (fun b h=>h.elim) (args has aa)).mono fun e w'⟨v,he,hb,ah⟩=>⟨v,he,?_⟩) hw;obtain⟨k1,c1⟩:=s.hr.world hb.size (fun b hlt=>hb.block b hlt);exact ay _ _ J ⟨k1,(s.fr.ch c1).put o.dst (Du bw ah),Γ.keep _ _ s.inv (hb.mono (Zc s.b0 s.hr.le)),s.b0⟩ (hb.mono s.hr.le) c1;cases hf;cases hf;cases hf;split at he;rename_i a1;cases a1;cases he;rename_i hw;cases he;exact skip hw rfl;cases he
   |bS f xz fl fz=>
    unfold cT at he;simp only at he;split at he;rename_i hw;split at he;rename_i v hf;cases hf;split at he;rename_i v h' a1;cases he;simp only[fa]at a1;split at a1;rename_i ab aa;split at a1;rename_i r hr;cases a1;obtain⟨aq,xs,hk,has,ar⟩:=enter a2;obtain⟨a6,a5⟩:=ok.sound aq f ab r hk hr;obtain⟨k1,c1⟩:=s.hr.freezeVs (xz.map (Opd.ev Z));obtain⟨ai,aj⟩:=sj s has;have ha:uD (Mu M0 J (freezeVs Z.h (xz.map (Opd.ev Z)))) w ab (xs.map a.eval).toList:=by rw[show(xs.map a.eval).toList=xs.toList.map a.eval by simp];exact m7 aa ai aj (fun v l p u hv hl aw ax=>ro k1 (aw.ch c1) (by rw[m4];exact ax) (oI _ l (.inr ⟨v,hv,hl⟩))) (fun e u r=>r.go c1.go)
    refine ar ((a5 _ w _ s.inv (fun b hb=>Mu.lt k1 hb) ha).mono fun e w'⟨v,he,hb,ah⟩=>⟨v,he,?_⟩) hw;obtain⟨k2,c2⟩:=k1.world hb.size (fun b hlt=>hb.block b hlt);exact ay _ _ J ⟨k2,((s.fr.ch c1).ch c2).put o.dst (Oj k1 hb a6 ah),Γ.keep _ _ s.inv (hb.mono (Zc s.b0 s.hr.le)),s.b0⟩ (hb.mono s.hr.le) (c1.trans c2);cases a1;cases a1;cases he;rename_i hw;cases he;exact skip hw rfl;cases he
  cases aV
 cases hc
end
end Gi
