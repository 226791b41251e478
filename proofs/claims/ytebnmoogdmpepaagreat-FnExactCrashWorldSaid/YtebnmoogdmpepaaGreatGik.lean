/- Of this proof. -/
import Derived.Test.YtebnmoogdmpepaaGreatGij
set_option linter.unusedSimpArgs false
set_option linter.unusedVariables false
namespace Gi
open Go Go.RowKit
variable {KI:KF}
section
variable {Γ:Ctx}{P:Program}{M0:Nat→Prop}{base:Nat}{σ:St}{a:Act}{w:World}{ρ:List (Option Nat)}
theorem iY {h:List AObj}:∀{vs:List V}{es:List (List PV)},aV h vs=some es→es.length=vs.length∧∀(i:Nat)v,vs[i]? =some v→∃e,es[i]? =some e∧viewL h v.cells=some e
 |[],es,e=>by simp[aV]at e;subst e;exact⟨rfl,fun i l hl=>by simp at hl⟩
 |v::vs,es,e=>by
  unfold aV at e
  split at e
  ·rename_i p ps' h1 h2
   cases e
   obtain⟨h3,h4⟩:=iY h2
   refine⟨by simp[h3],fun i l' hl=> ?_⟩
   cases i with
   |zero=>simp at hl;subst hl;exact⟨p,rfl,h1⟩
   |succ i=>simpa using h4 i l' (by simpa using hl)
  ·cases e
theorem sQ {z:Nat}:∀(us:List Value)(k:Nat)(cells:Array Value),(∀u∈us,u.cells.size=z)→(k+us.length)*z≤cells.size→
 ∃cells',Instr.fill (fun i=>some (i*z,z)) cells ((us.zipIdx k).map fun x=>(x.2,x.1))=some cells'∧cells'.size=cells.size∧
  (∀i j u,us[i]? =some u→j<z→cells'[(k+i)*z+j]? =u.cells[j]?)∧(∀p,p<k*z→cells'[p]? =cells[p]?)
 |[],k,cells,_,_=>⟨cells,rfl,rfl,fun i j u hu=>by simp at hu,fun p _=>rfl⟩
 |u::us,k,cells,hu,hl=>by
  simp only[Zn]at hl
  have hsz:u.cells.size=z:=hu u (by simp)
  have hkz:k*z+z≤cells.size:=by
   refine Zc ?_ hl
   calc k*z+z=(k+1)*z:=by rw[Z7,Yv]
    _≤(k+(us.length+1))*z:=Zx _ (by omega)
  have hcond:¬(u.cells.size≠z||decide (k*z+u.cells.size>cells.size))=true:=by simp[hsz];omega
  have hfold:u.cells.zipIdx.foldl (fun cs(x:Value×Nat)=>cs.setIfInBounds (k*z+x.2) x.1) cells=(u.cells.toList.zipIdx 0).foldl (fun cs(x:Value×Nat)=>cs.setIfInBounds (k*z+x.2) x.1) cells:=by
   rw[←Array.foldl_toList];simp
  obtain⟨cells',h1,h2,h3,h4⟩:=sQ us (k+1) ((u.cells.toList.zipIdx 0).foldl (fun cs(x:Value×Nat)=>cs.setIfInBounds (k*z+x.2) x.1) cells)
   (fun u' hu'=>hu u' (by simp[hu'])) (by rw[Bq];rwa[show k+1+us.length=k+(us.length+1) by omega])
  refine⟨cells',?_,by rw[h2,Bq],fun i j u' hu' hj=> ?_,fun p hp=> ?_⟩
  ·simp only[List.zipIdx_cons,Zv,Instr.fill]
   rw[if_neg hcond]
   rw[hfold]
   exact h1
  ·cases i with
   |zero=>
    simp at hu';subst hu'
    rw[Y1,h4 _ (by rw[Z7,Yv];omega),FI _ _ 0 cells (by simp[hsz];omega)]
    rw[if_pos (by simp[hsz];omega)]
    simp
   |succ i=>
    have:=h3 i j u' (by simpa using hu') hj
    rwa[show k+1+i=k+(i+1) by omega]at this
  ·rw[h4 p (by rw[Z7,Yv];omega),FI _ _ 0 cells (by simp[hsz];omega),if_neg (by omega)]
theorem Iv (s:SR Γ M0 base σ a w ρ){o:Oper}{d:Md}{ao:AOp}{v:V}{h':List AObj}{call:Nat→List V→Option V}{t:TypeId}{n:Nat}{parts:Array (Nat×Operand)}(hop:o.op= .buildSlice t n parts)
 (hc:eV P kf d o.op=some ao) (he:cf call σ ao=some (v,h')):jC P M0 base σ w ρ v h' (execOp a.eval o):=by
 rw[hop]at hc;simp only[eV]at hc
 split at hc
 ·rename_i e ps ht hps
  split at hc
  ·rename_i z v0 hsz hz
   split at hc
   ·rename_i hcond
    simp only[Zm,beq_iff_eq]at hcond
    obtain⟨hrange,hv0⟩:=hcond
    cases hc
    by_cases q:(d.st&&(ps.isEmpty|| !d.dp))=true
    ·rw[if_pos q]at he;cases he
    rw[if_neg q]at he
    simp only[cf]at he
    split at he
    ·rename_i hchk
     simp only[Zm,decide_eq_true_eq,Zw,beq_iff_eq,Yo,forall_exists_index,and_imp,forall_apply_eq_imp_iff₂,Zs]at hchk
     obtain⟨⟨hall,hz0⟩,h24⟩:=hchk
     split at he
     ·rename_i es hes
      cases he
      obtain⟨i,hi,hz',hs'⟩:∃i,P.info? e=some i∧i.zero=some v0∧i.size=z:=by
       unfold m4 at hz;unfold o7 at hsz
       cases hi:P.info? e with
       |none=>simp[hi]at hz
       |some i=>simp[hi]at hz hsz;exact⟨i,rfl,hz,hsz⟩
      have hu:P.underlying t=some (.slice e):=by
       unfold gJ at ht
       split at ht<;>cases ht
       assumption
      have hplen:ps.length=n:=by rw[eT hps];have:=congrArg List.length hrange;simpa using this
      have hparts:(parts.map fun x=>(x.1,a.eval x.2)).toList=((parts.toList.map fun x=>a.eval x.2).zipIdx 0).map fun x=>(x.2,x.1):=by
       apply Xf
       intro k
       simp only[Yj,Zp,List.getElem?_zipIdx,Yc]
       have hk:(parts.toList.map (·.1))[k]? =(List.range n)[k]? :=by rw[hrange]
       simp only[Zp]at hk
       cases hq:parts.toList[k]? with
       |none=>simp
       |some q=>
        simp only[hq,Option.map_some]at hk⊢
        obtain⟨h1,h2⟩:=Zb.1 hk.symm
        simp at h2
        simp[←h2]
      have hval:∀(k:Nat)q,(parts.toList.map fun x=>a.eval x.2)[k]? =some q→∃y,ps[k]? =some y∧VR (Mu M0 ρ σ.h) w ρ σ.h (y.ev σ) q∧ru (Mu M0 ρ σ.h) w ρ σ.h (y.ev σ).cells q.cells.toList:=by
       intro k q hq
       simp only[Zp,Zj]at hq
       obtain⟨q0,hq0,rfl⟩:=hq
       obtain⟨y,hy,hy'⟩:=ib hps k q0 hq0
       have r:=aw s hy'
       obtain⟨e1,_,he1⟩:=(iY hes).2 k (y.ev σ) (by simp[hy])
       refine⟨y,hy,r,r.cells ?_⟩
       intro xs exs
       rw[exs]at he1
       simp[V.cells,viewL,L.view]at he1
      have hsizes:∀u∈(parts.toList.map fun x=>a.eval x.2),u.cells.size=z:=by
       intro u hu'
       obtain⟨k,hk,rfl⟩:=Yp hu'
       obtain⟨y,hy,_,hl⟩:=hval k _ (Zr hk)
       have:=hall y (Zk hy)
       rw[←this,hl.1];simp
      have hnl:(parts.toList.map fun x=>a.eval x.2).length=n:=by rw[Zs,←eT hps,hplen]
      obtain⟨cells',hf1,hf2,hf3,_⟩:=sQ (z:=z) (parts.toList.map fun x=>a.eval x.2) 0 ((Array.range (n*z)).map (v0.cells[· %v0.cells.size]!)) hsizes (by rw[hnl];simp)
      rw[←hparts,Yj]at hf1
      have hn24:¬n*z>2^24:=by rw[hplen]at h24;omega
      have hrun:(Instr.buildSlice t n (parts.map fun x=>(x.1,a.eval x.2))).run P w= .ok (.slice (some ⟨w.heap.size,0,none⟩) n n) (w.alloc (.cells cells' e)):=by
       simp only[Instr.buildSlice,Sem.run_bind,run_underlying hu,Result.andThen_ok,kO e hsz]
       rw[if_neg hn24]
       by_cases hnz:n*z=0
       ·have hr0:Array.range (n*z)= #[]:=by rw[hnz];rfl
        rw[hr0]at hf1
        simp only[hnz,if_true,Sem.run_bind,Sem.run_pure,Result.andThen_ok]
        have hr1:Array.range 0= #[]:=rfl
        simp only[hr1,Array.map_empty]at hf1⊢
        simp[hf1,newRow]
       ·simp only[hnz,if_false]
        have hzv:(zeroValue e).run P w= .ok v0 w:=by simp[zeroValue,typeInfo,hi,hz']
        simp[hzv,hf1,newRow]
      obtain⟨k1,c1⟩:=s.hr.freezeVs (ps.map (Opd.ev σ))
      have hel:es.length=n:=by rw[(iY hes).1];simpa using hplen
      have hrow:∀(i:Nat)(e1:List PV),es[i]? =some e1→∃y q,ps[i]? =some y∧(parts.toList.map fun x=>a.eval x.2)[i]? =some q∧viewL σ.h (y.ev σ).cells=some e1∧ru (Mu M0 ρ σ.h) w ρ σ.h (y.ev σ).cells q.cells.toList:=by
       intro i e1 he1
       have hi':i<n:=by rw[←hel];exact(Zb.1 he1).1
       have hq:(parts.toList.map fun x=>a.eval x.2)[i]? =some ((parts.toList.map fun x=>a.eval x.2)[i]'(by rw[hnl];exact hi')):=by simp[hi',hnl]
       obtain⟨y,hy,_,hl⟩:=hval i _ hq
       obtain⟨e2,he2,hv2⟩:=(iY hes).2 i (y.ev σ) (by simp[hy])
       rw[he1]at he2;cases he2
       exact⟨y,_,hy,hq,hv2,hl⟩
      obtain⟨ρ',g1,g2,g3⟩:=M5 (h:=freezeVs σ.h (ps.map (Opd.ev σ))) k1 (w':=w.alloc (.cells cells' e)) (by simp) (fun b hb=>fg w _ b hb) (z:=z) (cap:=n) (es:=es) hz0
       (fun e1 he1=>by
        obtain⟨k,hk,rfl⟩:=Yp he1
        obtain⟨y,q,hy,hq,hv,hl⟩:=hrow k _ (Zr hk)
        rw[(mX hv).1]
        exact hall y (Zk hy)) (gg.new w cells' e) (by rw[hf2];simp) (by omega)
       (by
        have:n≤n*z:=Nat.le_mul_of_pos_right n hz0
        simp only[maxLen];omega)
       (fun i e1 j p he1 hp=>by
        obtain⟨y,q,hy,hq,hv,hl⟩:=hrow i e1 he1
        obtain⟨hpl,hpr⟩:=sS k1 (hl.ch c1) hv (fun l _=>jn _ l) (fun l hl'=>kg _ l (.inr ⟨_,Yo.2 ⟨y,Zk hy,rfl⟩,hl'⟩))
        obtain⟨u,hu1,hu2⟩:=hpr j p hp
        have hj:j<z:=by
         have h1:=(Zb.1 hp).1
         rw[(mX hv).1,hall y (Zk hy)]at h1
         exact h1
        refine⟨u,?_,hu2⟩
        have:=hf3 i j q hq hj
        rw[Yc]at this
        rw[this]
        simpa using hu1)
      refine⟨.value (.slice (some ⟨w.heap.size,0,none⟩) n n), .slice (some ⟨w.heap.size,0,none⟩) n n,_,ρ',?_, .inl rfl,(Below.refl _ _).alloc s.hr.le _,g1,c1.trans g2,?_⟩
      ·simp only[execOp,hop]
       have:(parts.map fun(x:Nat×Operand)=>match x with|(i,x)=>(i,a.eval x))=parts.map fun x=>(x.1,a.eval x.2):=rfl
       simp only[Sem.run_bind]
       first|rw[hrun]|(rw[this,hrun])
       simp
      ·rw[hel]at g3;exact g3
     ·cases he
    ·cases he
   ·cases hc
  ·cases hc
 ·cases hc
theorem DV :∀{ls:List L}{ps:List PV},ce ls=some ps→ls=ps.map .pv
 |[],ps,e=>by simp only[ce]at e;cases e;rfl
 |l::ls,ps,e=>by
  cases l with
  |pv p=>
   simp only[ce]at e
   split at e
   ·rename_i qs h1
    cases e
    rw[DV h1];rfl
   ·cases e
  |_=>cases e
theorem uO :∀{vs:List V}{es:List (List PV)},dM vs=some es→es.length=vs.length∧∀(i:Nat)v,vs[i]? =some v→∃e,es[i]? =some e∧v.cells=e.map .pv
 |[],es,e=>by simp only[dM]at e;cases e;exact⟨rfl,fun i l hl=>by simp at hl⟩
 |v::vs,es,e=>by
  simp only[dM]at e
  split at e
  ·rename_i p ps' h1 h2
   cases e
   obtain⟨h3,h4⟩:=uO h2
   refine⟨by simp[h3],fun i l' hl=> ?_⟩
   cases i with
   |zero=>simp at hl;subst hl;exact⟨p,rfl,DV h1⟩
   |succ i=>simpa using h4 i l' (by simpa using hl)
  ·cases e
theorem Iu (s:SR Γ M0 base σ a w ρ){o:Oper}{d:Md}{z:Nat}{ps:List Opd}{v:V}{call:Nat→List V→Option V}
 (hc:eV P kf d o.op=some (.buildF z ps)) (he:bj call σ (.buildF z ps)=some v):∃u w',(execOp a.eval o).run P w= .ok (.value u) w'∧Below w.heap.size w w'∧VR (Mu M0 ρ σ.h) w' ρ σ.h v u:=by
 obtain⟨t,n,parts,hop⟩:∃t n parts,o.op= .buildSlice t n parts:=by
  cases hop:o.op
  case buildSlice t n parts=>exact⟨t,n,parts,rfl⟩
  case makeFunc fn first caps=>rw[hop]at hc;cases fn<;>simp only[eV]at hc<;>first|(cases hc;done)|((repeat' (split at hc))<;>cases hc)
  all_goals
   rw[hop]at hc
   simp only[eV]at hc
   first
   |(cases hc;done)
   |(simp only[Zj]at hc;obtain⟨_,_,hc⟩:=hc;cases hc;done)
   |((repeat' (split at hc))<;>cases hc)
 rw[hop]at hc;simp only[eV]at hc
 split at hc
 ·rename_i e ps' ht hps
  split at hc
  ·rename_i z' v0 hsz hz
   split at hc
   ·rename_i hcond
    simp only[Zm,beq_iff_eq]at hcond
    obtain⟨hrange,hv0⟩:=hcond
    by_cases q:(d.st&&(ps'.isEmpty|| !d.dp))=true
    case neg=>rw[if_neg q]at hc;cases hc
    rw[if_pos q]at hc
    cases hc
    simp only[bj]at he
    split at he
    ·rename_i es hes
     split at he
     ·rename_i hchk
      cases he
      obtain⟨hlen,hz0,h24⟩:=hchk
      have hes1:es.length=ps.length:=by rw[(uO hes).1];simp
      rw[hes1]at h24
      have hall:∀y∈ps,(y.ev σ).cells.length=z:=by
       intro y hy
       obtain⟨k,hk,rfl⟩:=Yp hy
       obtain⟨e1,he1,hcl⟩:=(uO hes).2 k (ps[k].ev σ) (by simp[hk])
       rw[hcl]
       have:=Zw.1 hlen e1 (Zk he1)
       simpa using this
      obtain⟨i,hi,hz',hs'⟩:∃i,P.info? e=some i∧i.zero=some v0∧i.size=z:=by
       unfold m4 at hz;unfold o7 at hsz
       cases hi:P.info? e with
       |none=>simp[hi]at hz
       |some i=>simp[hi]at hz hsz;exact⟨i,rfl,hz,hsz⟩
      have hu:P.underlying t=some (.slice e):=by
       unfold gJ at ht
       split at ht<;>cases ht
       assumption
      have hplen:ps.length=n:=by rw[eT hps];have:=congrArg List.length hrange;simpa using this
      have hparts:(parts.map fun x=>(x.1,a.eval x.2)).toList=((parts.toList.map fun x=>a.eval x.2).zipIdx 0).map fun x=>(x.2,x.1):=by
       apply Xf
       intro k
       simp only[Yj,Zp,List.getElem?_zipIdx,Yc]
       have hk:(parts.toList.map (·.1))[k]? =(List.range n)[k]? :=by rw[hrange]
       simp only[Zp]at hk
       cases hq:parts.toList[k]? with
       |none=>simp
       |some q=>
        simp only[hq,Option.map_some]at hk⊢
        obtain⟨h1,h2⟩:=Zb.1 hk.symm
        simp at h2
        simp[←h2]
      have hval:∀(k:Nat)q,(parts.toList.map fun x=>a.eval x.2)[k]? =some q→∃y,ps[k]? =some y∧VR (Mu M0 ρ σ.h) w ρ σ.h (y.ev σ) q∧ru (Mu M0 ρ σ.h) w ρ σ.h (y.ev σ).cells q.cells.toList:=by
       intro k q hq
       simp only[Zp,Zj]at hq
       obtain⟨q0,hq0,rfl⟩:=hq
       obtain⟨y,hy,hy'⟩:=ib hps k q0 hq0
       have r:=aw s hy'
       obtain⟨e1,_,he1⟩:=(uO hes).2 k (y.ev σ) (by simp[hy])
       refine⟨y,hy,r,r.cells ?_⟩
       intro xs exs
       rw[exs]at he1
       cases e1<;>simp[V.cells]at he1
      have hsizes:∀u∈(parts.toList.map fun x=>a.eval x.2),u.cells.size=z:=by
       intro u hu'
       obtain⟨k,hk,rfl⟩:=Yp hu'
       obtain⟨y,hy,_,hl⟩:=hval k _ (Zr hk)
       have:=hall y (Zk hy)
       rw[←this,hl.1];simp
      have hnl:(parts.toList.map fun x=>a.eval x.2).length=n:=by rw[Zs,←eT hps,hplen]
      obtain⟨cells',hf1,hf2,hf3,_⟩:=sQ (z:=z) (parts.toList.map fun x=>a.eval x.2) 0 ((Array.range (n*z)).map (v0.cells[· %v0.cells.size]!)) hsizes (by rw[hnl];simp)
      rw[←hparts,Yj]at hf1
      have hn24:¬n*z>2^24:=by rw[hplen]at h24;omega
      have hrun:(Instr.buildSlice t n (parts.map fun x=>(x.1,a.eval x.2))).run P w= .ok (.slice (some ⟨w.heap.size,0,none⟩) n n) (w.alloc (.cells cells' e)):=by
       simp only[Instr.buildSlice,Sem.run_bind,run_underlying hu,Result.andThen_ok,kO e hsz]
       rw[if_neg hn24]
       by_cases hnz:n*z=0
       ·have hr0:Array.range (n*z)= #[]:=by rw[hnz];rfl
        rw[hr0]at hf1
        simp only[hnz,if_true,Sem.run_bind,Sem.run_pure,Result.andThen_ok]
        have hr1:Array.range 0= #[]:=rfl
        simp only[hr1,Array.map_empty]at hf1⊢
        simp[hf1,newRow]
       ·simp only[hnz,if_false]
        have hzv:(zeroValue e).run P w= .ok v0 w:=by simp[zeroValue,typeInfo,hi,hz']
        simp[hzv,hf1,newRow]
      have hel:es.length=n:=by rw[hes1,hplen]
      obtain⟨k1,c1⟩:=s.hr.world (w':=w.alloc (.cells cells' e)) (by simp) (fun b hb=>fg w _ b hb)
      refine⟨.slice (some ⟨w.heap.size,0,none⟩) n n,w.alloc (.cells cells' e),?_,(Below.refl _ _).alloc (Zl _) _,?_⟩
      ·simp only[execOp,hop]
       have:(parts.map fun(x:Nat×Operand)=>match x with|(i,x)=>(i,a.eval x))=parts.map fun x=>(x.1,a.eval x.2):=rfl
       simp only[Sem.run_bind]
       first|rw[hrun]|(rw[this,hrun])
       simp
      ·cases es with
       |nil=>
        obtain rfl:n=0:=by simpa using hel.symm
        exact⟨_,rfl⟩
       |cons e0 es0=>
       show ap _ _ (.lst (e0::es0)) _
       simp only[ap]
       refine .inr ⟨w.heap.size,0,n,z,by rw[hel],fun hm=> ?_,by simp,cZ.of fun i e1 he1=> ?_,by rw[hel];exact Zl _⟩
       ·rcases hm with hm|⟨oo,ob,ho,hmut,hr⟩
        ·have:=s.hr.old _ hm;have:=s.hr.le;omega
        ·have:=(s.hr.objs oo ob _ ho hr).lt (AObj.mut_live hmut)
         omega
       ·have hi':i<n:=by rw[←hel];exact(Zb.1 he1).1
        have hq:(parts.toList.map fun x=>a.eval x.2)[i]? =some ((parts.toList.map fun x=>a.eval x.2)[i]'(by rw[hnl];exact hi')):=by simp[hi',hnl]
        obtain⟨y,hy,_,hl⟩:=hval i _ hq
        obtain⟨e2,he2,hv2⟩:=(uO hes).2 i (y.ev σ) (by simp[hy])
        rw[he1]at he2;cases he2
        have hlz:e1.length=z:=by have:=hall y (Zk hy);rw[hv2]at this;simpa using this
        refine⟨hlz,dV.of fun j p hp=> ?_⟩
        have hj:j<z:=by rw[←hlz];exact(Zb.1 hp).1
        have hjl:j<((parts.toList.map fun x=>a.eval x.2)[i]'(by rw[hnl];exact hi')).cells.toList.length:=by
         rw[←hl.1,hv2];simpa[hlz]using hj
        have hlr:=hl.2 j (.pv p) _ (by rw[hv2];simp[hp]) (Zr hjl)
        refine⟨_,?_,ap.go c1.go p _ hlr⟩
        rw[(gg.new w cells' e).cell]
        have:=hf3 i j _ hq hj
        rw[Yc]at this⊢
        rw[this]
        simp at hjl
        simp[hjl]
     ·cases he
    ·cases he
   ·cases hc
  ·cases hc
 ·cases hc
end
end Gi
