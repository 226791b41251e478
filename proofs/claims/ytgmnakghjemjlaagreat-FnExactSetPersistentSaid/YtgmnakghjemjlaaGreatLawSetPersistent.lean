/- Of this proof. -/
import Derived.Test.YtgmnakghjemjlaaGreatGtfb
import Derived.Test.YtgmnakghjemjlaaGreatGtfc
import Derived.Test.YtgmnakghjemjlaaGreatGtfz
import Derived.KernelRfl
import Derived.Test.YtgmnakghjemjlaaGreatGfacts
import Derived.Test.YtgmnakghjemjlaaGreatGkd
import Derived.Test.YtgmnakghjemjlaaGreatGnF
import Derived.ProofKit
import Derived.OpenShut
import Derived.Carry
import Derived.Deep.DeepHandedRow
set_option linter.unusedSimpArgs false
set_option linter.unusedVariables false
namespace Go.Proofs.YtgmnakghjemjlaaGreat
open Go Go.RowKit Gi
set_option linter.unusedSimpArgs false
set_option linter.unusedVariables false
set_option maxHeartbeats 8000000
theorem Pj :∀{n:Nat}{l:List (Nat×Nat)},(∀c,c<n→Al IU ((l.drop (c*16)).take 16))→l.length≤n*16→∀p∈l,IU p:=by
 intro n l h hl p hp
 obtain⟨i,hi,rfl⟩:=List.getElem_of_mem hp
 refine MM (h (i/16) (by omega)) _ (List.mem_iff_getElem?.2 ⟨i%16,?_⟩)
 rw[List.getElem?_take,if_pos (Nat.mod_lt _ (by decide)),List.getElem?_drop,show i/16*16+i%16=i by omega]
 simp[hi]
set_option maxRecDepth 100000 in
theorem Qd :∀p∈kp,IU p:=Pj (n:=22) (fun c hc=>match c,hc with
 |0,_=>Q3
 |1,_=>Q4
 |2,_=>Q5
 |3,_=>Q6
 |4,_=>Q7
 |5,_=>Q8
 |6,_=>Q9
 |7,_=>Ra
 |8,_=>Rb
 |9,_=>Rc
 |10,_=>QH
 |11,_=>QI
 |12,_=>QJ
 |13,_=>QK
 |14,_=>QL
 |15,_=>QM
 |16,_=>QN
 |17,_=>QO
 |18,_=>QP
 |19,_=>QQ
 |20,_=>QR
 |21,_=>QS
 |c+22,hc=>by omega) (by decide)
theorem mixed :Tryz.prog.follows .mixedOrders=true:=by kernel_rfl
theorem OC :kp.all (fun p=>match Tryz.prog.funcs[p.1]? with|some fn=> !(fn.origin== "slices.Insert")||p.1==325|none=>true)=true:=by kernel_rfl
theorem ins :∀f k fn t e z b,Gi.kf f=some k→Tryz.prog.funcs[f]? =some fn→fn.origin= "slices.Insert" →fn.params.toList.head? =some t→kR Tryz.prog t=some e→qT Tryz.prog e=some z→Lg Tryz.prog e=some b→Ey Tryz.prog f z b:=by
 intro f k fn t e z b hk hfn horg hpar he hz hb
 have h1:=List.all_eq_true.1 OC (f,k) (FY (l:=kp) (f:=f) (k:=k) hk)
 simp only[hfn,horg,beq_self_eq_true,Bool.not_true,Bool.false_or,Bool.or_eq_true,beq_iff_eq]at h1
 obtain rfl:=h1
 ·rw[Tryz.func325]at hfn
  cases hfn
  obtain rfl:78=t:=by simpa using hpar
  rw[show kR Tryz.prog 78=some 256 by kernel_rfl]at he
  cases he
  rw[show qT Tryz.prog 256=some 4 by kernel_rfl]at hz
  rw[show Lg Tryz.prog 256=some 56 by kernel_rfl]at hb
  cases hz
  cases hb
  exact OB
set_option maxRecDepth 100000 in
theorem PF :kp.all (fun p=>Nat.blt p.2 jr&&(Ph (p.2+jr)).isNone)=true:=by kernel_rfl
theorem small :∀f k,Gi.kf f=some k→k<jr∧Ph (k+jr)=none:=by
 intro f k h
 have h1:=List.all_eq_true.1 PF (f,k) (FY (l:=kp) (f:=f) (k:=k) h)
 simp only[Bool.and_eq_true,Option.isNone_iff_eq_none]at h1
 exact⟨by simpa using h1.1,h1.2⟩
theorem QT :Impl Gm Tryz.prog Gi.kf Ph aG:=⟨rfl,mixed,fun f k h=>Qd (f,k) (FY (l:=kp) (f:=f) (k:=k) h),small,ins⟩
end Go.Proofs.YtgmnakghjemjlaaGreat
namespace Go.Proofs.YtgmnakghjemjlaaGreat.fnExactSetPersistent
open Go.ChangeShapes Go.WideShapes Go.ChangeAt Go.RowKit Gi
theorem own :ownKnob Tryz.prog.godebug=none:=by kernel_rfl
theorem FZ :laidOutB Tryz.prog=true:=by kernel_rfl
set_option maxRecDepth 100000 in
theorem key :Gi.kf 3=some 610:=by kernel_rfl
set_option maxRecDepth 100000 in
theorem Na (H:Type)(enc:TypeId×Value→H)(W:World)(base:Nat)(args:Array Value)(ds gs:List (DataW H))(before:List MemPlace)
 (hval:∀(j:Nat)t v,Tryz.f3.params[j]? =some t→args[j]? =some v→Value.okWide Tryz.prog W .any base t v)
 (hW:DataW.Whole enc Tryz.prog Tryz.f3.params.toList Rows.fnExactSetPersistentSpec.vars false W args.toList ds gs before):
 Calls Tryz.prog 3 args W fun e W'=>∃v,e= .returned v∧Rows.fnExactSetPersistentSpec.post enc Tryz.prog Tryz.f3 false true false false W args v W':=by
 have hW':=hW
 obtain⟨p,q,hA0,hV,rfl,hfz,hnd⟩:=hW
 have hA:DataW.TrodAll enc Tryz.prog W 0 (fun _=>true) true Tryz.f3.params.toList args.toList ds p:=hA0
 rw[Tryz.params3]at hA hval
 obtain⟨v0,vs0,d0,ds0,p0,q0,hargs0,rfl,rfl,h0,r0⟩:=trodAll_cons hA
 obtain⟨v1,vs1,d1,ds1,p1,q1,hargs1,rfl,rfl,h1,r1⟩:=trodAll_cons r0
 obtain⟨v2,vs2,d2,ds2,p2,q2,hargs2,rfl,rfl,h2,r2⟩:=trodAll_cons r1
 obtain⟨rfl,rfl,rfl⟩:=trodAll_nil r2
 obtain rfl:args= #[v0,v1,v2]:=by cases args;simp_all
 obtain⟨rfl,rfl⟩:=trodVars_none hV
 have k0:=h0
 have lt0:∀x∈p0,x.block<W.heap.size:=by obtain⟨m,hm⟩:=k0;exact DataW.trod_lt m _ _ _ hm
 obtain⟨cs0,rfl,_⟩:=okWide_struct Tryz.underlying35 (hval 0 35 v0 rfl rfl)
 obtain⟨qs0,hq0,vr0⟩:=wZ (KI:=kfI) (g:=true) (n:=20) (ts:=eT) h0 (by kernel_rfl) (Or.inl ⟨rfl,cs0,rfl⟩)
 have k1:=h1
 have lt1:∀x∈p1,x.block<W.heap.size:=by obtain⟨m,hm⟩:=k1;exact DataW.trod_lt m _ _ _ hm
 obtain⟨s1,rfl⟩:=okWide_string Tryz.underlying9 (hval 1 9 v1 rfl rfl)
 obtain⟨qs1,hq1,vr1⟩:=wZ (KI:=kfI) (g:=false) (n:=20) (ts:=[.str]) h1 (by kernel_rfl) (Or.inr ⟨rfl,rfl,fun _=>by simp⟩)
 obtain⟨y1,yr1,rfl,hy1,ye1⟩:=dw hq1
 obtain rfl:=eU ye1
 obtain⟨c1,rfl⟩:=jl hy1
 have k2:=h2
 have lt2:∀x∈p2,x.block<W.heap.size:=by obtain⟨m,hm⟩:=k2;exact DataW.trod_lt m _ _ _ hm
 obtain⟨s2,rfl⟩:=okWide_string Tryz.underlying9 (hval 2 9 v2 rfl rfl)
 obtain⟨qs2,hq2,vr2⟩:=wZ (KI:=kfI) (g:=false) (n:=20) (ts:=[.str]) h2 (by kernel_rfl) (Or.inr ⟨rfl,rfl,fun _=>by simp⟩)
 obtain⟨y2,yr2,rfl,hy2,ye2⟩:=dw hq2
 obtain rfl:=eU ye2
 obtain⟨c2,rfl⟩:=jl hy2
 clear hA0
 have call:=L1 QT (f:=3) (k:=610) key (wr hq0 hy1 hy2) (W:=W) (args:= #[.agg cs0, .string s1, .string s2]) trivial ⟨rfl,fun i x u hx hu=>by
  match i,hx,hu with
  |0,hx,hu=>simp at hx hu;subst hx;subst hu;exact vr0
  |1,hx,hu=>simp at hx hu;subst hx;subst hu;exact vr1
  |2,hx,hu=>simp at hx hu;subst hx;subst hu;exact vr2
  |i+3,hx,hu=>simp at hx⟩
 refine call.mono fun e W'⟨he,bel⟩=> ?_
 subst he
 exact⟨_,rfl,_,_,_,[],_,[],hW',trodAll_mk1 (shut_bool Tryz.underlying4 _),trodAll_cons_mk (Below.trod FZ (by kernel_rfl) (of_decide_eq_true (by kernel_rfl)) k0 bel lt0) (trodAll_cons_mk (Below.trod FZ (by kernel_rfl) (of_decide_eq_true (by kernel_rfl)) k1 bel lt1) (trodAll_cons_mk (Below.trod FZ (by kernel_rfl) (of_decide_eq_true (by kernel_rfl)) k2 bel lt2) (trodAll_mk0))),rfl,bel.frame _,fun h=>by cases h⟩
set_option maxRecDepth 100000 in
theorem lifted (os:Os)(started:os.Started)(H:Type)(enc:TypeId×Value→H):
 ReturnsInHanded {} Tryz.checked os 3 .any (Rows.fnExactSetPersistentSpec.pre6 enc Tryz.prog Tryz.f3 Rows.fnExactSetPersistentRow.domain false) (Rows.fnExactSetPersistentSpec.post enc Tryz.prog Tryz.f3 false true false false):=by
 refine returnsInHanded_of_change (C:=Tryz.checked) own started (by kernel_rfl) Tryz.func3
  (ChangeSpec.witness6 (enc:=enc) (C:=Tryz.checked) false ⟨#[], #[.agg #[.int .i64 0, .bool false, .int .i64 0, .slice none 0 0, .slice none 0 0, .int .i64 0, .slice none 0 0, .slice none 0 0, .slice none 0 0, .slice none 0 0], .string ⟨#[]⟩, .string ⟨#[]⟩],[]⟩ 12 (by kernel_rfl) (by kernel_rfl) (by kernel_rfl) (by kernel_rfl)) ?_
 intro W base args ds gs before hval0 hW hcnd _
 exact Na H enc W base args ds gs before hval0 hW
set_option maxHeartbeats 8000000 in
theorem closed :joinedFacts Tryz.prog 3 Tryz.f3 Rows.fnExactSetPersistentSpec Rows.fnExactSetPersistentRow=true:=by
 unfold joinedFacts
 exact j9 (j9 (j9 (j9 (j9 (j9 (j9 (j9 (j9 (j9 (j9 (j9 (j9 (j9 (j9 (j9 (j9 (j9 (j9 (j9 (j9 (j9 (j9 (j9 (j9 (j9 (j9 (j9 (j9 (j9 (j9 ((by as_aux_lemma=>kernel_rfl)) P9) Qc) (by as_aux_lemma=>kernel_rfl)) (by as_aux_lemma=>kernel_rfl)) (by as_aux_lemma=>kernel_rfl)) (by as_aux_lemma=>kernel_rfl)) (by as_aux_lemma=>kernel_rfl)) (by as_aux_lemma=>kernel_rfl)) (by as_aux_lemma=>kernel_rfl)) (by as_aux_lemma=>kernel_rfl)) (by as_aux_lemma=>kernel_rfl)) (by as_aux_lemma=>kernel_rfl)) (by as_aux_lemma=>kernel_rfl)) (by as_aux_lemma=>kernel_rfl)) (by as_aux_lemma=>kernel_rfl)) (by as_aux_lemma=>kernel_rfl)) (by as_aux_lemma=>kernel_rfl)) (by as_aux_lemma=>kernel_rfl)) (by as_aux_lemma=>kernel_rfl)) (by as_aux_lemma=>kernel_rfl)) (by as_aux_lemma=>kernel_rfl)) P8) (by as_aux_lemma=>kernel_rfl)) Pv) Pu) Qa) Qb) (by as_aux_lemma=>kernel_rfl)) (by as_aux_lemma=>kernel_rfl)) (by as_aux_lemma=>kernel_rfl)) (by as_aux_lemma=>kernel_rfl)
end Go.Proofs.YtgmnakghjemjlaaGreat.fnExactSetPersistent
namespace Go.Proofs.YtgmnakghjemjlaaGreat
theorem fnExactSetPersistent_holds :Rows.FnExactSetPersistentSaid:=
 OpenClaim.holds_of_wide 3 Tryz.f3 rfl rfl rfl rfl rfl rfl rfl ⟨rfl,rfl,rfl,rfl,rfl⟩ rfl rfl rfl rfl rfl (by as_aux_lemma=>kernel_rfl) Tryz.func3 fnExactSetPersistent.closed
  (of_decide_eq_true (by as_aux_lemma=>kernel_rfl)) (by unfold Func.isWrapper;first|(rw[if_pos (by decide+kernel)];kernel_rfl)|(rw[if_neg (by decide+kernel)];exact⟨rfl,rfl⟩))
  (fun os started H enc _=>fnExactSetPersistent.lifted os started H enc)
end Go.Proofs.YtgmnakghjemjlaaGreat
