/- Of this proof. -/
import Derived.Test.YtebnmoogdmpepaaGreatGtfz
import Derived.Test.YtebnmoogdmpepaaGreatGfacts
import Derived.Test.YtebnmoogdmpepaaGreatGqE
import Derived.ProofKit
import Derived.OpenShut
import Derived.Carry
import Derived.Deep.DeepHandedRow
set_option linter.unusedSimpArgs false
set_option linter.unusedVariables false
namespace Go.Proofs.YtebnmoogdmpepaaGreat.fnExactCrashWorld
open Go.ChangeShapes Go.WideShapes Go.ChangeAt Go.RowKit Gi
theorem own :ownKnob Tryz.prog.godebug=none:=by kernel_rfl
theorem Oa :laidOutB Tryz.prog=true:=by kernel_rfl
set_option maxRecDepth 100000 in
theorem key :Gi.kf 3=some 613:=by kernel_rfl
set_option maxRecDepth 100000 in
theorem Q3 (H:Type)(enc:TypeId×Value→H)(W:World)(base:Nat)(args:Array Value)(ds gs:List (DataW H))(before:List MemPlace)
 (hval:∀(j:Nat)t v,Tryz.f3.params[j]? =some t→args[j]? =some v→Value.okWide Tryz.prog W .any base t v)
 (hW:DataW.Whole enc Tryz.prog Tryz.f3.params.toList Rows.fnExactCrashWorldSpec.vars false W args.toList ds gs before):
 Calls Tryz.prog 3 args W fun e W'=>∃v,e= .returned v∧Rows.fnExactCrashWorldSpec.post enc Tryz.prog Tryz.f3 false true false false W args v W':=by
 have hW':=hW
 obtain⟨p,q,hA0,hV,rfl,hfz,hnd⟩:=hW
 have hA:DataW.TrodAll enc Tryz.prog W 0 (fun _=>true) true Tryz.f3.params.toList args.toList ds p:=hA0
 rw[Tryz.params3]at hA hval
 obtain⟨v0,vs0,d0,ds0,p0,q0,hargs0,rfl,rfl,h0,r0⟩:=trodAll_cons hA
 obtain⟨v1,vs1,d1,ds1,p1,q1,hargs1,rfl,rfl,h1,r1⟩:=trodAll_cons r0
 obtain⟨rfl,rfl,rfl⟩:=trodAll_nil r1
 obtain rfl:args= #[v0,v1]:=by cases args;simp_all
 obtain⟨rfl,rfl⟩:=trodVars_none hV
 have k0:=h0
 have lt0:∀x∈p0,x.block<W.heap.size:=by obtain⟨m,hm⟩:=k0;exact DataW.trod_lt m _ _ _ hm
 obtain⟨cs0,rfl,_⟩:=okWide_struct Tryz.underlying35 (hval 0 35 v0 rfl rfl)
 obtain⟨qs0,hq0,vr0⟩:=Hy (KI:=kfI) (g:=true) (n:=20) (ts:=dh) h0 (by kernel_rfl) (Or.inl ⟨rfl,cs0,rfl⟩)
 have k1:=h1
 have lt1:∀x∈p1,x.block<W.heap.size:=by obtain⟨m,hm⟩:=k1;exact DataW.trod_lt m _ _ _ hm
 obtain⟨sa1,sl1,sc1,rfl⟩:=okWide_slice Tryz.underlying36 (hval 1 36 v1 rfl rfl)
 obtain⟨qs1,hq1,vr1⟩:=Hy (KI:=kfI) (g:=false) (n:=20) (ts:=[.lst [.int .u8]]) h1 (by kernel_rfl) (Or.inr ⟨rfl,rfl,fun _=>by simp⟩)
 obtain⟨y1,yr1,rfl,hy1,ye1⟩:=eA hq1
 obtain rfl:=fR ye1
 clear hA0
 have call:=PT Vm (f:=3) (k:=613) key (Fl hq0 hy1) (W:=W) (args:= #[.agg cs0, .slice sa1 sl1 sc1]) trivial ⟨rfl,fun i x u hx hu=>by
  match i,hx,hu with
  |0,hx,hu=>simp at hx hu;subst hx;subst hu;exact vr0
  |1,hx,hu=>simp at hx hu;subst hx;subst hu;exact vr1
  |i+2,hx,hu=>simp at hx⟩
 refine call.mono fun e W'⟨he,bel⟩=> ?_
 subst he
 exact⟨_,rfl,_,_,_,[],_,[],hW',trodAll_mk1 (shut_bool Tryz.underlying4 _),trodAll_cons_mk (Below.trod Oa (by kernel_rfl) (of_decide_eq_true (by kernel_rfl)) k0 bel lt0) (trodAll_cons_mk (Below.trod Oa (by kernel_rfl) (of_decide_eq_true (by kernel_rfl)) k1 bel lt1) (trodAll_mk0)),rfl,bel.frame _,fun h=>by cases h⟩
set_option maxRecDepth 100000 in
theorem lifted (os:Os)(started:os.Started)(H:Type)(enc:TypeId×Value→H):
 ReturnsInHanded {} Tryz.checked os 3 .any (Rows.fnExactCrashWorldSpec.pre6 enc Tryz.prog Tryz.f3 Rows.fnExactCrashWorldRow.domain false) (Rows.fnExactCrashWorldSpec.post enc Tryz.prog Tryz.f3 false true false false):=by
 refine returnsInHanded_of_change (C:=Tryz.checked) own started (by kernel_rfl) Tryz.func3
  (ChangeSpec.witness6 (enc:=enc) (C:=Tryz.checked) false ⟨#[], #[.agg #[.int .i64 0, .bool false, .int .i64 0, .slice none 0 0, .slice none 0 0, .int .i64 0, .slice none 0 0, .slice none 0 0, .slice none 0 0, .slice none 0 0], .slice none 0 0],[]⟩ 12 (by kernel_rfl) (by kernel_rfl) (by kernel_rfl) (by kernel_rfl)) ?_
 intro W base args ds gs before hval0 hW hcnd _
 exact Q3 H enc W base args ds gs before hval0 hW
set_option maxHeartbeats 8000000 in
theorem closed :joinedFacts Tryz.prog 3 Tryz.f3 Rows.fnExactCrashWorldSpec Rows.fnExactCrashWorldRow=true:=by
 unfold joinedFacts
 exact lm (lm (lm (lm (lm (lm (lm (lm (lm (lm (lm (lm (lm (lm (lm (lm (lm (lm (lm (lm (lm (lm (lm (lm (lm (lm (lm (lm (lm (lm (lm ((by as_aux_lemma=>kernel_rfl)) UH) UK) (by as_aux_lemma=>kernel_rfl)) (by as_aux_lemma=>kernel_rfl)) (by as_aux_lemma=>kernel_rfl)) (by as_aux_lemma=>kernel_rfl)) (by as_aux_lemma=>kernel_rfl)) (by as_aux_lemma=>kernel_rfl)) (by as_aux_lemma=>kernel_rfl)) (by as_aux_lemma=>kernel_rfl)) (by as_aux_lemma=>kernel_rfl)) (by as_aux_lemma=>kernel_rfl)) (by as_aux_lemma=>kernel_rfl)) (by as_aux_lemma=>kernel_rfl)) (by as_aux_lemma=>kernel_rfl)) (by as_aux_lemma=>kernel_rfl)) (by as_aux_lemma=>kernel_rfl)) (by as_aux_lemma=>kernel_rfl)) (by as_aux_lemma=>kernel_rfl)) (by as_aux_lemma=>kernel_rfl)) (by as_aux_lemma=>kernel_rfl)) UG) (by as_aux_lemma=>kernel_rfl)) T4) T3) UI) UJ) (by as_aux_lemma=>kernel_rfl)) (by as_aux_lemma=>kernel_rfl)) (by as_aux_lemma=>kernel_rfl)) (by as_aux_lemma=>kernel_rfl)
end Go.Proofs.YtebnmoogdmpepaaGreat.fnExactCrashWorld
namespace Go.Proofs.YtebnmoogdmpepaaGreat
theorem fnExactCrashWorld_holds :Rows.FnExactCrashWorldSaid:=
 OpenClaim.holds_of_wide 3 Tryz.f3 rfl rfl rfl rfl rfl rfl rfl ⟨rfl,rfl,rfl,rfl,rfl⟩ rfl rfl rfl rfl rfl (by as_aux_lemma=>kernel_rfl) Tryz.func3 fnExactCrashWorld.closed
  (of_decide_eq_true (by as_aux_lemma=>kernel_rfl)) (by unfold Func.isWrapper;first|(rw[if_pos (by decide+kernel)];kernel_rfl)|(rw[if_neg (by decide+kernel)];exact⟨rfl,rfl⟩))
  (fun os started H enc _=>fnExactCrashWorld.lifted os started H enc)
end Go.Proofs.YtebnmoogdmpepaaGreat
