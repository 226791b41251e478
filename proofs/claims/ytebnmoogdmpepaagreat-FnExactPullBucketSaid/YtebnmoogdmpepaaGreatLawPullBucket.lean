/- Of this proof. -/
import Derived.Test.YtebnmoogdmpepaaGreatGtfz
import Derived.Test.YtebnmoogdmpepaaGreatGfacts
import Derived.Test.YtebnmoogdmpepaaGreatGpP
import Derived.ProofKit
import Derived.OpenShut
import Derived.Carry
import Derived.Deep.DeepHandedRow
set_option linter.unusedSimpArgs false
set_option linter.unusedVariables false
namespace Go.Proofs.YtebnmoogdmpepaaGreat.fnExactPullBucket
open Go.ChangeShapes Go.WideShapes Go.ChangeAt Go.RowKit Gi
theorem own :ownKnob Tryz.prog.godebug=none:=by kernel_rfl
theorem Js :laidOutB Tryz.prog=true:=by kernel_rfl
set_option maxRecDepth 100000 in
theorem key :Gi.kf 4=some 614:=by kernel_rfl
set_option maxRecDepth 100000 in
theorem RG (H:Type)(enc:TypeId×Value→H)(W:World)(base:Nat)(args:Array Value)(ds gs:List (DataW H))(before:List MemPlace)
 (hval:∀(j:Nat)t v,Tryz.f4.params[j]? =some t→args[j]? =some v→Value.okWide Tryz.prog W .any base t v)
 (hW:DataW.Whole enc Tryz.prog Tryz.f4.params.toList Rows.fnExactPullBucketSpec.vars false W args.toList ds gs before):
 Calls Tryz.prog 4 args W fun e W'=>∃v,e= .returned v∧Rows.fnExactPullBucketSpec.post enc Tryz.prog Tryz.f4 false true false false W args v W':=by
 have hW':=hW
 obtain⟨p,q,hA0,hV,rfl,hfz,hnd⟩:=hW
 have hA:DataW.TrodAll enc Tryz.prog W 0 (fun _=>true) true Tryz.f4.params.toList args.toList ds p:=hA0
 rw[Tryz.params4]at hA hval
 obtain⟨v0,vs0,d0,ds0,p0,q0,hargs0,rfl,rfl,h0,r0⟩:=trodAll_cons hA
 obtain⟨v1,vs1,d1,ds1,p1,q1,hargs1,rfl,rfl,h1,r1⟩:=trodAll_cons r0
 obtain⟨v2,vs2,d2,ds2,p2,q2,hargs2,rfl,rfl,h2,r2⟩:=trodAll_cons r1
 obtain⟨rfl,rfl,rfl⟩:=trodAll_nil r2
 obtain rfl:args= #[v0,v1,v2]:=by cases args;simp_all
 obtain⟨rfl,rfl⟩:=trodVars_none hV
 have k0:=h0
 have lt0:∀x∈p0,x.block<W.heap.size:=by obtain⟨m,hm⟩:=k0;exact DataW.trod_lt m _ _ _ hm
 obtain⟨cs0,rfl,_⟩:=okWide_struct Tryz.underlying35 (hval 0 35 v0 rfl rfl)
 obtain⟨qs0,hq0,vr0⟩:=Au (KI:=kfI) (g:=true) (n:=20) (ts:=fE) h0 (by kernel_rfl) (Or.inl ⟨rfl,cs0,rfl⟩)
 have k1:=h1
 have lt1:∀x∈p1,x.block<W.heap.size:=by obtain⟨m,hm⟩:=k1;exact DataW.trod_lt m _ _ _ hm
 obtain⟨s1,rfl⟩:=okWide_string Tryz.underlying9 (hval 1 9 v1 rfl rfl)
 obtain⟨qs1,hq1,vr1⟩:=Au (KI:=kfI) (g:=false) (n:=20) (ts:=[.str]) h1 (by kernel_rfl) (Or.inr ⟨rfl,rfl,fun _=>by simp⟩)
 obtain⟨y1,yr1,rfl,hy1,ye1⟩:=eD hq1
 obtain rfl:=fF ye1
 obtain⟨c1,rfl⟩:=kM hy1
 have k2:=h2
 have lt2:∀x∈p2,x.block<W.heap.size:=by obtain⟨m,hm⟩:=k2;exact DataW.trod_lt m _ _ _ hm
 obtain⟨s2,rfl⟩:=okWide_string Tryz.underlying9 (hval 2 9 v2 rfl rfl)
 obtain⟨qs2,hq2,vr2⟩:=Au (KI:=kfI) (g:=false) (n:=20) (ts:=[.str]) h2 (by kernel_rfl) (Or.inr ⟨rfl,rfl,fun _=>by simp⟩)
 obtain⟨y2,yr2,rfl,hy2,ye2⟩:=eD hq2
 obtain rfl:=fF ye2
 obtain⟨c2,rfl⟩:=kM hy2
 clear hA0
 have call:=Qu VU (f:=4) (k:=614) key (FI hq0 hy1 hy2) (W:=W) (args:= #[.agg cs0, .string s1, .string s2]) trivial ⟨rfl,fun i x u hx hu=>by
  match i,hx,hu with
  |0,hx,hu=>simp at hx hu;subst hx;subst hu;exact vr0
  |1,hx,hu=>simp at hx hu;subst hx;subst hu;exact vr1
  |2,hx,hu=>simp at hx hu;subst hx;subst hu;exact vr2
  |i+3,hx,hu=>simp at hx⟩
 refine call.mono fun e W'⟨he,bel⟩=> ?_
 subst he
 exact⟨_,rfl,_,_,_,[],_,[],hW',trodAll_mk1 (shut_bool Tryz.underlying4 _),trodAll_cons_mk (Below.trod Js (by kernel_rfl) (of_decide_eq_true (by kernel_rfl)) k0 bel lt0) (trodAll_cons_mk (Below.trod Js (by kernel_rfl) (of_decide_eq_true (by kernel_rfl)) k1 bel lt1) (trodAll_cons_mk (Below.trod Js (by kernel_rfl) (of_decide_eq_true (by kernel_rfl)) k2 bel lt2) (trodAll_mk0))),rfl,bel.frame _,fun h=>by cases h⟩
set_option maxRecDepth 100000 in
theorem lifted (os:Os)(started:os.Started)(H:Type)(enc:TypeId×Value→H):
 ReturnsInHanded {} Tryz.checked os 4 .any (Rows.fnExactPullBucketSpec.pre6 enc Tryz.prog Tryz.f4 Rows.fnExactPullBucketRow.domain false) (Rows.fnExactPullBucketSpec.post enc Tryz.prog Tryz.f4 false true false false):=by
 refine returnsInHanded_of_change (C:=Tryz.checked) own started (by kernel_rfl) Tryz.func4
  (ChangeSpec.witness6 (enc:=enc) (C:=Tryz.checked) false ⟨#[], #[.agg #[.int .i64 0, .bool false, .int .i64 0, .slice none 0 0, .slice none 0 0, .int .i64 0, .slice none 0 0, .slice none 0 0, .slice none 0 0, .slice none 0 0], .string ⟨#[]⟩, .string ⟨#[]⟩],[]⟩ 12 (by kernel_rfl) (by kernel_rfl) (by kernel_rfl) (by kernel_rfl)) ?_
 intro W base args ds gs before hval0 hW hcnd _
 exact RG H enc W base args ds gs before hval0 hW
set_option maxHeartbeats 8000000 in
theorem closed :joinedFacts Tryz.prog 4 Tryz.f4 Rows.fnExactPullBucketSpec Rows.fnExactPullBucketRow=true:=by
 unfold joinedFacts
 exact lZ (lZ (lZ (lZ (lZ (lZ (lZ (lZ (lZ (lZ (lZ (lZ (lZ (lZ (lZ (lZ (lZ (lZ (lZ (lZ (lZ (lZ (lZ (lZ (lZ (lZ (lZ (lZ (lZ (lZ (lZ ((by as_aux_lemma=>kernel_rfl)) Vb) Ve) (by as_aux_lemma=>kernel_rfl)) (by as_aux_lemma=>kernel_rfl)) (by as_aux_lemma=>kernel_rfl)) (by as_aux_lemma=>kernel_rfl)) (by as_aux_lemma=>kernel_rfl)) (by as_aux_lemma=>kernel_rfl)) (by as_aux_lemma=>kernel_rfl)) (by as_aux_lemma=>kernel_rfl)) (by as_aux_lemma=>kernel_rfl)) (by as_aux_lemma=>kernel_rfl)) (by as_aux_lemma=>kernel_rfl)) (by as_aux_lemma=>kernel_rfl)) (by as_aux_lemma=>kernel_rfl)) (by as_aux_lemma=>kernel_rfl)) (by as_aux_lemma=>kernel_rfl)) (by as_aux_lemma=>kernel_rfl)) (by as_aux_lemma=>kernel_rfl)) (by as_aux_lemma=>kernel_rfl)) (by as_aux_lemma=>kernel_rfl)) Va) (by as_aux_lemma=>kernel_rfl)) Uz) Uy) Vc) Vd) (by as_aux_lemma=>kernel_rfl)) (by as_aux_lemma=>kernel_rfl)) (by as_aux_lemma=>kernel_rfl)) (by as_aux_lemma=>kernel_rfl)
end Go.Proofs.YtebnmoogdmpepaaGreat.fnExactPullBucket
namespace Go.Proofs.YtebnmoogdmpepaaGreat
theorem fnExactPullBucket_holds :Rows.FnExactPullBucketSaid:=
 OpenClaim.holds_of_wide 4 Tryz.f4 rfl rfl rfl rfl rfl rfl rfl ⟨rfl,rfl,rfl,rfl,rfl⟩ rfl rfl rfl rfl rfl (by as_aux_lemma=>kernel_rfl) Tryz.func4 fnExactPullBucket.closed
  (of_decide_eq_true (by as_aux_lemma=>kernel_rfl)) (by unfold Func.isWrapper;first|(rw[if_pos (by decide+kernel)];kernel_rfl)|(rw[if_neg (by decide+kernel)];exact⟨rfl,rfl⟩))
  (fun os started H enc _=>fnExactPullBucket.lifted os started H enc)
end Go.Proofs.YtebnmoogdmpepaaGreat
