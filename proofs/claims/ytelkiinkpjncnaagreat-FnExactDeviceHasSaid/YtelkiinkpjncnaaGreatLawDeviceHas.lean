/- laws.FnExactDeviceHas returns true for every input, and leaves it as it was. -/
import Derived.Test.YtelkiinkpjncnaaGreatGtfz
import Derived.Test.YtelkiinkpjncnaaGreatGfacts
import Derived.Test.YtelkiinkpjncnaaGreatGxk
import Derived.ProofKit
import Derived.OpenShut
import Derived.Carry
import Derived.Deep.DeepHandedRow
namespace Go.Proofs.YtelkiinkpjncnaaGreat.fnExactDeviceHas
open Go.ChangeShapes Go.WideShapes Go.ChangeAt Go.RowKit Gi
set_option linter.unusedVariables false
set_option linter.unusedSimpArgs false

theorem own : ownKnob Tryz.prog.godebug = none := by kernel_rfl
theorem laidOut : laidOutB Tryz.prog = true := by kernel_rfl
set_option maxRecDepth 100000 in
theorem key : Gi.kf 3 = some 293 := by kernel_rfl

set_option maxRecDepth 100000 in
theorem contract (H : Type) (enc : TypeId × Value → H) (W : World) (base : Nat) (args : Array Value) (ds gs : List (DataW H)) (before : List MemPlace)
    (hval : ∀ (j : Nat) t v, Tryz.f3.params[j]? = some t → args[j]? = some v → Value.okWide Tryz.prog W .any base t v)
    (hW : DataW.Whole enc Tryz.prog Tryz.f3.params.toList Rows.fnExactDeviceHasSpec.vars false W args.toList ds gs before) :
    Calls Tryz.prog 3 args W fun e W' => ∃ v, e = .returned v ∧ Rows.fnExactDeviceHasSpec.post enc Tryz.prog Tryz.f3 false true false false W args v W' := by
  have hW' := hW
  obtain ⟨p, q, hA0, hV, rfl, hfz, hnd⟩ := hW
  have hA : DataW.TrodAll enc Tryz.prog W 0 (fun _ => true) true Tryz.f3.params.toList args.toList ds p := hA0
  rw [Tryz.params3] at hA hval
  obtain ⟨v0, vs0, d0, ds0, p0, q0, hargs0, rfl, rfl, h0, r0⟩ := trodAll_cons hA
  obtain ⟨v1, vs1, d1, ds1, p1, q1, hargs1, rfl, rfl, h1, r1⟩ := trodAll_cons r0
  obtain ⟨v2, vs2, d2, ds2, p2, q2, hargs2, rfl, rfl, h2, r2⟩ := trodAll_cons r1
  obtain ⟨v3, vs3, d3, ds3, p3, q3, hargs3, rfl, rfl, h3, r3⟩ := trodAll_cons r2
  obtain ⟨v4, vs4, d4, ds4, p4, q4, hargs4, rfl, rfl, h4, r4⟩ := trodAll_cons r3
  obtain ⟨rfl, rfl, rfl⟩ := trodAll_nil r4
  obtain rfl : args = #[v0, v1, v2, v3, v4] := by cases args; simp_all
  obtain ⟨rfl, rfl⟩ := trodVars_none hV
  have k0 := h0
  have lt0 : ∀ x ∈ p0, x.block < W.heap.size := by obtain ⟨m, hm⟩ := k0; exact DataW.trod_lt m _ _ _ hm
  obtain ⟨cs0, rfl, _⟩ := okWide_struct Tryz.underlying35 (hval 0 35 v0 rfl rfl)
  obtain ⟨qs0, hq0, vr0⟩ := arg_reads (KI := kfI) (g := true) (n := 20) (ts := t_World) h0 (by kernel_rfl) (Or.inl ⟨rfl, cs0, rfl⟩)
  have k1 := h1
  have lt1 : ∀ x ∈ p1, x.block < W.heap.size := by obtain ⟨m, hm⟩ := k1; exact DataW.trod_lt m _ _ _ hm
  obtain ⟨s1, rfl⟩ := okWide_string Tryz.underlying9 (hval 1 9 v1 rfl rfl)
  obtain ⟨qs1, hq1, vr1⟩ := arg_reads (KI := kfI) (g := false) (n := 20) (ts := [.str]) h1 (by kernel_rfl) (Or.inr ⟨rfl, rfl, fun _ => by simp⟩)
  obtain ⟨y1, yr1, rfl, hy1, ye1⟩ := HasL_cons hq1
  obtain rfl := HasL_nil ye1
  obtain ⟨c1, rfl⟩ := Has_str hy1
  have k2 := h2
  have lt2 : ∀ x ∈ p2, x.block < W.heap.size := by obtain ⟨m, hm⟩ := k2; exact DataW.trod_lt m _ _ _ hm
  obtain ⟨s2, rfl⟩ := okWide_string Tryz.underlying9 (hval 2 9 v2 rfl rfl)
  obtain ⟨qs2, hq2, vr2⟩ := arg_reads (KI := kfI) (g := false) (n := 20) (ts := [.str]) h2 (by kernel_rfl) (Or.inr ⟨rfl, rfl, fun _ => by simp⟩)
  obtain ⟨y2, yr2, rfl, hy2, ye2⟩ := HasL_cons hq2
  obtain rfl := HasL_nil ye2
  obtain ⟨c2, rfl⟩ := Has_str hy2
  have k3 := h3
  have lt3 : ∀ x ∈ p3, x.block < W.heap.size := by obtain ⟨m, hm⟩ := k3; exact DataW.trod_lt m _ _ _ hm
  obtain ⟨s3, rfl⟩ := okWide_int Tryz.underlying3 (hval 3 3 v3 rfl rfl)
  obtain ⟨qs3, hq3, vr3⟩ := arg_reads (KI := kfI) (g := false) (n := 20) (ts := [.int .i64]) h3 (by kernel_rfl) (Or.inr ⟨rfl, rfl, fun _ => by simp⟩)
  obtain ⟨y3, yr3, rfl, hy3, ye3⟩ := HasL_cons hq3
  obtain rfl := HasL_nil ye3
  obtain ⟨c3, rfl⟩ := Has_int hy3
  have k4 := h4
  have lt4 : ∀ x ∈ p4, x.block < W.heap.size := by obtain ⟨m, hm⟩ := k4; exact DataW.trod_lt m _ _ _ hm
  obtain ⟨s4, rfl⟩ := okWide_string Tryz.underlying9 (hval 4 9 v4 rfl rfl)
  obtain ⟨qs4, hq4, vr4⟩ := arg_reads (KI := kfI) (g := false) (n := 20) (ts := [.str]) h4 (by kernel_rfl) (Or.inr ⟨rfl, rfl, fun _ => by simp⟩)
  obtain ⟨y4, yr4, rfl, hy4, ye4⟩ := HasL_cons hq4
  obtain rfl := HasL_nil ye4
  obtain ⟨c4, rfl⟩ := Has_str hy4
  clear hA0
  have call := law_calls impl (f := 3) (k := 293) key (law_DeviceHas hq0 hy1 hy2 hy3 hy4) (W := W) (args := #[.agg cs0, .string s1, .string s2, .int .i64 s3, .string s4]) trivial ⟨rfl, fun i x u hx hu => by
    match i, hx, hu with
    | 0, hx, hu => simp at hx hu; subst hx; subst hu; exact vr0
    | 1, hx, hu => simp at hx hu; subst hx; subst hu; exact vr1
    | 2, hx, hu => simp at hx hu; subst hx; subst hu; exact vr2
    | 3, hx, hu => simp at hx hu; subst hx; subst hu; exact vr3
    | 4, hx, hu => simp at hx hu; subst hx; subst hu; exact vr4
    | i + 5, hx, hu => simp at hx⟩
  refine call.mono fun e W' ⟨he, bel⟩ => ?_
  subst he
  exact ⟨_, rfl, _, _, _, [], _, [], hW', trodAll_mk1 (shut_bool Tryz.underlying4 _), trodAll_cons_mk (Below.trod laidOut (by kernel_rfl) (of_decide_eq_true (by kernel_rfl)) k0 bel lt0) (trodAll_cons_mk (Below.trod laidOut (by kernel_rfl) (of_decide_eq_true (by kernel_rfl)) k1 bel lt1) (trodAll_cons_mk (Below.trod laidOut (by kernel_rfl) (of_decide_eq_true (by kernel_rfl)) k2 bel lt2) (trodAll_cons_mk (Below.trod laidOut (by kernel_rfl) (of_decide_eq_true (by kernel_rfl)) k3 bel lt3) (trodAll_cons_mk (Below.trod laidOut (by kernel_rfl) (of_decide_eq_true (by kernel_rfl)) k4 bel lt4) (trodAll_mk0))))), rfl, bel.frame _, fun h => by cases h⟩

set_option maxRecDepth 100000 in
theorem lifted (os : Os) (started : os.Started) (H : Type) (enc : TypeId × Value → H) :
    ReturnsInHanded {} Tryz.checked os 3 .any (Rows.fnExactDeviceHasSpec.pre6 enc Tryz.prog Tryz.f3 Rows.fnExactDeviceHasRow.domain false) (Rows.fnExactDeviceHasSpec.post enc Tryz.prog Tryz.f3 false true false false) := by
  refine returnsInHanded_of_change (C := Tryz.checked) own started (by kernel_rfl) Tryz.func3
    (ChangeSpec.witness6 (enc := enc) (C := Tryz.checked) false ⟨#[], #[.agg #[.int .i64 0, .bool false, .int .i64 0, .slice none 0 0, .slice none 0 0, .int .i64 0, .slice none 0 0, .slice none 0 0, .slice none 0 0, .slice none 0 0], .string ⟨#[]⟩, .string ⟨#[]⟩, .int .i64 0, .string ⟨#[]⟩], []⟩ 12 (by kernel_rfl) (by kernel_rfl) (by kernel_rfl) (by kernel_rfl)) ?_
  intro W base args ds gs before hval0 hW hcnd _
  exact contract H enc W base args ds gs before hval0 hW

set_option maxHeartbeats 8000000 in
theorem closed : joinedFacts Tryz.prog 3 Tryz.f3 Rows.fnExactDeviceHasSpec Rows.fnExactDeviceHasRow = true := by
  unfold joinedFacts
  exact and2 (and2 (and2 (and2 (and2 (and2 (and2 (and2 (and2 (and2 (and2 (and2 (and2 (and2 (and2 (and2 (and2 (and2 (and2 (and2 (and2 (and2 (and2 (and2 (and2 (and2 (and2 (and2 (and2 (and2 (and2 ((by as_aux_lemma => kernel_rfl)) fLaid) fMaps) (by as_aux_lemma => kernel_rfl)) (by as_aux_lemma => kernel_rfl)) (by as_aux_lemma => kernel_rfl)) (by as_aux_lemma => kernel_rfl)) (by as_aux_lemma => kernel_rfl)) (by as_aux_lemma => kernel_rfl)) (by as_aux_lemma => kernel_rfl)) (by as_aux_lemma => kernel_rfl)) (by as_aux_lemma => kernel_rfl)) (by as_aux_lemma => kernel_rfl)) (by as_aux_lemma => kernel_rfl)) (by as_aux_lemma => kernel_rfl)) (by as_aux_lemma => kernel_rfl)) (by as_aux_lemma => kernel_rfl)) (by as_aux_lemma => kernel_rfl)) (by as_aux_lemma => kernel_rfl)) (by as_aux_lemma => kernel_rfl)) (by as_aux_lemma => kernel_rfl)) (by as_aux_lemma => kernel_rfl)) fKeys) (by as_aux_lemma => kernel_rfl)) fHeard) fEnter) fLift) fMake) (by as_aux_lemma => kernel_rfl)) (by as_aux_lemma => kernel_rfl)) (by as_aux_lemma => kernel_rfl)) (by as_aux_lemma => kernel_rfl)
end Go.Proofs.YtelkiinkpjncnaaGreat.fnExactDeviceHas
namespace Go.Proofs.YtelkiinkpjncnaaGreat
/-- the law -/
theorem fnExactDeviceHas_holds : Rows.FnExactDeviceHasSaid :=
  OpenClaim.holds_of_wide 3 Tryz.f3 rfl rfl rfl rfl rfl rfl rfl ⟨rfl, rfl, rfl, rfl, rfl⟩ rfl rfl rfl rfl rfl (by as_aux_lemma => kernel_rfl) Tryz.func3 fnExactDeviceHas.closed
    (of_decide_eq_true (by as_aux_lemma => kernel_rfl)) (by unfold Func.isWrapper; first | (rw [if_pos (by decide +kernel)]; kernel_rfl) | (rw [if_neg (by decide +kernel)]; exact ⟨rfl, rfl⟩))
    (fun os started H enc _ => fnExactDeviceHas.lifted os started H enc)
end Go.Proofs.YtelkiinkpjncnaaGreat
