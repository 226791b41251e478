/- A loop gone over; what is behind it starts from the small state again. -/
import Derived.Test.YtldmjoillnhebaaGreatGsp
namespace Gi
open Go
set_option linter.unusedVariables false
set_option linter.unusedSimpArgs false
section
variable {call : Nat → List V → Option V} {Q : Ex → St → Prop} {ks : List Fr} {σ τ : St}
theorem stuck_exit {id : Nat} {σ : St} (h : wp call Q ks (some (.exit id, σ))) : wp call Q (.sq stuck :: ks) (some (.exit id, σ)) := by rw [wp_sqE]; exact h
/-- A round of a loop. -/
theorem wp_round {c : ACode} : wp call Q ks (exec call loopL (.loop c) σ) = wp call Q (.sq (.loop c) :: ks) (exec call loopL c σ) := by
  simp only [exec]
  rw [loopL_eq]
  cases h : exec call loopL c σ with
  | none => simp only [wp_none]
  | some x =>
    obtain ⟨e, σ'⟩ := x
    cases e with
    | normal => simp only [wp_sqN, exec]
    | exit i => simp only [wp_sqE]
    | ret => simp only [wp_sqR]
/-- n rounds, then the block is left. -/
theorem wp_cntE (hc : Tidy call) (hQ : Cl Q) {c : ACode} {t : List V} {h : List AObj} (n : Nat) (m : List Bool) (U : Nat → List (Nat × V)) (H : Nat → List AObj) (id : Nat) (hz : (c.zOk && kz ks) = true) (kn : Kn ⟨setT (keepM m t) (U 0), H 0⟩ ⟨t, h⟩)
    (st : ∀ k, k < n → wp call (fun e τ => e = .normal ∧ Kn ⟨setT (keepM m t) (U (k + 1)), H (k + 1)⟩ τ) [] (exec call loopL c ⟨setT (keepM m t) (U k), H k⟩))
    (en : wp call (fun e τ => e = .exit id ∧ Kn ⟨setT (keepM m t) (U n), H n⟩ τ) [] (exec call loopL c ⟨setT (keepM m t) (U n), H n⟩))
    (rest : wp call Q ks (some (.exit id, ⟨setT (keepM m t) (U n), H n⟩))) : wp call Q ks (exec call loopL (.loop c) ⟨t, h⟩) := by
  refine wp_count hc hQ n m U H hz kn st ?_
  obtain ⟨τ, h1, k1⟩ := wp_get en
  rw [h1]
  refine stuck_exit (wp_kn hc hQ ?_ k1 rest)
  simp only [Bool.and_eq_true] at hz
  exact hz.2
/-- .. which may be left early, at the first place where p holds; all early ends come to the same. -/
theorem wp_scanE (hc : Tidy call) (hQ : Cl Q) {c : ACode} {t : List V} {h : List AObj} (m : List Bool) (U : Nat → List (Nat × V)) (n : Nat) (p : Nat → Bool) (id : Nat) (hz : (c.zOk && kz ks) = true) (kn : Kn ⟨setT (keepM m t) (U 0), h⟩ ⟨t, h⟩)
    (st : ∀ k, k < n → p k = false → wp call (fun e τ => e = .normal ∧ Kn ⟨setT (keepM m t) (U (k + 1)), h⟩ τ) [] (exec call loopL c ⟨setT (keepM m t) (U k), h⟩))
    (le : ∀ k, k < n → p k = true → (∀ j, j < k → p j = false) → wp call Q (.sq stuck :: ks) (exec call loopL c ⟨setT (keepM m t) (U k), h⟩))
    (en : wp call (fun e τ => e = .exit id ∧ Kn ⟨setT (keepM m t) (U n), h⟩ τ) [] (exec call loopL c ⟨setT (keepM m t) (U n), h⟩))
    (rest : (∀ k, k < n → p k = false) → wp call Q ks (some (.exit id, ⟨setT (keepM m t) (U n), h⟩))) : wp call Q ks (exec call loopL (.loop c) ⟨t, h⟩) := by
  refine wp_scanM hc hQ m U n p hz kn st le (fun hp => ?_)
  obtain ⟨τ, h1, k1⟩ := wp_get en
  rw [h1]
  refine stuck_exit (wp_kn hc hQ ?_ k1 (rest hp))
  simp only [Bool.and_eq_true] at hz
  exact hz.2
end
end Gi
