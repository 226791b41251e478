/- Of this proof. -/
import Derived.Test.YthaajpjcibaopaaGreatGso
namespace Gi
open Go
set_option linter.unusedVariables false
set_option linter.unusedSimpArgs false
def keepM : List Bool → List V → List V
 | true :: m, v :: vs => v :: keepM m vs
 | false :: m, _ :: vs => .one .junk :: keepM m vs
 | [], vs => vs
 | _, [] => []
theorem keepM_t {m : List Bool} {v : V} {vs : List V} : keepM (true :: m) (v :: vs) = v :: keepM m vs := rfl
theorem keepM_f {m : List Bool} {v : V} {vs : List V} : keepM (false :: m) (v :: vs) = .one .junk :: keepM m vs := rfl
theorem keepM_n {vs : List V} : keepM [] vs = vs := rfl
def setT (t : List V) : List (Nat × V) → List V
 | [] => t
 | (i, v) :: r => setT (t.set i v) r
theorem setT_n {t : List V} : setT t [] = t := rfl
theorem setT_c {t : List V} {i : Nat} {v : V} {r : List (Nat × V)} : setT t ((i, v) :: r) = setT (t.set i v) r := rfl
def stuck : ACode := .cond .nil .skip .skip
theorem stuck_none {call : Nat → List V → Option V} {σ : St} : exec call loopL stuck σ = none := rfl
section
variable {call : Nat → List V → Option V} {Q : Ex → St → Prop} {ks : List Fr} {σ τ : St}
theorem wp_stuck {x : Option (Ex × St)} (h : wp call Q (.sq stuck :: ks) x) : ∃ e τ, x = some (e, τ) ∧ e ≠ .normal ∧ wp call Q ks (some (e, τ)) := by
 cases x with
 | none => rw [wp_none] at h; exact h.elim
 | some x =>
  obtain ⟨e, τ⟩ := x
  cases e with
  | normal => rw [wp_sqN, stuck_none, wp_none] at h; exact h.elim
  | exit i => rw [wp_sqE] at h; exact ⟨_, _, rfl, by simp, h⟩
  | ret => rw [wp_sqR] at h; exact ⟨_, _, rfl, by simp, h⟩
theorem loop_end {c : ACode} (h : wp call Q (.sq stuck :: ks) (exec call loopL c σ)) : wp call Q ks (exec call loopL (.loop c) σ) := by
 obtain ⟨e, τ, h1, h2, h3⟩ := wp_stuck h
 simp only [exec]
 rw [loopL_end h1 h2]
 exact h3
theorem loop_step (hc : Tidy call) (hQ : Cl Q) {c : ACode} {σ' : St} (hz : (c.zOk && kz ks) = true) (s : wp call (fun e τ => e = .normal ∧ Kn σ' τ) [] (exec call loopL c σ)) (h : wp call Q ks (exec call loopL (.loop c) σ')) : wp call Q ks (exec call loopL (.loop c) σ) := by
 obtain ⟨τ, h1, k1⟩ := wp_get s
 have hz' : kz (.sq (.loop c) :: ks) = true := by simpa only [kz, ACode.zOk] using hz
 have := wp_cut hc hQ σ' hz' k1 h
 simp only [exec] at this ⊢
 rw [loopL_next h1]
 exact this
theorem wp_scan (hc : Tidy call) (hQ : Cl Q) {c : ACode} (S : Nat → St) (n : Nat) (p : Nat → Bool) (hz : (c.zOk && kz ks) = true) (kn : Kn (S 0) σ)
 (st : ∀ k, k < n → p k = false → wp call (fun e τ => e = .normal ∧ Kn (S (k + 1)) τ) [] (exec call loopL c (S k)))
 (le : ∀ k, k < n → p k = true → (∀ j, j < k → p j = false) → wp call Q (.sq stuck :: ks) (exec call loopL c (S k)))
 (en : (∀ k, k < n → p k = false) → wp call Q (.sq stuck :: ks) (exec call loopL c (S n))) : wp call Q ks (exec call loopL (.loop c) σ) := by
 have key : ∀ m k, k + m = n → (∀ j, j < k → p j = false) → wp call Q ks (exec call loopL (.loop c) (S k)) := by
  intro m
  induction m with
  | zero =>
   intro k hk hp
   obtain rfl : k = n := by omega
   exact loop_end (en hp)
  | succ m ih =>
   intro k hk hp
   cases hpk : p k with
   | true => exact loop_end (le k (by omega) hpk hp)
   | false =>
    refine loop_step hc hQ hz (st k (by omega) hpk) (ih (k + 1) (by omega) fun j hj => ?_)
    by_cases q : j = k
    ·rw [q]; exact hpk
    ·exact hp j (by omega)
 have hz' : kz (.sq (.loop c) :: ks) = true := by simpa only [kz, ACode.zOk] using hz
 exact wp_cut hc hQ (S 0) hz' kn (key n 0 (by omega) (fun j h => by omega))
theorem wp_scanM (hc : Tidy call) (hQ : Cl Q) {c : ACode} {t : List V} {h : List AObj} (m : List Bool) (U : Nat → List (Nat × V)) (n : Nat) (p : Nat → Bool) (hz : (c.zOk && kz ks) = true) (kn : Kn ⟨setT (keepM m t) (U 0), h⟩ ⟨t, h⟩)
 (st : ∀ k, k < n → p k = false → wp call (fun e τ => e = .normal ∧ Kn ⟨setT (keepM m t) (U (k + 1)), h⟩ τ) [] (exec call loopL c ⟨setT (keepM m t) (U k), h⟩))
 (le : ∀ k, k < n → p k = true → (∀ j, j < k → p j = false) → wp call Q (.sq stuck :: ks) (exec call loopL c ⟨setT (keepM m t) (U k), h⟩))
 (en : (∀ k, k < n → p k = false) → wp call Q (.sq stuck :: ks) (exec call loopL c ⟨setT (keepM m t) (U n), h⟩)) : wp call Q ks (exec call loopL (.loop c) ⟨t, h⟩) :=
 wp_scan hc hQ (fun k => ⟨setT (keepM m t) (U k), h⟩) n p hz kn st le en
theorem wp_scanH (hc : Tidy call) (hQ : Cl Q) {c : ACode} {t : List V} {h : List AObj} (m : List Bool) (U : Nat → List (Nat × V)) (H : Nat → List AObj) (n : Nat) (p : Nat → Bool) (hz : (c.zOk && kz ks) = true) (kn : Kn ⟨setT (keepM m t) (U 0), H 0⟩ ⟨t, h⟩)
 (st : ∀ k, k < n → p k = false → wp call (fun e τ => e = .normal ∧ Kn ⟨setT (keepM m t) (U (k + 1)), H (k + 1)⟩ τ) [] (exec call loopL c ⟨setT (keepM m t) (U k), H k⟩))
 (le : ∀ k, k < n → p k = true → (∀ j, j < k → p j = false) → wp call Q (.sq stuck :: ks) (exec call loopL c ⟨setT (keepM m t) (U k), H k⟩))
 (en : (∀ k, k < n → p k = false) → wp call Q (.sq stuck :: ks) (exec call loopL c ⟨setT (keepM m t) (U n), H n⟩)) : wp call Q ks (exec call loopL (.loop c) ⟨t, h⟩) :=
 wp_scan hc hQ (fun k => ⟨setT (keepM m t) (U k), H k⟩) n p hz kn st le en
theorem wp_any (hc : Tidy call) (hQ : Cl Q) {c : ACode} {t : List V} {h : List AObj} {α : Type} (rows : List α) (p : α → Bool) (m : List Bool) (U : Nat → List (Nat × V)) (hz : (c.zOk && kz ks) = true) (kn : Kn ⟨setT (keepM m t) (U 0), h⟩ ⟨t, h⟩)
 (st : ∀ k (hk : k < rows.length), p rows[k] = false → wp call (fun e τ => e = .normal ∧ Kn ⟨setT (keepM m t) (U (k + 1)), h⟩ τ) [] (exec call loopL c ⟨setT (keepM m t) (U k), h⟩))
 (le : ∀ k (hk : k < rows.length), p rows[k] = true → rows.any p = true → wp call Q (.sq stuck :: ks) (exec call loopL c ⟨setT (keepM m t) (U k), h⟩))
 (en : rows.any p = false → wp call Q (.sq stuck :: ks) (exec call loopL c ⟨setT (keepM m t) (U rows.length), h⟩)) : wp call Q ks (exec call loopL (.loop c) ⟨t, h⟩) := by
 have at' : ∀ k (hk : k < rows.length), (match rows[k]? with | some r => p r | none => false) = p rows[k] := fun k hk => by simp [hk]
 refine wp_scanM hc hQ m U rows.length (fun k => match rows[k]? with | some r => p r | none => false) hz kn (fun k hk hp => st k hk (by rw [← at' k hk]; exact hp)) (fun k hk hp _ => ?_) (fun hp => en ?_)
 ·have hp' : p rows[k] = true := by rw [← at' k hk]; exact hp
  exact le k hk hp' (List.any_eq_true.2 ⟨rows[k], List.getElem_mem hk, hp'⟩)
 ·rw [List.any_eq_false]
  intro x hx
  obtain ⟨k, hk, rfl⟩ := List.mem_iff_getElem.1 hx
  have := hp k hk
  rw [at' k hk] at this
  simp [this]
theorem wp_count (hc : Tidy call) (hQ : Cl Q) {c : ACode} {t : List V} {h : List AObj} (n : Nat) (m : List Bool) (U : Nat → List (Nat × V)) (H : Nat → List AObj) (hz : (c.zOk && kz ks) = true) (kn : Kn ⟨setT (keepM m t) (U 0), H 0⟩ ⟨t, h⟩)
 (st : ∀ k, k < n → wp call (fun e τ => e = .normal ∧ Kn ⟨setT (keepM m t) (U (k + 1)), H (k + 1)⟩ τ) [] (exec call loopL c ⟨setT (keepM m t) (U k), H k⟩))
 (en : wp call Q (.sq stuck :: ks) (exec call loopL c ⟨setT (keepM m t) (U n), H n⟩)) : wp call Q ks (exec call loopL (.loop c) ⟨t, h⟩) :=
 wp_scan hc hQ (fun k => ⟨setT (keepM m t) (U k), H k⟩) n (fun _ => false) hz kn (fun k hk _ => st k hk) (fun k hk hp => by cases hp) (fun _ => en)
end
section
variable {call : Nat → List V → Option V} {Q : Ex → St → Prop} {ks : List Fr} {σ τ : St}
theorem stuck_exit {id : Nat} {σ : St} (h : wp call Q ks (some (.exit id, σ))) : wp call Q (.sq stuck :: ks) (some (.exit id, σ)) := by rw [wp_sqE]; exact h
theorem wp_round {c : ACode} : wp call Q ks (exec call loopL (.loop c) σ) = wp call Q (.sq (.loop c) :: ks) (exec call loopL c σ) := by
 simp only [exec]
 rw [loopL_eq]
 cases h : exec call loopL c σ with
 | none => simp only [wp_none]
 | some x =>
  obtain ⟨e, σ'⟩ := x
  cases e with
  | normal => simp only [wp_sqN, exec]
  | exit i => simp only [wp_sqE]
  | ret => simp only [wp_sqR]
theorem wp_cntE (hc : Tidy call) (hQ : Cl Q) {c : ACode} {t : List V} {h : List AObj} (n : Nat) (m : List Bool) (U : Nat → List (Nat × V)) (H : Nat → List AObj) (id : Nat) (hz : (c.zOk && kz ks) = true) (kn : Kn ⟨setT (keepM m t) (U 0), H 0⟩ ⟨t, h⟩)
 (st : ∀ k, k < n → wp call (fun e τ => e = .normal ∧ Kn ⟨setT (keepM m t) (U (k + 1)), H (k + 1)⟩ τ) [] (exec call loopL c ⟨setT (keepM m t) (U k), H k⟩))
 (en : wp call (fun e τ => e = .exit id ∧ Kn ⟨setT (keepM m t) (U n), H n⟩ τ) [] (exec call loopL c ⟨setT (keepM m t) (U n), H n⟩))
 (rest : wp call Q ks (some (.exit id, ⟨setT (keepM m t) (U n), H n⟩))) : wp call Q ks (exec call loopL (.loop c) ⟨t, h⟩) := by
 refine wp_count hc hQ n m U H hz kn st ?_
 obtain ⟨τ, h1, k1⟩ := wp_get en
 rw [h1]
 refine stuck_exit (wp_kn hc hQ ?_ k1 rest)
 simp only [Bool.and_eq_true] at hz
 exact hz.2
theorem wp_scanE (hc : Tidy call) (hQ : Cl Q) {c : ACode} {t : List V} {h : List AObj} (m : List Bool) (U : Nat → List (Nat × V)) (n : Nat) (p : Nat → Bool) (id : Nat) (hz : (c.zOk && kz ks) = true) (kn : Kn ⟨setT (keepM m t) (U 0), h⟩ ⟨t, h⟩)
 (st : ∀ k, k < n → p k = false → wp call (fun e τ => e = .normal ∧ Kn ⟨setT (keepM m t) (U (k + 1)), h⟩ τ) [] (exec call loopL c ⟨setT (keepM m t) (U k), h⟩))
 (le : ∀ k, k < n → p k = true → (∀ j, j < k → p j = false) → wp call Q (.sq stuck :: ks) (exec call loopL c ⟨setT (keepM m t) (U k), h⟩))
 (en : wp call (fun e τ => e = .exit id ∧ Kn ⟨setT (keepM m t) (U n), h⟩ τ) [] (exec call loopL c ⟨setT (keepM m t) (U n), h⟩))
 (rest : (∀ k, k < n → p k = false) → wp call Q ks (some (.exit id, ⟨setT (keepM m t) (U n), h⟩))) : wp call Q ks (exec call loopL (.loop c) ⟨t, h⟩) := by
 refine wp_scanM hc hQ m U n p hz kn st le (fun hp => ?_)
 obtain ⟨τ, h1, k1⟩ := wp_get en
 rw [h1]
 refine stuck_exit (wp_kn hc hQ ?_ k1 (rest hp))
 simp only [Bool.and_eq_true] at hz
 exact hz.2
end
end Gi
