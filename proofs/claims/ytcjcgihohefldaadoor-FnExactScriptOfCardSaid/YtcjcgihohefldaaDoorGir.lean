/- The pure machine without a fuel: its limit, the rules by which a function's value is found, and what the limit gives of the Go function. -/
import Derived.Test.YtcjcgihohefldaaDoorGiq
namespace Gi
open Go Go.RowKit
set_option linter.unusedVariables false
set_option linter.unusedSimpArgs false
variable {KI : KF}

def Sub (f g : Nat → List V → Option V) : Prop := ∀ k as r, f k as = some r → g k as = some r

/-- What an operation yields hangs on one call at most. -/
theorem fop_dep {call : Nat → List V → Option V} {σ : St} {ao : AOp} {v : V} (hf : fop call σ ao = some v) : (∀ call', fop call' σ ao = some v) ∨ ∃ k as r, call k as = some r ∧ ∀ call', call' k as = some r → fop call' σ ao = some v := by
  cases ao with
  | call f args fl fz =>
    right
    simp only [fop] at hf ⊢
    split at hf
    · rename_i h1
      split at hf
      · rename_i h2
        split at hf
        · rename_i as has
          split at hf
          · rename_i r hr
            refine ⟨f, as, r, hr, fun call' h' => ?_⟩
            rw [if_pos h1, if_pos h2]
            simp only [has, h']
            exact hf
          · cases hf
        · cases hf
      · cases hf
    · cases hf
  | callV x args =>
    right
    simp only [fop] at hf ⊢
    split at hf
    · rename_i k caps hx
      split at hf
      · rename_i as has
        split at hf
        · rename_i r hr
          refine ⟨_, _, r, hr, fun call' h' => ?_⟩
          simp only [hx, has, h']
          exact hf
        · cases hf
      · cases hf
    · cases hf
  | callF f args =>
    right
    simp only [fop] at hf ⊢
    split at hf
    · rename_i as has
      split at hf
      · rename_i r hr
        refine ⟨_, _, r, hr, fun call' h' => ?_⟩
        simp only [has, h']
        exact hf
      · cases hf
    · cases hf
  | _ => exact .inl fun _ => hf
theorem callMV_dep {call : Nat → List V → Option V} {h : List AObj} {f : Nat} {x : V} {n : Int} {y : V × List AObj} (hf : callMV call h f x n = some y) : ∃ k as r, call k as = some r ∧ ∀ call' : Nat → List V → Option V, call' k as = some r → callMV call' h f x n = some y := by
  unfold callMV at hf
  split at hf
  · split at hf
    · rename_i ho
      split at hf
      · rename_i hce
        split at hf
        · rename_i hr
          refine ⟨_, _, _, hr, fun call' h' => ?_⟩
          simp only [callMV, ho, hce, h']
          exact hf
        · cases hf
      · rename_i hne hce
        split at hf
        · rename_i hr
          refine ⟨_, _, _, hr, fun call' h' => ?_⟩
          simp only [callMV, ho, hce, h']
          exact hf
        · cases hf
      · cases hf
    · cases hf
  · rename_i hns
    split at hf
    · rename_i hnd
      split at hf
      · rename_i a hl
        split at hf
        · rename_i hr
          refine ⟨_, _, _, hr, fun call' h' => ?_⟩
          unfold callMV
          split
          · rename_i o c; exact absurd rfl (hns o c)
          · rw [if_pos hnd]
            simp only [hl, h']
            exact hf
        · cases hf
      · cases hf
    · cases hf
theorem eop_dep {call : Nat → List V → Option V} {σ : St} {ao : AOp} {x : V × List AObj} (hf : eop call σ ao = some x) : (∀ call', eop call' σ ao = some x) ∨ ∃ k as r, call k as = some r ∧ ∀ call', call' k as = some r → eop call' σ ao = some x := by
  cases ao with
  | call f args fl fz =>
    right
    cases fl <;> cases fz <;> simp only [eop] at hf ⊢ <;> try (cases hf; done)
    split at hf
    · rename_i as has
      split at hf
      · rename_i r hr
        refine ⟨_, _, r, hr, fun call' h' => ?_⟩
        simp only [has, h']
        exact hf
      · cases hf
    · cases hf
  | callD f args =>
    right
    simp only [eop] at hf ⊢
    split at hf
    · rename_i as has
      split at hf
      · rename_i r hr
        refine ⟨_, _, r, hr, fun call' h' => ?_⟩
        simp only [has, h']
        exact hf
      · cases hf
    · cases hf
  | callC f args =>
    right
    simp only [eop] at hf ⊢
    split at hf
    · rename_i as has
      split at hf
      · rename_i r hr
        refine ⟨_, _, r, hr, fun call' h' => ?_⟩
        simp only [has, h']
        exact hf
      · cases hf
    · cases hf
  | callZ f args =>
    right
    simp only [eop] at hf ⊢
    split at hf
    · rename_i as has
      split at hf
      · rename_i r hr
        refine ⟨_, _, r, hr, fun call' h' => ?_⟩
        simp only [has, h']
        exact hf
      · cases hf
    · cases hf
  | callM f x k =>
    right
    simp only [eop] at hf ⊢
    split at hf
    · rename_i n hn
      obtain ⟨k, as, r, h1, h2⟩ := callMV_dep hf
      exact ⟨k, as, r, h1, fun call' h' => by first | exact h2 call' h' | (simp only [hn]; exact h2 call' h')⟩
    · cases hf
  | _ => exact .inl fun _ => hf
theorem fop_mono {call call' : Nat → List V → Option V} (h : Sub call call') {σ : St} {ao : AOp} {v : V} (hf : fop call σ ao = some v) : fop call' σ ao = some v := by
  rcases fop_dep hf with h1 | ⟨k, as, r, h1, h2⟩
  · exact h1 _
  · exact h2 _ (h _ _ _ h1)
theorem eop_mono {call call' : Nat → List V → Option V} (h : Sub call call') {σ : St} {ao : AOp} {x : V × List AObj} (hf : eop call σ ao = some x) : eop call' σ ao = some x := by
  rcases eop_dep hf with h1 | ⟨k, as, r, h1, h2⟩
  · exact h1 _
  · exact h2 _ (h _ _ _ h1)
theorem eop_fop {call call' : Nat → List V → Option V} {σ : St} {ao : AOp} {x : V × List AObj} (hf : eop call σ ao = some x) : fop call' σ ao = none := by
  cases ao with
  | call f args fl fz => cases fl <;> cases fz <;> first | rfl | cases hf
  | _ => first | rfl | cases hf
theorem stepO_mono {call call' : Nat → List V → Option V} (h : Sub call call') {oo : AOper} {σ σ' : St} (hs : stepO call oo σ = some σ') : stepO call' oo σ = some σ' := by
  unfold stepO at *
  split at hs
  · split at hs
    · rename_i v hv
      rw [fop_mono h hv]
      exact hs
    · split at hs
      · rename_i v h' he
        cases hs
        rw [eop_fop (call' := call') he, eop_mono h he]
      · cases hs
  · exact hs
  · cases hs
theorem execOps_mono {call call' : Nat → List V → Option V} (h : Sub call call') : ∀ {oos : List AOper} {σ σ' : St}, execOps call oos σ = some σ' → execOps call' oos σ = some σ'
  | [], _, _, hs => hs
  | o :: oos, σ, σ', hs => by
    unfold execOps at *
    split at hs
    · rename_i σ1 h1
      rw [stepO_mono h h1]
      exact execOps_mono h hs
    · cases hs

def SubL (f g : (St → Option (Ex × St)) → St → Option (Ex × St)) : Prop := ∀ F G σ x, (∀ σ x, F σ = some x → G σ = some x) → f F σ = some x → g G σ = some x
theorem exec_mono {call call' : Nat → List V → Option V} {lp lp' : (St → Option (Ex × St)) → St → Option (Ex × St)} (h : Sub call call') (hl : SubL lp lp') : ∀ {c : ACode} {σ : St} {x : Ex × St}, exec call lp c σ = some x → exec call' lp' c σ = some x := by
  intro c
  induction c with
  | skip => intro σ x hs; exact hs
  | region ops =>
    intro σ x hs
    simp only [exec] at *
    split at hs
    · rename_i σ1 h1; rw [execOps_mono h h1]; exact hs
    · cases hs
  | seq a b iha ihb =>
    intro σ x hs
    simp only [exec] at *
    split at hs
    · rename_i σ1 h1; rw [iha h1]; exact ihb hs
    · rename_i hne
      rw [iha hs]
      obtain ⟨e, σ2⟩ := x
      cases e with
      | normal => exact absurd hs (hne σ2)
      | _ => rfl
  | cond c a b iha ihb =>
    intro σ x hs
    simp only [exec] at *
    split at hs
    · rename_i t ht
      cases t with
      | true => exact iha hs
      | false => exact ihb hs
    · cases hs
  | block id c ih =>
    intro σ x hs
    simp only [exec] at *
    split at hs
    · rename_i i σ1 h1; rw [ih h1]; exact hs
    · rename_i hne
      rw [ih hs]
      obtain ⟨e, σ2⟩ := x
      cases e with
      | exit i => exact absurd hs (hne i σ2)
      | _ => rfl
  | loop c ih =>
    intro σ x hs
    simp only [exec] at *
    exact hl _ _ σ x (fun σ x => ih) hs
  | exit id => intro σ x hs; exact hs
  | ret => intro σ x hs; exact hs

theorem loopN_sub {n m : Nat} (hnm : n ≤ m) : SubL (loopN n) (loopN m) := by
  induction n generalizing m with
  | zero => intro F G σ x _ h; simp [loopN] at h
  | succ n ih =>
    intro F G σ x hFG h
    obtain ⟨m, rfl⟩ : ∃ m', m = m' + 1 := ⟨m - 1, by omega⟩
    simp only [loopN] at h ⊢
    split at h
    · rename_i σ1 h1
      rw [hFG _ _ h1]
      exact ih (m := m) (by omega) F G σ1 x hFG h
    · rename_i hne
      rw [hFG _ _ h]
      obtain ⟨e, σ2⟩ := x
      cases e with
      | normal => exact absurd h (hne σ2)
      | _ => rfl

theorem loopN_step {n : Nat} {f : St → Option (Ex × St)} {σ σ' : St} (h : f σ = some (.normal, σ')) : loopN (n + 1) f σ = loopN n f σ' := by simp only [loopN, h]
theorem loopN_end {n : Nat} {f : St → Option (Ex × St)} {σ σ' : St} {e : Ex} (h : f σ = some (e, σ')) (he : e ≠ .normal) : loopN (n + 1) f σ = some (e, σ') := by
  simp only [loopN, h]
  cases e with
  | normal => exact absurd rfl he
  | _ => rfl

section
variable {Φ : Nat → Option AFn} {ext : Nat → List V → Option V}

theorem run_mono : ∀ {n m : Nat}, n ≤ m → Sub (run Φ ext n) (run Φ ext m)
  | 0, _, _ => fun _ _ _ h => by simp [run] at h
  | n + 1, m, hnm => fun k as r h => by
    obtain ⟨m, rfl⟩ : ∃ m', m = m' + 1 := ⟨m - 1, by omega⟩
    simp only [run] at h ⊢
    split at h
    · split at h
      · rename_i hk
        rw [if_pos hk]
        split at h
        · rename_i fn _
          split at h
          · rename_i hz
            rw [if_pos hz]
            have key : ∀ {x : Ex × St}, exec (run Φ ext n) (loopN n) fn.body (startM fn as) = some x → exec (run Φ ext m) (loopN m) fn.body (startM fn as) = some x := exec_mono (run_mono (by omega)) (loopN_sub (by omega))
            cases hx : exec (run Φ ext n) (loopN n) fn.body (startM fn as) with
            | none => rw [hx] at h; simp [doneM] at h
            | some x => rw [key hx]; rw [hx] at h; exact h
          · cases h
        · cases h
      · rename_i hk
        rw [if_neg hk]
        exact h
    · rename_i fn _
      have key : ∀ {x : Ex × St}, exec (run Φ ext n) (loopN n) fn.body (start fn as) = some x → exec (run Φ ext m) (loopN m) fn.body (start fn as) = some x := exec_mono (run_mono (by omega)) (loopN_sub (by omega))
      cases hx : exec (run Φ ext n) (loopN n) fn.body (start fn as) with
      | none => rw [hx] at h; simp [done] at h
      | some x => rw [key hx]; rw [hx] at h; exact h

variable (Φ ext) in
/-- the value of a function at these arguments, whatever the fuel -/
noncomputable def callL (k : Nat) (as : List V) : Option V :=
  open Classical in if h : ∃ n r, run Φ ext n k as = some r then some (Classical.choose (Classical.choose_spec h)) else none
theorem callL_spec {k : Nat} {as : List V} {r : V} : callL Φ ext k as = some r ↔ ∃ n, run Φ ext n k as = some r := by
  unfold callL
  split
  · rename_i h
    have hs := Classical.choose_spec (Classical.choose_spec h)
    constructor
    · intro e; cases e; exact ⟨_, hs⟩
    · rintro ⟨n, hn⟩
      have h1 := run_mono (Φ := Φ) (ext := ext) (Nat.le_max_left (Classical.choose h) n) _ _ _ hs
      have h2 := run_mono (Φ := Φ) (ext := ext) (Nat.le_max_right (Classical.choose h) n) _ _ _ hn
      rw [h1] at h2
      exact h2
  · rename_i h
    constructor
    · intro e; cases e
    · rintro ⟨n, hn⟩; exact absurd ⟨n, r, hn⟩ h

/-- a loop, whatever the number of its rounds -/
noncomputable def loopL (f : St → Option (Ex × St)) (σ : St) : Option (Ex × St) :=
  open Classical in if h : ∃ n r, loopN n f σ = some r then some (Classical.choose (Classical.choose_spec h)) else none
theorem loopL_spec {f : St → Option (Ex × St)} {σ : St} {r : Ex × St} : loopL f σ = some r ↔ ∃ n, loopN n f σ = some r := by
  unfold loopL
  split
  · rename_i h
    have hs := Classical.choose_spec (Classical.choose_spec h)
    constructor
    · intro e; cases e; exact ⟨_, hs⟩
    · rintro ⟨n, hn⟩
      have h1 := loopN_sub (Nat.le_max_left (Classical.choose h) n) f f σ _ (fun _ _ h => h) hs
      have h2 := loopN_sub (Nat.le_max_right (Classical.choose h) n) f f σ _ (fun _ _ h => h) hn
      rw [h1] at h2
      exact h2
  · rename_i h
    constructor
    · intro e; cases e
    · rintro ⟨n, hn⟩; exact absurd ⟨n, r, hn⟩ h

theorem loopL_next {f : St → Option (Ex × St)} {σ σ' : St} (h : f σ = some (.normal, σ')) : loopL f σ = loopL f σ' := by
  apply Option.ext
  intro r
  rw [loopL_spec, loopL_spec]
  constructor
  · rintro ⟨n, hn⟩
    cases n with
    | zero => simp [loopN] at hn
    | succ n => simp only [loopN, h] at hn; exact ⟨n, hn⟩
  · rintro ⟨n, hn⟩
    exact ⟨n + 1, by simp only [loopN, h]; exact hn⟩
theorem loopL_end {f : St → Option (Ex × St)} {σ σ' : St} {e : Ex} (h : f σ = some (e, σ')) (he : e ≠ .normal) : loopL f σ = some (e, σ') := by
  rw [loopL_spec]
  refine ⟨1, ?_⟩
  simp only [loopN, h]
  cases e with
  | normal => exact absurd rfl he
  | _ => rfl

variable (Φ ext) in
/-- code, at the limit -/
noncomputable def execL (c : ACode) (σ : St) : Option (Ex × St) := exec (callL Φ ext) loopL c σ

theorem run_callL (n : Nat) : Sub (run Φ ext n) (callL Φ ext) := fun _ _ _ h => callL_spec.2 ⟨n, h⟩
theorem stepO_fin {oo : AOper} {σ σ' : St} (h : stepO (callL Φ ext) oo σ = some σ') : ∃ n, stepO (run Φ ext n) oo σ = some σ' := by
  unfold stepO at h ⊢
  split at h
  · split at h
    · rename_i v hf
      cases h
      have : ∃ n, fop (run Φ ext n) σ oo.op = some v := by
        rcases fop_dep hf with h1 | ⟨k, as, r, h1, h2⟩
        · exact ⟨0, h1 _⟩
        · obtain ⟨n, hn⟩ := callL_spec.1 h1
          exact ⟨n, h2 _ hn⟩
      obtain ⟨n, hn⟩ := this
      exact ⟨n, by simp only [hn]⟩
    · rename_i hf
      split at h
      · rename_i v hh he
        cases h
        have : ∃ n, eop (run Φ ext n) σ oo.op = some (v, hh) := by
          rcases eop_dep he with h1 | ⟨k, as, r, h1, h2⟩
          · exact ⟨0, h1 _⟩
          · obtain ⟨n, hn⟩ := callL_spec.1 h1
            exact ⟨n, h2 _ hn⟩
        obtain ⟨n, hn⟩ := this
        refine ⟨n, ?_⟩
        have hf' : fop (run Φ ext n) σ oo.op = none := by
          cases q : fop (run Φ ext n) σ oo.op with
          | none => rfl
          | some v => rw [fop_mono (run_callL n) q] at hf; cases hf
        simp only [hf', hn]
      · cases h
  · exact ⟨0, h⟩
  · cases h
theorem execOps_fin : ∀ {oos : List AOper} {σ σ' : St}, execOps (callL Φ ext) oos σ = some σ' → ∃ n, execOps (run Φ ext n) oos σ = some σ'
  | [], _, _, h => ⟨0, h⟩
  | o :: oos, σ, σ', h => by
    unfold execOps at h
    split at h
    · rename_i σ1 h1
      obtain ⟨n, hn⟩ := stepO_fin h1
      obtain ⟨m, hm⟩ := execOps_fin h
      refine ⟨max n m, ?_⟩
      unfold execOps
      rw [stepO_mono (run_mono (Nat.le_max_left n m)) hn]
      exact execOps_mono (run_mono (Nat.le_max_right n m)) hm
    · cases h

theorem execL_fin : ∀ {c : ACode} {σ : St} {x : Ex × St}, exec (callL Φ ext) loopL c σ = some x → ∃ n, exec (run Φ ext n) (loopN n) c σ = some x := by
  have up : ∀ {c : ACode} {σ : St} {x : Ex × St} {n m : Nat}, n ≤ m → exec (run Φ ext n) (loopN n) c σ = some x → exec (run Φ ext m) (loopN m) c σ = some x := fun hnm h => exec_mono (run_mono hnm) (loopN_sub hnm) h
  intro c
  induction c with
  | skip => intro σ x h; exact ⟨0, h⟩
  | region ops =>
    intro σ x h
    simp only [exec] at h
    split at h
    · rename_i σ1 h1
      obtain ⟨n, hn⟩ := execOps_fin h1
      exact ⟨n, by simp only [exec, hn]; exact h⟩
    · cases h
  | seq a b iha ihb =>
    intro σ x h
    simp only [exec] at h
    split at h
    · rename_i σ1 h1
      obtain ⟨n, hn⟩ := iha h1
      obtain ⟨m, hm⟩ := ihb h
      exact ⟨max n m, by simp only [exec, up (Nat.le_max_left n m) hn]; exact up (Nat.le_max_right n m) hm⟩
    · rename_i hne
      obtain ⟨n, hn⟩ := iha h
      refine ⟨n, ?_⟩
      simp only [exec, hn]
      obtain ⟨e, σ2⟩ := x
      cases e with
      | normal => exact absurd h (hne σ2)
      | _ => rfl
  | cond c a b iha ihb =>
    intro σ x h
    simp only [exec] at h
    split at h
    · rename_i t ht
      cases t with
      | true => obtain ⟨n, hn⟩ := iha h; exact ⟨n, by simp only [exec, ht]; exact hn⟩
      | false => obtain ⟨n, hn⟩ := ihb h; exact ⟨n, by simp only [exec, ht]; exact hn⟩
    · cases h
  | block id c ih =>
    intro σ x h
    simp only [exec] at h
    split at h
    · rename_i i σ1 h1
      obtain ⟨n, hn⟩ := ih h1
      exact ⟨n, by simp only [exec, hn]; exact h⟩
    · rename_i hne
      obtain ⟨n, hn⟩ := ih h
      refine ⟨n, ?_⟩
      simp only [exec, hn]
      obtain ⟨e, σ2⟩ := x
      cases e with
      | exit i => exact absurd h (hne i σ2)
      | _ => rfl
  | loop c ih =>
    intro σ x h
    simp only [exec] at h
    obtain ⟨m, hm⟩ := loopL_spec.1 h
    clear h
    induction m generalizing σ with
    | zero => simp [loopN] at hm
    | succ m ihm =>
      simp only [loopN] at hm
      split at hm
      · rename_i σ1 h1
        obtain ⟨n, hn⟩ := ih h1
        obtain ⟨p, hp⟩ := ihm hm
        refine ⟨max n p + 1, ?_⟩
        simp only [exec] at hp ⊢
        rw [loopN_step (up (show n ≤ max n p + 1 by omega) hn)]
        exact loopN_sub (show p ≤ max n p by omega) _ _ _ _ (fun σ x hx => up (show p ≤ max n p + 1 by omega) hx) hp
      · rename_i hne
        obtain ⟨n, hn⟩ := ih hm
        refine ⟨n + 1, ?_⟩
        obtain ⟨e, σ2⟩ := x
        simp only [exec]
        refine loopN_end (up (show n ≤ n + 1 by omega) hn) (fun e1 => ?_)
        subst e1
        exact hne σ2 hm
  | exit id => intro σ x h; exact ⟨0, h⟩
  | ret => intro σ x h; exact ⟨0, h⟩

/-- **The rule for a function of the table.** -/
theorem callL_fn {k : Nat} {fn : AFn} {as : List V} {r : V} (hk : Φ k = some fn) (h : done fn (execL Φ ext fn.body (start fn as)) = some r) : callL Φ ext k as = some r := by
  cases hx : execL Φ ext fn.body (start fn as) with
  | none => rw [hx] at h; simp [done] at h
  | some x =>
    obtain ⟨n, hn⟩ := execL_fin hx
    refine callL_spec.2 ⟨n + 1, ?_⟩
    simp only [run, hk, hn]
    rw [hx] at h
    exact h
theorem callL_ext {k : Nat} {as : List V} {r : V} (hk : Φ k = none) (h : ext k as = some r) (hlt : k < modK := by decide) : callL Φ ext k as = some r :=
  callL_spec.2 ⟨1, by simp only [run, hk]; rw [if_neg (by omega)]; exact h⟩
/-- **.. that writes into what its arguments name.** -/
theorem callM_fn {k : Nat} {fn : AFn} {as : List V} {r : V} (hn : Φ (k + modK) = none) (hk : Φ k = some fn) (hz : fn.body.noZ = true) (h : doneM (thawA [] as).2.length fn (execL Φ ext fn.body (startM fn as)) = some r) : callL Φ ext (k + modK) as = some r := by
  cases hx : execL Φ ext fn.body (startM fn as) with
  | none => rw [hx] at h; simp [doneM] at h
  | some x =>
    obtain ⟨n, hn'⟩ := execL_fin hx
    refine callL_spec.2 ⟨n + 1, ?_⟩
    simp only [run, hn]
    rw [if_pos (by omega), show k + modK - modK = k by omega]
    simp only [hk, if_pos hz, hn']
    rw [hx] at h
    exact h

/-- **What the limit gives, the Go function returns.** -/
theorem callL_sound {Γ : Ctx} {P : Program} (im : Impl Γ P kf Φ ext) {f k : Nat} {as : List V} {r : V} (hk : kf f = some k) (h : callL Φ ext k as = some r) : Sound Γ P f as r := by
  obtain ⟨n, hn⟩ := callL_spec.1 h
  exact run_sound im n f k as r hk hn

end
end Gi
