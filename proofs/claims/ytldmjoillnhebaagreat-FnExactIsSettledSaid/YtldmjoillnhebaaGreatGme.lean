/- The pure machine without a fuel: its limit, the rules by which a function's value is found, and what the limit gives of the Go function. -/
import Derived.Test.YtldmjoillnhebaaGreatGmd
import Derived.DataReads
import Derived.ChangeOld
import Derived.ProofKit
import Derived.KernelRfl
namespace Gi
open Go Go.RowKit
set_option linter.unusedVariables false
set_option linter.unusedSimpArgs false
variable {KI : KF}

def Sub (f g : Nat → List V → Option V) : Prop := ∀ k as r, f k as = some r → g k as = some r

theorem fop_mono {call call' : Nat → List V → Option V} (h : Sub call call') {σ : St} {ao : AOp} {v : V} (hf : fop call σ ao = some v) : fop call' σ ao = some v := by
  cases ao with
  | call f args fl fz =>
    simp only [fop] at hf ⊢
    split at hf
    · rename_i h1
      rw [if_pos h1]
      split at hf
      · rename_i h2
        rw [if_pos h2]
        split at hf
        · rename_i as has
          split at hf
          · rename_i r hr
            simp only [has, h f as r hr]
            exact hf
          · cases hf
        · cases hf
      · cases hf
    · cases hf
  | callV x args =>
    simp only [fop] at hf ⊢
    split at hf
    · rename_i k caps hx
      split at hf
      · rename_i as has
        split at hf
        · rename_i r hr
          simp only [hx, has, h _ _ r hr]
          exact hf
        · cases hf
      · cases hf
    · cases hf
  | _ => exact hf
theorem eop_mono {call call' : Nat → List V → Option V} (h : Sub call call') {σ : St} {ao : AOp} {x : V × List AObj} (hf : eop call σ ao = some x) : eop call' σ ao = some x := by
  cases ao with
  | call f args fl fz =>
    cases fl <;> cases fz <;> simp only [eop] at hf ⊢ <;> try (cases hf; done)
    split at hf
    · rename_i as has
      split at hf
      · rename_i r hr
        simp only [has, h f as r hr]
        exact hf
      · cases hf
    · cases hf
  | callD f args =>
    simp only [eop] at hf ⊢
    split at hf
    · rename_i as has
      split at hf
      · rename_i r hr
        simp only [has, h f as r hr]
        exact hf
      · cases hf
    · cases hf
  | _ => exact hf
theorem eop_fop {call call' : Nat → List V → Option V} {σ : St} {ao : AOp} {x : V × List AObj} (hf : eop call σ ao = some x) : fop call' σ ao = none := by
  cases ao with
  | call f args fl fz => cases fl <;> cases fz <;> first | rfl | cases hf
  | _ => first | rfl | cases hf
theorem stepO_mono {call call' : Nat → List V → Option V} (h : Sub call call') {oo : AOper} {σ σ' : St} (hs : stepO call oo σ = some σ') : stepO call' oo σ = some σ' := by
  unfold stepO at *
  split at hs
  · split at hs
    · rename_i v hv
      rw [fop_mono h hv]
      exact hs
    · split at hs
      · rename_i v h' he
        cases hs
        rw [eop_fop (call' := call') he, eop_mono h he]
      · cases hs
  · exact hs
  · cases hs
theorem execOps_mono {call call' : Nat → List V → Option V} (h : Sub call call') : ∀ {oos : List AOper} {σ σ' : St}, execOps call oos σ = some σ' → execOps call' oos σ = some σ'
  | [], _, _, hs => hs
  | o :: oos, σ, σ', hs => by
    unfold execOps at *
    split at hs
    · rename_i σ1 h1
      rw [stepO_mono h h1]
      exact execOps_mono h hs
    · cases hs

def SubL (f g : (St → Option (Ex × St)) → St → Option (Ex × St)) : Prop := ∀ F G σ x, (∀ σ x, F σ = some x → G σ = some x) → f F σ = some x → g G σ = some x
theorem exec_mono {call call' : Nat → List V → Option V} {lp lp' : (St → Option (Ex × St)) → St → Option (Ex × St)} (h : Sub call call') (hl : SubL lp lp') : ∀ {c : ACode} {σ : St} {x : Ex × St}, exec call lp c σ = some x → exec call' lp' c σ = some x := by
  intro c
  induction c with
  | skip => intro σ x hs; exact hs
  | region ops =>
    intro σ x hs
    simp only [exec] at *
    split at hs
    · rename_i σ1 h1; rw [execOps_mono h h1]; exact hs
    · cases hs
  | seq a b iha ihb =>
    intro σ x hs
    simp only [exec] at *
    split at hs
    · rename_i σ1 h1; rw [iha h1]; exact ihb hs
    · rename_i hne
      rw [iha hs]
      obtain ⟨e, σ2⟩ := x
      cases e with
      | normal => exact absurd hs (hne σ2)
      | _ => rfl
  | cond c a b iha ihb =>
    intro σ x hs
    simp only [exec] at *
    split at hs
    · rename_i t ht
      cases t with
      | true => exact iha hs
      | false => exact ihb hs
    · cases hs
  | block id c ih =>
    intro σ x hs
    simp only [exec] at *
    split at hs
    · rename_i i σ1 h1; rw [ih h1]; exact hs
    · rename_i hne
      rw [ih hs]
      obtain ⟨e, σ2⟩ := x
      cases e with
      | exit i => exact absurd hs (hne i σ2)
      | _ => rfl
  | loop c ih =>
    intro σ x hs
    simp only [exec] at *
    exact hl _ _ σ x (fun σ x => ih) hs
  | exit id => intro σ x hs; exact hs
  | ret => intro σ x hs; exact hs

theorem loopN_sub {n m : Nat} (hnm : n ≤ m) : SubL (loopN n) (loopN m) := by
  induction n generalizing m with
  | zero => intro F G σ x _ h; simp [loopN] at h
  | succ n ih =>
    intro F G σ x hFG h
    obtain ⟨m, rfl⟩ : ∃ m', m = m' + 1 := ⟨m - 1, by omega⟩
    simp only [loopN] at h ⊢
    split at h
    · rename_i σ1 h1
      rw [hFG _ _ h1]
      exact ih (m := m) (by omega) F G σ1 x hFG h
    · rename_i hne
      rw [hFG _ _ h]
      obtain ⟨e, σ2⟩ := x
      cases e with
      | normal => exact absurd h (hne σ2)
      | _ => rfl

theorem loopN_step {n : Nat} {f : St → Option (Ex × St)} {σ σ' : St} (h : f σ = some (.normal, σ')) : loopN (n + 1) f σ = loopN n f σ' := by simp only [loopN, h]
theorem loopN_end {n : Nat} {f : St → Option (Ex × St)} {σ σ' : St} {e : Ex} (h : f σ = some (e, σ')) (he : e ≠ .normal) : loopN (n + 1) f σ = some (e, σ') := by
  simp only [loopN, h]
  cases e with
  | normal => exact absurd rfl he
  | _ => rfl

section
variable {Φ : Nat → Option AFn} {ext : Nat → List V → Option V}

theorem run_mono : ∀ {n m : Nat}, n ≤ m → Sub (run Φ ext n) (run Φ ext m)
  | 0, _, _ => fun _ _ _ h => by simp [run] at h
  | n + 1, m, hnm => fun k as r h => by
    obtain ⟨m, rfl⟩ : ∃ m', m = m' + 1 := ⟨m - 1, by omega⟩
    simp only [run] at h ⊢
    split at h
    · exact h
    · rename_i fn _
      have key : ∀ {x : Ex × St}, exec (run Φ ext n) (loopN n) fn.body (start fn as) = some x → exec (run Φ ext m) (loopN m) fn.body (start fn as) = some x := exec_mono (run_mono (by omega)) (loopN_sub (by omega))
      cases hx : exec (run Φ ext n) (loopN n) fn.body (start fn as) with
      | none => rw [hx] at h; simp [done] at h
      | some x => rw [key hx]; rw [hx] at h; exact h

variable (Φ ext) in
/-- the value of a function at these arguments, whatever the fuel -/
noncomputable def callL (k : Nat) (as : List V) : Option V :=
  open Classical in if h : ∃ n r, run Φ ext n k as = some r then some (Classical.choose (Classical.choose_spec h)) else none
theorem callL_spec {k : Nat} {as : List V} {r : V} : callL Φ ext k as = some r ↔ ∃ n, run Φ ext n k as = some r := by
  unfold callL
  split
  · rename_i h
    have hs := Classical.choose_spec (Classical.choose_spec h)
    constructor
    · intro e; cases e; exact ⟨_, hs⟩
    · rintro ⟨n, hn⟩
      have h1 := run_mono (Φ := Φ) (ext := ext) (Nat.le_max_left (Classical.choose h) n) _ _ _ hs
      have h2 := run_mono (Φ := Φ) (ext := ext) (Nat.le_max_right (Classical.choose h) n) _ _ _ hn
      rw [h1] at h2
      exact h2
  · rename_i h
    constructor
    · intro e; cases e
    · rintro ⟨n, hn⟩; exact absurd ⟨n, r, hn⟩ h

/-- a loop, whatever the number of its rounds -/
noncomputable def loopL (f : St → Option (Ex × St)) (σ : St) : Option (Ex × St) :=
  open Classical in if h : ∃ n r, loopN n f σ = some r then some (Classical.choose (Classical.choose_spec h)) else none
theorem loopL_spec {f : St → Option (Ex × St)} {σ : St} {r : Ex × St} : loopL f σ = some r ↔ ∃ n, loopN n f σ = some r := by
  unfold loopL
  split
  · rename_i h
    have hs := Classical.choose_spec (Classical.choose_spec h)
    constructor
    · intro e; cases e; exact ⟨_, hs⟩
    · rintro ⟨n, hn⟩
      have h1 := loopN_sub (Nat.le_max_left (Classical.choose h) n) f f σ _ (fun _ _ h => h) hs
      have h2 := loopN_sub (Nat.le_max_right (Classical.choose h) n) f f σ _ (fun _ _ h => h) hn
      rw [h1] at h2
      exact h2
  · rename_i h
    constructor
    · intro e; cases e
    · rintro ⟨n, hn⟩; exact absurd ⟨n, r, hn⟩ h

theorem loopL_next {f : St → Option (Ex × St)} {σ σ' : St} (h : f σ = some (.normal, σ')) : loopL f σ = loopL f σ' := by
  apply Option.ext
  intro r
  rw [loopL_spec, loopL_spec]
  constructor
  · rintro ⟨n, hn⟩
    cases n with
    | zero => simp [loopN] at hn
    | succ n => simp only [loopN, h] at hn; exact ⟨n, hn⟩
  · rintro ⟨n, hn⟩
    exact ⟨n + 1, by simp only [loopN, h]; exact hn⟩
theorem loopL_end {f : St → Option (Ex × St)} {σ σ' : St} {e : Ex} (h : f σ = some (e, σ')) (he : e ≠ .normal) : loopL f σ = some (e, σ') := by
  rw [loopL_spec]
  refine ⟨1, ?_⟩
  simp only [loopN, h]
  cases e with
  | normal => exact absurd rfl he
  | _ => rfl

variable (Φ ext) in
/-- code, at the limit -/
noncomputable def execL (c : ACode) (σ : St) : Option (Ex × St) := exec (callL Φ ext) loopL c σ

theorem fop_call {c1 c2 : Nat → List V → Option V} {σ : St} {f : Nat} {args : List Opd} {fl fz : Bool} (h : ∀ as, viewArgs σ.h (args.map (Opd.ev σ)) = some as → c1 f as = c2 f as) : fop c1 σ (.call f args fl fz) = fop c2 σ (.call f args fl fz) := by
  simp only [fop]
  split
  · split
    · cases hv : viewArgs σ.h (args.map (Opd.ev σ)) with
      | none => rfl
      | some as => simp only [h as hv]
    · rfl
  · rfl
theorem eop_call {c1 c2 : Nat → List V → Option V} {σ : St} {f : Nat} {args : List Opd} {fl fz : Bool} (h : ∀ as, viewArgs σ.h (args.map (Opd.ev σ)) = some as → c1 f as = c2 f as) : eop c1 σ (.call f args fl fz) = eop c2 σ (.call f args fl fz) := by
  cases fl <;> cases fz <;> simp only [eop]
  cases hv : viewArgs σ.h (args.map (Opd.ev σ)) with
  | none => rfl
  | some as => simp only [h as hv]
theorem eop_callD {c1 c2 : Nat → List V → Option V} {σ : St} {f : Nat} {args : List Opd} (h : ∀ as, viewArgs σ.h (args.map (Opd.ev σ)) = some as → c1 f as = c2 f as) : eop c1 σ (.callD f args) = eop c2 σ (.callD f args) := by
  simp only [eop]
  cases hv : viewArgs σ.h (args.map (Opd.ev σ)) with
  | none => rfl
  | some as => simp only [h as hv]
theorem fop_callV {c1 c2 : Nat → List V → Option V} {σ : St} {x : Opd} {args : List Opd} (h : ∀ k caps as, x.ev σ = .one (.fn k caps) → viewArgs σ.h (args.map (Opd.ev σ)) = some as → c1 k (as ++ caps.map capV) = c2 k (as ++ caps.map capV)) : fop c1 σ (.callV x args) = fop c2 σ (.callV x args) := by
  simp only [fop]
  split
  · rename_i k caps hx
    split
    · rename_i as has
      rw [h k caps as hx has]
    · rfl
  · rfl
theorem stepO_fin {oo : AOper} {σ σ' : St} (h : stepO (callL Φ ext) oo σ = some σ') : ∃ n, stepO (run Φ ext n) oo σ = some σ' := by
  have key : ∃ n, fop (callL Φ ext) σ oo.op = fop (run Φ ext n) σ oo.op ∧ eop (callL Φ ext) σ oo.op = eop (run Φ ext n) σ oo.op := by
    cases hop : oo.op with
    | call f args fl fz =>
      have : ∃ n, ∀ as, viewArgs σ.h (args.map (Opd.ev σ)) = some as → callL Φ ext f as = run Φ ext n f as := by
        cases hv : viewArgs σ.h (args.map (Opd.ev σ)) with
        | none => exact ⟨0, fun as e => by cases e⟩
        | some as =>
          cases hr : callL Φ ext f as with
          | none => exact ⟨0, fun as' e => by cases e; rw [hr]; rfl⟩
          | some r =>
            obtain ⟨n, hn⟩ := callL_spec.1 hr
            exact ⟨n, fun as' e => by cases e; rw [hr, hn]⟩
      obtain ⟨n, hn⟩ := this
      exact ⟨n, fop_call hn, eop_call hn⟩
    | callD f args =>
      have : ∃ n, ∀ as, viewArgs σ.h (args.map (Opd.ev σ)) = some as → callL Φ ext f as = run Φ ext n f as := by
        cases hv : viewArgs σ.h (args.map (Opd.ev σ)) with
        | none => exact ⟨0, fun as e => by cases e⟩
        | some as =>
          cases hr : callL Φ ext f as with
          | none => exact ⟨0, fun as' e => by cases e; rw [hr]; rfl⟩
          | some r =>
            obtain ⟨n, hn⟩ := callL_spec.1 hr
            exact ⟨n, fun as' e => by cases e; rw [hr, hn]⟩
      obtain ⟨n, hn⟩ := this
      exact ⟨n, rfl, eop_callD hn⟩
    | callV x args =>
      have : ∃ n, ∀ k caps as, x.ev σ = .one (.fn k caps) → viewArgs σ.h (args.map (Opd.ev σ)) = some as → callL Φ ext k (as ++ caps.map capV) = run Φ ext n k (as ++ caps.map capV) := by
        by_cases hx : ∃ k caps, x.ev σ = .one (.fn k caps)
        · obtain ⟨k, caps, hx⟩ := hx
          cases hv : viewArgs σ.h (args.map (Opd.ev σ)) with
          | none => exact ⟨0, fun _ _ as _ e => by cases e⟩
          | some as =>
            cases hr : callL Φ ext k (as ++ caps.map capV) with
            | none => exact ⟨0, fun k' caps' as' e1 e2 => by rw [hx] at e1; cases e1; cases e2; rw [hr]; rfl⟩
            | some r =>
              obtain ⟨n, hn⟩ := callL_spec.1 hr
              exact ⟨n, fun k' caps' as' e1 e2 => by rw [hx] at e1; cases e1; cases e2; rw [hr, hn]⟩
        · exact ⟨0, fun k caps _ e => absurd ⟨k, caps, e⟩ hx⟩
      obtain ⟨n, hn⟩ := this
      exact ⟨n, fop_callV hn, rfl⟩
    | _ => exact ⟨0, rfl, rfl⟩
  obtain ⟨n, h1, h2⟩ := key
  refine ⟨n, ?_⟩
  unfold stepO at *
  rw [← h1, ← h2]
  exact h
theorem execOps_fin : ∀ {oos : List AOper} {σ σ' : St}, execOps (callL Φ ext) oos σ = some σ' → ∃ n, execOps (run Φ ext n) oos σ = some σ'
  | [], _, _, h => ⟨0, h⟩
  | o :: oos, σ, σ', h => by
    unfold execOps at h
    split at h
    · rename_i σ1 h1
      obtain ⟨n, hn⟩ := stepO_fin h1
      obtain ⟨m, hm⟩ := execOps_fin h
      refine ⟨max n m, ?_⟩
      unfold execOps
      rw [stepO_mono (run_mono (Nat.le_max_left n m)) hn]
      exact execOps_mono (run_mono (Nat.le_max_right n m)) hm
    · cases h

theorem execL_fin : ∀ {c : ACode} {σ : St} {x : Ex × St}, exec (callL Φ ext) loopL c σ = some x → ∃ n, exec (run Φ ext n) (loopN n) c σ = some x := by
  have up : ∀ {c : ACode} {σ : St} {x : Ex × St} {n m : Nat}, n ≤ m → exec (run Φ ext n) (loopN n) c σ = some x → exec (run Φ ext m) (loopN m) c σ = some x := fun hnm h => exec_mono (run_mono hnm) (loopN_sub hnm) h
  intro c
  induction c with
  | skip => intro σ x h; exact ⟨0, h⟩
  | region ops =>
    intro σ x h
    simp only [exec] at h
    split at h
    · rename_i σ1 h1
      obtain ⟨n, hn⟩ := execOps_fin h1
      exact ⟨n, by simp only [exec, hn]; exact h⟩
    · cases h
  | seq a b iha ihb =>
    intro σ x h
    simp only [exec] at h
    split at h
    · rename_i σ1 h1
      obtain ⟨n, hn⟩ := iha h1
      obtain ⟨m, hm⟩ := ihb h
      exact ⟨max n m, by simp only [exec, up (Nat.le_max_left n m) hn]; exact up (Nat.le_max_right n m) hm⟩
    · rename_i hne
      obtain ⟨n, hn⟩ := iha h
      refine ⟨n, ?_⟩
      simp only [exec, hn]
      obtain ⟨e, σ2⟩ := x
      cases e with
      | normal => exact absurd h (hne σ2)
      | _ => rfl
  | cond c a b iha ihb =>
    intro σ x h
    simp only [exec] at h
    split at h
    · rename_i t ht
      cases t with
      | true => obtain ⟨n, hn⟩ := iha h; exact ⟨n, by simp only [exec, ht]; exact hn⟩
      | false => obtain ⟨n, hn⟩ := ihb h; exact ⟨n, by simp only [exec, ht]; exact hn⟩
    · cases h
  | block id c ih =>
    intro σ x h
    simp only [exec] at h
    split at h
    · rename_i i σ1 h1
      obtain ⟨n, hn⟩ := ih h1
      exact ⟨n, by simp only [exec, hn]; exact h⟩
    · rename_i hne
      obtain ⟨n, hn⟩ := ih h
      refine ⟨n, ?_⟩
      simp only [exec, hn]
      obtain ⟨e, σ2⟩ := x
      cases e with
      | exit i => exact absurd h (hne i σ2)
      | _ => rfl
  | loop c ih =>
    intro σ x h
    simp only [exec] at h
    obtain ⟨m, hm⟩ := loopL_spec.1 h
    clear h
    induction m generalizing σ with
    | zero => simp [loopN] at hm
    | succ m ihm =>
      simp only [loopN] at hm
      split at hm
      · rename_i σ1 h1
        obtain ⟨n, hn⟩ := ih h1
        obtain ⟨p, hp⟩ := ihm hm
        refine ⟨max n p + 1, ?_⟩
        simp only [exec] at hp ⊢
        rw [loopN_step (up (show n ≤ max n p + 1 by omega) hn)]
        exact loopN_sub (show p ≤ max n p by omega) _ _ _ _ (fun σ x hx => up (show p ≤ max n p + 1 by omega) hx) hp
      · rename_i hne
        obtain ⟨n, hn⟩ := ih hm
        refine ⟨n + 1, ?_⟩
        obtain ⟨e, σ2⟩ := x
        simp only [exec]
        refine loopN_end (up (show n ≤ n + 1 by omega) hn) (fun e1 => ?_)
        subst e1
        exact hne σ2 hm
  | exit id => intro σ x h; exact ⟨0, h⟩
  | ret => intro σ x h; exact ⟨0, h⟩

/-- **The rule for a function of the table.** -/
theorem callL_fn {k : Nat} {fn : AFn} {as : List V} {r : V} (hk : Φ k = some fn) (h : done fn (execL Φ ext fn.body (start fn as)) = some r) : callL Φ ext k as = some r := by
  cases hx : execL Φ ext fn.body (start fn as) with
  | none => rw [hx] at h; simp [done] at h
  | some x =>
    obtain ⟨n, hn⟩ := execL_fin hx
    refine callL_spec.2 ⟨n + 1, ?_⟩
    simp only [run, hk, hn]
    rw [hx] at h
    exact h
theorem callL_ext {k : Nat} {as : List V} {r : V} (hk : Φ k = none) (h : ext k as = some r) : callL Φ ext k as = some r :=
  callL_spec.2 ⟨1, by simp only [run, hk]; exact h⟩

/-- **What the limit gives, the Go function returns.** -/
theorem callL_sound {Γ : Ctx} {P : Program} (im : Impl Γ P kf Φ ext) {f k : Nat} {as : List V} {r : V} (hk : kf f = some k) (h : callL Φ ext k as = some r) : Sound Γ P f as r := by
  obtain ⟨n, hn⟩ := callL_spec.1 h
  exact run_sound im n f k as r hk hn

end
end Gi

/- From the reading of a row's arguments to the pure machine's data; from the pure machine's 'true' to the law's call. -/
namespace Gi
open Go Go.RowKit
set_option linter.unusedVariables false
set_option linter.unusedSimpArgs false
variable {KI : KF}

/-- The types of cells. -/
inductive PTy where
  | int (k : IntKind)
  | bool
  | str
  | lst (ts : List PTy)

mutual
def Has : PTy → PV → Prop
  | .int k, .int k' n => k' = k ∧ (Lit.int k n).wf = true
  | .bool, .bool _ => True
  | .str, .str s => s.length ≤ maxLen
  | .lst ts, .lst rows => rows.length ≤ maxLen ∧ ∀ r ∈ rows, HasL ts r
  | _, _ => False
def HasL : List PTy → List PV → Prop
  | [], [] => True
  | t :: ts, p :: ps => Has t p ∧ HasL ts ps
  | _, _ => False
end

/-- The cells of a struct's fields, one behind the other. -/
def fieldsT (P : Program) (g : TypeId → Option (List PTy)) : List Field → List PTy → Option (List PTy)
  | [], acc => some acc
  | f :: fs, acc => match g f.type with
    | some us => if f.offset = acc.length ∧ P.cellsOf f.type = us.length then fieldsT P g fs (acc ++ us) else none
    | none => none

/-- The cells of a Go type. -/
def flatT (P : Program) : Nat → TypeId → Option (List PTy)
  | 0, _ => none
  | n + 1, t => match P.underlying t with
    | some .bool => some [.bool]
    | some (.int k) => some [.int k]
    | some .string => some [.str]
    | some (.slice e) => match flatT P n e with
      | some ts => if ts.isEmpty || P.cellsOf e != ts.length then none else some [.lst ts]
      | none => none
    | some (.struct fs) => match fieldsT P (flatT P n) fs.toList [] with
      | some ts => if P.cellsOf t = ts.length then some ts else none
      | none => none
    | _ => none

theorem HasL.len : ∀ {ts : List PTy} {ps : List PV}, HasL ts ps → ts.length = ps.length
  | [], [], _ => rfl
  | _ :: _, _ :: _, h => by simp only [HasL] at h; simp [HasL.len h.2]
  | [], _ :: _, h => by simp [HasL] at h
  | _ :: _, [], h => by simp [HasL] at h
theorem HasL.append : ∀ {ts us : List PTy} {ps qs : List PV}, HasL ts ps → HasL us qs → HasL (ts ++ us) (ps ++ qs)
  | [], _, [], _, _, h => h
  | _ :: _, _, _ :: _, _, h, k => by
    simp only [HasL, List.cons_append] at h ⊢
    exact ⟨h.1, HasL.append h.2 k⟩
  | [], _, _ :: _, _, h, _ => by simp [HasL] at h
  | _ :: _, _, [], _, h, _ => by simp [HasL] at h

/-- these cells read as these data -/
def RdL (w : World) (ps : List PV) (cs : List Value) : Prop := ps.length = cs.length ∧ ∀ (i : Nat) (p : PV) (c : Value), ps[i]? = some p → cs[i]? = some c → Reads (fun _ => False) w p c

theorem RdL.append {w : World} {ps qs : List PV} {cs ds : List Value} (h : RdL w ps cs) (k : RdL w qs ds) : RdL w (ps ++ qs) (cs ++ ds) := by
  refine ⟨by simp [h.1, k.1], fun i p c hp hc => ?_⟩
  by_cases hi : i < ps.length
  · rw [List.getElem?_append_left hi] at hp
    rw [List.getElem?_append_left (by rw [← h.1]; exact hi)] at hc
    exact h.2 i p c hp hc
  · rw [List.getElem?_append_right (by omega)] at hp
    rw [List.getElem?_append_right (by rw [← h.1]; omega), ← h.1] at hc
    exact k.2 _ p c hp hc

theorem trod_reads {H : Type} {enc : TypeId × Value → H} {P : Program} {w : World} : ∀ (fuel n : Nat) (t : TypeId) (cs : List Value) (d : DataW H) (ps : List MemPlace) (ts : List PTy), DataW.trod enc P w 0 (fun _ => true) true fuel t cs = some (d, ps) → flatT P n t = some ts →
    ∃ qs : List PV, HasL ts qs ∧ RdL w qs cs := by
  intro fuel
  induction fuel with
  | zero => intro n t cs d ps ts h; simp [DataW.trod] at h
  | succ fuel ih =>
    intro n t cs d ps ts h ht
    cases n with
    | zero => simp [flatT] at ht
    | succ n =>
      have one : ∀ {p : PV} {c : Value}, Reads (fun _ => False) w p c → RdL w [p] [c] := fun {p c} hr => ⟨rfl, fun i p' c' hp hc => by
        cases i with
        | zero => simp at hp hc; subst hp; subst hc; exact hr
        | succ i => simp at hp⟩
      unfold flatT at ht
      split at ht
      · rename_i hu
        cases ht
        obtain ⟨b, rfl, _⟩ := DataW.trod_bool hu h
        exact ⟨[.bool b], by simp [HasL, Has], one (by simp [Reads])⟩
      · rename_i k hu
        cases ht
        obtain ⟨m, rfl, _, hwf⟩ := DataW.trod_int hu h
        exact ⟨[.int k m], by simp [HasL, Has, hwf], one (by simp [Reads])⟩
      · rename_i hu
        cases ht
        obtain ⟨s, rfl, _, hs⟩ := DataW.trod_string hu h
        exact ⟨[.str s.data.toList], by simp only [HasL, Has, and_true]; exact hs, one (by simp [Reads])⟩
      · rename_i e hu
        split at ht
        · rename_i us hus
          split at ht
          · cases ht
          · rename_i hne
            cases ht
            simp only [Bool.or_eq_true, List.isEmpty_iff, bne_iff_ne, ne_eq, not_or, Decidable.not_not] at hne
            obtain ⟨hne1, hne2⟩ := hne
            rcases DataW.trod_slice hu h with ⟨rfl, _⟩ | ⟨ad, len, cap, elems, rest, m, em, rfl, _, _, hlc, hcm, hel, hat, _, _⟩
            · exact ⟨[.lst []], by simp [HasL, Has], one (by simp only [Reads]; exact .inl ⟨by trivial, _, _, rfl⟩)⟩
            · obtain rfl : m = fuel := by omega
              have hpos : 0 < us.length := List.length_pos_iff.2 hne1
              have hspot0 : 0 < len → ad.spot = none := by
                intro hl
                have hx := hat 0 hl
                have hxe : elems[0]? = some (elems[0]'(by omega)) := by simp [show 0 < elems.length by omega]
                rw [hxe] at hx
                cases hcs : w.cells? 0 (ad.add (0 * P.cellsOf e)) (P.cellsOf e) with
                | none => rw [hcs] at hx; simp at hx
                | some ccs =>
                  obtain ⟨_, c2, c3⟩ := World.cells?_some hcs
                  rw [hne2] at c2 c3
                  have h0 := c3 0 hpos
                  have hc0 : ccs[0]? = some (ccs[0]'(by omega)) := by simp [show 0 < ccs.length by omega]
                  rw [hc0] at h0
                  have hadd0 : (ad.add (0 * us.length)).add 0 = ad := by simp [Addr.add]
                  rw [hadd0] at h0
                  exact World.cell?_spot h0
              -- the elements
              have hrow : ∀ i, i < len → ∃ q : List PV, HasL us q ∧ ReadsL (fun _ => False) w q ad.block (ad.off + i * us.length) ∧ ad.spot = none ∧ ad.block < w.heap.size := by
                intro i hi
                have hx := hat i hi
                have hxe : elems[i]? = some (elems[i]'(by omega)) := by simp [show i < elems.length by omega]
                rw [hxe] at hx
                cases hcs : w.cells? 0 (ad.add (i * P.cellsOf e)) (P.cellsOf e) with
                | none => rw [hcs] at hx; simp at hx
                | some ccs =>
                  rw [hcs] at hx
                  simp only [Option.bind_some] at hx
                  obtain ⟨q, g1, g2⟩ := ih n e ccs _ _ us hx hus
                  obtain ⟨_, c2, c3⟩ := World.cells?_some hcs
                  rw [hne2] at c2 c3
                  have h0 := c3 0 hpos
                  have hc0 : ccs[0]? = some (ccs[0]'(by omega)) := by simp [show 0 < ccs.length by omega]
                  rw [hc0] at h0
                  have hadd0 : (ad.add (i * us.length)).add 0 = ad.add (i * us.length) := by simp [Addr.add]
                  rw [hadd0] at h0
                  have hspot : ad.spot = none := hspot0 (by omega)
                  have hb : ad.block < w.heap.size := by
                    have := World.block_lt_of_cell? w _ h0
                    have e2 : (ad.add (i * us.length)).block = ad.block := by unfold Addr.add; split <;> rfl
                    rwa [e2] at this
                  refine ⟨q, g1, ReadsL.of fun j p hp => ?_, hspot, hb⟩
                  have hj : j < us.length := by rw [g1.len]; exact (List.getElem?_eq_some_iff.1 hp).1
                  have hcj := c3 j hj
                  have hcj' : ccs[j]? = some (ccs[j]'(by omega)) := by simp [show j < ccs.length by omega]
                  rw [hcj'] at hcj
                  refine ⟨_, ?_, g2.2 j p _ hp hcj'⟩
                  rw [← hcj]
                  congr 1
                  obtain ⟨bb, oo, ss⟩ := ad
                  simp only at hspot
                  subst hspot
                  rw [Addr.add_mid, Addr.add_mid]
              by_cases hl0 : len = 0
              · subst hl0
                exact ⟨[.lst []], by simp [HasL, Has], one (by simp only [Reads]; exact .inl ⟨by trivial, _, _, rfl⟩)⟩
              · obtain ⟨rows, hrl, hrows⟩ : ∃ rows : List (List PV), rows.length = len ∧ ∀ i q, rows[i]? = some q → HasL us q ∧ ReadsL (fun _ => False) w q ad.block (ad.off + i * us.length) := by
                  clear hat hel em h
                  have : ∀ k, k ≤ len → ∃ rows : List (List PV), rows.length = k ∧ ∀ i q, rows[i]? = some q → HasL us q ∧ ReadsL (fun _ => False) w q ad.block (ad.off + i * us.length) := by
                    intro k
                    induction k with
                    | zero => intro _; exact ⟨[], rfl, fun i q hq => by simp at hq⟩
                    | succ k ihk =>
                      intro hk
                      obtain ⟨rows, r1, r2⟩ := ihk (by omega)
                      obtain ⟨q, q1, q2, _⟩ := hrow k (by omega)
                      refine ⟨rows ++ [q], by simp [r1], fun i q' hq' => ?_⟩
                      by_cases hi : i < rows.length
                      · rw [List.getElem?_append_left hi] at hq'; exact r2 i q' hq'
                      · rw [List.getElem?_append_right (by omega)] at hq'
                        have h1 := (List.getElem?_eq_some_iff.1 hq').1
                        simp at h1
                        have : i = k := by omega
                        subst this
                        rw [r1, Nat.sub_self] at hq'
                        simp at hq'; subst hq'
                        exact ⟨q1, q2⟩
                  exact this len (Nat.le_refl _)
                obtain ⟨_, _, _, hspot, hb⟩ := hrow 0 (by omega)
                refine ⟨[.lst rows], ?_, one ?_⟩
                · simp only [HasL, Has, and_true]
                  refine ⟨by omega, fun r hr => ?_⟩
                  obtain ⟨i, hi, rfl⟩ := List.getElem_of_mem hr
                  exact (hrows i _ (List.getElem?_eq_getElem hi)).1
                · simp only [Reads]
                  obtain ⟨bb, oo, ss⟩ := ad
                  simp only at hspot hb hrows
                  subst hspot
                  refine .inr ⟨bb, oo, cap, us.length, by rw [hrl], fun h => h, hb, ReadsLL.of fun i q hq => ?_, by rw [hrl]; exact hlc⟩
                  obtain ⟨g1, g2⟩ := hrows i q hq
                  exact ⟨g1.len.symm, g2⟩
        · cases ht
      · rename_i fs hu
        split at ht
        · rename_i ts' hts
          split at ht
          · rename_i hcl
            cases ht
            obtain ⟨xs, m, em, _, hl, hxl, hf⟩ := DataW.trod_struct hu h
            obtain rfl : m = fuel := by omega
            -- the fields, one by one
            have key : ∀ (fl : List Field) (acc out : List PTy) (k : Nat), (∀ j, fl[j]? = fs[k + j]?) → fieldsT P (flatT P n) fl acc = some out → (∃ qs, HasL acc qs ∧ RdL w qs (cs.take acc.length)) → out.length ≤ cs.length → ∃ qs, HasL out qs ∧ RdL w qs (cs.take out.length) := by
              intro fl
              induction fl with
              | nil => intro acc out k _ ho hq _; simp [fieldsT] at ho; subst ho; exact hq
              | cons f fl ihf =>
                intro acc out k hfl ho hq hle
                unfold fieldsT at ho
                split at ho
                · rename_i us hus
                  split at ho
                  · rename_i hoff
                    obtain ⟨ho1, ho2⟩ := hoff
                    have hfk : fs[k]? = some f := by simpa using (hfl 0).symm
                    have hx := hf k f hfk
                    have hkx : k < xs.length := by rw [hxl]; exact (Array.getElem?_eq_some_iff.1 hfk).1
                    have hx2 : xs[k]? = some xs[k] := by simp [hkx]
                    rw [hx2] at hx
                    obtain ⟨qs2, g1, g2⟩ := ih n f.type _ _ _ us hx hus
                    obtain ⟨qs1, p1, p2⟩ := hq
                    refine ihf (acc ++ us) out (k + 1) (fun j => by have := hfl (j + 1); simpa [Nat.add_assoc, Nat.add_comm 1 j] using this) ho ⟨qs1 ++ qs2, p1.append g1, ?_⟩ hle
                    have e : cs.take (acc ++ us).length = cs.take acc.length ++ (cs.drop f.offset).take (P.cellsOf f.type) := by
                      rw [ho1, ho2, List.length_append, List.take_add]
                    rw [e]
                    exact p2.append g2
                  · cases ho
                · cases ho
            obtain ⟨qs, g1, g2⟩ := key fs.toList [] ts 0 (by simp) hts ⟨[], by simp [HasL], by simp [RdL]⟩ (by rw [hl, hcl]; exact Nat.le_refl _)
            refine ⟨qs, g1, ?_⟩
            rw [show ts.length = cs.length by rw [hl, hcl], List.take_length] at g2
            exact g2
          · cases ht
        · cases ht
      · cases ht

/-! ### The arguments of a law -/
/-- An argument as the pure machine takes it. -/
def argV (g : Bool) (qs : List PV) : V := if g then .agg (qs.map .pv) else (match qs with | [q] => .one (.pv q) | _ => .tup [])

theorem arg_reads {H : Type} {enc : TypeId × Value → H} {P : Program} {w : World} {t : TypeId} {v : Value} {d : DataW H} {ps : List MemPlace} {n : Nat} {ts : List PTy} {g : Bool} (h : DataW.Trod enc P w 0 (fun _ => true) true t v d ps) (ht : flatT P n t = some ts)
    (hg : (g = true ∧ ∃ cs, v = .agg cs) ∨ (g = false ∧ ts.length = 1 ∧ ∀ cs, v ≠ .agg cs)) : ∃ qs, HasL ts qs ∧ VR (fun _ => False) w [] [] (argV g qs) v := by
  obtain ⟨fuel, hf⟩ := h
  obtain ⟨qs, h1, h2⟩ := trod_reads fuel n t _ d ps ts hf ht
  refine ⟨qs, h1, ?_⟩
  rcases hg with ⟨rfl, cs, rfl⟩ | ⟨rfl, hl, hv⟩
  · refine ⟨cs, rfl, by simpa [Value.cells] using h2.1, fun i l c hl hc => ?_⟩
    simp only [List.getElem?_map, Option.map_eq_some_iff] at hl
    obtain ⟨q, hq, rfl⟩ := hl
    exact h2.2 i q c hq hc
  · have hq1 : qs.length = 1 := by rw [← h1.len]; exact hl
    obtain ⟨q, rfl⟩ := List.length_eq_one_iff.1 hq1
    have hvc : v.cells = #[v] := by
      cases v with
      | agg cs => exact absurd rfl (hv cs)
      | _ => rfl
    rw [hvc] at h2
    exact h2.2 0 q v rfl rfl

/-- **A law that the pure machine finds true.** -/
theorem law_calls {Γ : Ctx} {P : Program} {Φ : Nat → Option AFn} {ext : Nat → List V → Option V} (im : Impl Γ P kf Φ ext) {f k : Nat} (hk : kf f = some k) {as : List V} (h : callL Φ ext k as = some (vbool true)) {W : World} {args : Array Value} (hG : Γ.G W)
    (ha : ArgsR (fun _ => False) W as args.toList) : Calls P f args W fun e W' => e = .returned (.bool true) ∧ Below W.heap.size W W' := by
  obtain ⟨_, hs⟩ := callL_sound im hk h
  refine (hs (fun _ => False) W args hG (fun _ h => h.elim) ha).mono fun e W' ⟨v, he, hb, hr⟩ => ?_
  obtain ⟨ρ', _, hv⟩ := hr
  have : v = .bool true := by simpa [thaw, thawL, VR, LR, Reads] using hv
  exact ⟨by rw [he, this], hb⟩

end Gi

/- Copying, measuring and comparing slices element by element: three loops, each for any element type. -/
namespace Gi
open Go Go.RowKit
set_option linter.unusedVariables false
set_option linter.unusedSimpArgs false

theorem loopL_eq (f : St → Option (Ex × St)) (σ : St) : loopL f σ = (match f σ with
    | some (.normal, σ') => loopL f σ'
    | r => r) := by
  cases h : f σ with
  | none =>
    cases hl : loopL f σ with
    | none => rfl
    | some r =>
      obtain ⟨n, hn⟩ := loopL_spec.1 hl
      cases n with
      | zero => simp [loopN] at hn
      | succ n => simp [loopN, h] at hn
  | some x =>
    obtain ⟨e, σ'⟩ := x
    cases e with
    | normal => exact loopL_next h
    | exit i => exact loopL_end h (by simp)
    | ret => exact loopL_end h (by simp)

/-- what a result's cell reads as -/
def forget : L → PV
  | .pv p => p
  | .own _ es => .lst es
  | _ => .lst []

theorem viewL_pv (h : List AObj) : ∀ (ps : List PV), viewL h (ps.map .pv) = some ps
  | [] => rfl
  | p :: ps => by simp only [List.map_cons, viewL, L.view, viewL_pv h ps]
theorem view_agg (h : List AObj) (ps : List PV) : V.view h (.agg (ps.map .pv)) = some (.agg (ps.map .pv)) := by simp only [V.view, viewL_pv]
theorem mut_pv (h : List AObj) (ps : List PV) : V.mut h (.agg (ps.map .pv)) = false := by
  simp only [V.mut, V.cells, List.any_eq_false]
  intro l hl
  obtain ⟨p, _, rfl⟩ := List.mem_map.1 hl
  simp [L.mut]

theorem thaw_ext : ∀ (ls : List L) (h : List AObj), ls.all L.clean = true → ∃ t, (thawL h ls).2 = h ++ t := fun ls h hc => (thawL_at ls h hc).2.1
theorem view_ext {h t : List AObj} {l : L} {p : PV} (e : l.view h = some p) : l.view (h ++ t) = some p := by
  cases l with
  | arr o =>
    simp only [L.view] at e ⊢
    have ho : o < h.length := by
      cases hh : h[o]? with
      | none => rw [hh] at e; cases e
      | some x => exact (List.getElem?_eq_some_iff.1 hh).1
    rw [List.getElem?_append_left ho]
    exact e
  | _ => exact e
theorem viewL_ext {h t : List AObj} : ∀ {ls : List L} {ps : List PV}, viewL h ls = some ps → viewL (h ++ t) ls = some ps
  | [], ps, e => e
  | l :: ls, ps, e => by
    unfold viewL at e ⊢
    split at e
    · rename_i p ps' h1 h2
      rw [view_ext h1, viewL_ext h2]
      exact e
    · cases e
theorem thaw_view : ∀ (ls : List L) (h : List AObj), ls.all L.clean = true → viewL (thawL h ls).2 (thawL h ls).1 = some (ls.map forget)
  | [], h, _ => rfl
  | l :: ls, h, hc => by
    simp only [List.all_cons, Bool.and_eq_true] at hc
    cases l with
    | own z es =>
      simp only [thawL, List.map_cons, viewL]
      obtain ⟨t, ht⟩ := thaw_ext ls (h ++ [.arr z es]) hc.2
      rw [thaw_view ls _ hc.2]
      have : L.view (thawL (h ++ [AObj.arr z es]) ls).2 (.arr h.length) = some (.lst es) := by
        rw [ht]
        simp [L.view]
      rw [this]
      rfl
    | pv p => simp only [thawL, List.map_cons, viewL, L.view, thaw_view ls h hc.2]; rfl
    | nil => simp only [thawL, List.map_cons, viewL, L.view, thaw_view ls h hc.2]; rfl
    | _ => simp [L.clean] at hc
theorem thaw_notArr : ∀ (ls : List L) (h : List AObj) (o : Nat), ls.all L.clean = true → o < h.length → (thawL h ls).1.all (L.notArr o) = true
  | [], _, _, _, _ => rfl
  | l :: ls, h, o, hc, ho => by
    simp only [List.all_cons, Bool.and_eq_true] at hc
    cases l with
    | own z es =>
      simp only [thawL, List.all_cons, Bool.and_eq_true]
      exact ⟨by simp [L.notArr]; omega, thaw_notArr ls _ o hc.2 (by simp; omega)⟩
    | pv p => simp only [thawL, List.all_cons, Bool.and_eq_true]; exact ⟨rfl, thaw_notArr ls h o hc.2 ho⟩
    | nil => simp only [thawL, List.all_cons, Bool.and_eq_true]; exact ⟨rfl, thaw_notArr ls h o hc.2 ho⟩
    | _ => simp [L.clean] at hc

theorem putAt_full {α : Type} (a b : List α) (h : a.length = b.length) : putAt a 0 b = b := by
  simp [putAt, h.symm]
theorem freezeLs_pv (h : List AObj) : ∀ (ps : List PV), freezeLs h (ps.map .pv) = h
  | [] => rfl
  | p :: ps => by
    show freezeLs (freezeL h (.pv p)) (ps.map .pv) = h
    exact freezeLs_pv h ps
theorem freezeVs_pv (h : List AObj) (ps : List PV) : freezeVs h [.agg (ps.map .pv)] = h := freezeLs_pv h ps
theorem notArr_pv (o : Nat) (ps : List PV) : (ps.map L.pv).all (L.notArr o) = true := by
  simp [L.notArr]

theorem store_row {h' : List AObj} {z k : Nat} {es : List (List PV)} {e r : List PV} {ls' : List L} (h0 : h'[0]? = some (.arr z es)) (he : es[k]? = some e) (hez : e.length = z) (hv : viewL h' ls' = some r) (hl : ls'.length = z) (hna : ls'.all (L.notArr 0) = true) :
    ∃ h'', storeV h' z (.one (.ptr 0 k 0)) (.agg ls') = some (.arr z (es.set k r) :: h'') := by
  have hk := freezeLs_keep ls' h' hna h0
  cases hf : freezeLs h' ls' with
  | nil => rw [hf] at hk; simp at hk
  | cons x h'' =>
    rw [hf] at hk
    simp at hk
    subst hk
    refine ⟨h'', ?_⟩
    have hrl : r.length = z := by rw [(viewL_at hv).1]; exact hl
    simp only [storeV, V.cells, hl, if_true, h0, he, hv, hf]
    rw [if_pos ⟨by omega, hna⟩, putAt_full e r (by omega)]
    rfl

theorem es_at {rows : List (List PV)} {k m : Nat} {zero : List PV} (h : k + (m + 1) = rows.length) : (rows.take k ++ List.replicate (m + 1) zero)[k]? = some zero := by
  rw [List.getElem?_append_right (by simp; omega), List.getElem?_replicate]
  rw [if_pos (by simp; omega)]
theorem es_set {rows : List (List PV)} {k m : Nat} {zero : List PV} (h : k + (m + 1) = rows.length) : (rows.take k ++ List.replicate (m + 1) zero).set k (rows[k]'(by omega)) = rows.take (k + 1) ++ List.replicate m zero := by
  have hk : k < rows.length := by omega
  rw [List.set_append_right _ _ (by simp; omega)]
  have : k - (rows.take k).length = 0 := by simp; omega
  rw [this, List.replicate_succ, List.set_cons_zero, List.take_succ_eq_append_getElem hk, List.append_assoc]
  rfl

section
variable {Φ : Nat → Option AFn} {ext : Nat → List V → Option V}

/-- the head of each round: i < len(a) -/
def hdr (i a t0 : Nat) : ACode := .seq (.region [⟨some t0, .mv (.tmp i), none⟩, ⟨some (t0 + 1), .mv (.tmp a), none⟩, ⟨some (t0 + 2), .len (.tmp (t0 + 1)), none⟩, ⟨some (t0 + 3), .bin .lss (.tmp t0) (.tmp (t0 + 2)), none⟩]) (.cond (.tmp (t0 + 3)) .skip (.exit 0))
/-- its foot: i++ -/
def ftr (i t0 : Nat) : ACode := .region [⟨some t0, .mv (.tmp i), none⟩, ⟨some (t0 + 1), .bin .add (.tmp t0) (.pv (.int .i64 1)), none⟩, ⟨some i, .mv (.tmp (t0 + 1)), none⟩]

/-- out[i] = to(a[i]) -/
def toSBody (z kx : Nat) (fl : Bool) : ACode := .seq (hdr 4 0 8) (.seq (.block 1 (.region [⟨some 14, .mv (.tmp 3), none⟩, ⟨some 15, .mv (.tmp 4), none⟩, ⟨some 16, .mv (.tmp 0), none⟩, ⟨some 17, .mv (.tmp 4), none⟩, ⟨some 18, .indexA z (.tmp 16) (.tmp 17), none⟩, ⟨some 19, .load true z (.tmp 18), none⟩, ⟨some 20, .call kx [.tmp 19] fl false, none⟩, ⟨some 21, .indexA z (.tmp 14) (.tmp 15), none⟩, ⟨none, .store z (.tmp 21) (.tmp 20), none⟩])) (ftr 4 12))
def toS (bytes z kx : Nat) (zero : List PV) (fl : Bool) : AFn := ⟨23, [.tmp 2], .seq (.region [⟨some 2, .mv .nil, none⟩]) (.seq (.region [⟨some 5, .mv (.tmp 0), none⟩, ⟨some 6, .len (.tmp 5), none⟩, ⟨some 7, .make bytes zero (.tmp 6), none⟩, ⟨some 3, .mv (.tmp 7), none⟩]) (.seq (.seq (.region [⟨some 4, .mv (.pv (.int .i64 0)), none⟩]) (.block 0 (.loop (toSBody z kx fl)))) (.seq (.region [⟨some 22, .mv (.tmp 3), none⟩, ⟨some 2, .mv (.tmp 22), none⟩]) .ret)))⟩

theorem wrap_small {k : Nat} (h : k < 9223372036854775807) : IntKind.i64.wrap ((k : Int) + 1) = (k : Int) + 1 := by
  rw [IntKind.wrap_i64]; omega

/-- the element function copies the cells of an element -/
def Copies (Φ : Nat → Option AFn) (ext : Nat → List V → Option V) (kx : Nat) (fl : Bool) (r : List PV) : Prop :=
  ∃ ls, callL Φ ext kx [.agg (r.map .pv)] = some (.agg ls) ∧ ls.all L.clean = true ∧ ls.map forget = r ∧ (fl = true → ls = r.map .pv ∧ ls.all L.flat = true)

theorem toS_loop {z kx : Nat} {fl : Bool} {zero : List PV} {rows : List (List PV)} (hz : ∀ r ∈ rows, r.length = z) (hzero : zero.length = z) (hlen : rows.length ≤ maxLen) (hcp : ∀ r ∈ rows, Copies Φ ext kx fl r) : ∀ (m k : Nat), k + m = rows.length →
    ∀ (u1 u2 u5 u6 u7 x8 x9 x10 x11 x12 x13 x14 x15 x16 x17 x18 x19 x20 x21 u22 : V) (extra : List AObj),
      ∃ t' h', loopL (exec (callL Φ ext) loopL (toSBody z kx fl)) ⟨[vlst rows, u1, u2, .one (.arr 0), vint .i64 k, u5, u6, u7, x8, x9, x10, x11, x12, x13, x14, x15, x16, x17, x18, x19, x20, x21, u22], .arr z (rows.take k ++ List.replicate m zero) :: extra⟩ = some (.exit 0, ⟨t', .arr z rows :: h'⟩) ∧ t'.length = 23 ∧ t'[3]? = some (.one (.arr 0)) := by
  intro m
  induction m with
  | zero =>
    intro k hk u1 u2 u5 u6 u7 x8 x9 x10 x11 x12 x13 x14 x15 x16 x17 x18 x19 x20 x21 u22 extra
    have hk' : k = rows.length := by omega
    subst hk'
    rw [loopL_eq]
    simp [toSBody, hdr, exec, execOps, stepO, wants, fop, Opd.ev, put, asList, L.view, bin, binInt, isBool]
  | succ m ih =>
    intro k hk u1 u2 u5 u6 u7 x8 x9 x10 x11 x12 x13 x14 x15 x16 x17 x18 x19 x20 x21 u22 extra
    have hlt : k < rows.length := by omega
    have hr : rows[k]? = some rows[k] := by simp [hlt]
    have hrz : (rows[k]).length = z := hz _ (List.getElem_mem hlt)
    obtain ⟨ls, c1, c2, c3, c4⟩ := hcp _ (List.getElem_mem hlt)
    have hw := wrap_small (k := k) (by unfold maxLen at hlen; omega)
    have hcut : cut true z 0 ((rows[k]).map L.pv) = some (.agg ((rows[k]).map .pv)) := by
      simp [cut, hrz, List.take_of_length_le (show ((rows[k]).map L.pv).length ≤ z by simp [hrz])]
    have hlt' : decide ((k : Int) < (rows.length : Int)) = true := by simpa using hlt
    have hmin : k < min k rows.length + (m + 1) := by omega
    have hcast : ((k + 1 : Nat) : Int) = (k : Int) + 1 := by omega
    cases fl with
    | true =>
      obtain ⟨rfl, hfl⟩ := c4 rfl
      obtain ⟨h'', hst⟩ := store_row (h' := .arr z (rows.take k ++ List.replicate (m + 1) zero) :: extra) (k := k) (r := rows[k]) (ls' := (rows[k]).map .pv) rfl (es_at (by omega)) hzero (viewL_pv _ _) (by simp [hrz]) (notArr_pv _ _)
      rw [es_set (by omega)] at hst
      have hset : ((rows[k]).map L.pv).map setL = (rows[k]).map L.pv := by simp [setL]
      have key := ih (k + 1) (by omega) u1 u2 u5 u6 u7 (vint .i64 k) (vlst rows) (vint .i64 rows.length) (vbool true) (vint .i64 k) (vint .i64 ((k : Int) + 1)) (.one (.arr 0)) (vint .i64 k) (vlst rows) (vint .i64 k) (.one (.ip rows[k] 0)) (.agg ((rows[k]).map .pv)) (.agg ((rows[k]).map .pv)) (.one (.ptr 0 k 0)) u22 h''
      obtain ⟨t', h', e1, e2, e3⟩ := key
      refine ⟨t', h', (loopL_next ?_).trans e1, e2, e3⟩
      rw [hcast]
      simp [toSBody, hdr, ftr, exec, execOps, stepO, wants, fop, eop, Opd.ev, put, asList, L.view, bin, binInt, isBool, isInt, hlt, elemPtr, hrz, loadV, hcut, viewArgs, view_agg, c1, V.flat, hfl, setV, hset, hst, hw, hmin]
    | false =>
      obtain ⟨t, ht⟩ := thaw_ext ls (.arr z (rows.take k ++ List.replicate (m + 1) zero) :: extra) c2
      have hv := thaw_view ls (.arr z (rows.take k ++ List.replicate (m + 1) zero) :: extra) c2
      have hna := thaw_notArr ls (.arr z (rows.take k ++ List.replicate (m + 1) zero) :: extra) 0 c2 (by simp)
      have hll := (thawL_at ls (.arr z (rows.take k ++ List.replicate (m + 1) zero) :: extra) c2).1
      have hlz : ls.length = z := by rw [← hrz, ← c3]; simp
      rw [c3] at hv
      generalize hth : thawL (.arr z (rows.take k ++ List.replicate (m + 1) zero) :: extra) ls = th at *
      obtain ⟨ls', h1⟩ := th
      simp only at ht hv hna hll
      obtain ⟨h'', hst⟩ := store_row (h' := h1) (k := k) (r := rows[k]) (ls' := ls') (by rw [ht]; rfl) (es_at (by omega)) hzero hv (by rw [hll, hlz]) hna
      rw [es_set (by omega)] at hst
      have hh0 : h1[0]? = some (.arr z (rows.take k ++ List.replicate (m + 1) zero)) := by rw [ht]; rfl
      have key := ih (k + 1) (by omega) u1 u2 u5 u6 u7 (vint .i64 k) (vlst rows) (vint .i64 rows.length) (vbool true) (vint .i64 k) (vint .i64 ((k : Int) + 1)) (.one (.arr 0)) (vint .i64 k) (vlst rows) (vint .i64 k) (.one (.ip rows[k] 0)) (.agg ((rows[k]).map .pv)) (.agg ls') (.one (.ptr 0 k 0)) u22 h''
      obtain ⟨t', h', e1, e2, e3⟩ := key
      refine ⟨t', h', (loopL_next ?_).trans e1, e2, e3⟩
      rw [hcast]
      simp [toSBody, hdr, ftr, exec, execOps, stepO, wants, fop, eop, Opd.ev, put, asList, L.view, bin, binInt, isBool, isInt, hlt, elemPtr, hrz, loadV, hcut, viewArgs, view_agg, c1, thaw, hth, freezeVs_pv, hh0, hst, hw, hmin]

theorem toS_ok {k bytes z kx : Nat} {fl : Bool} {zero : List PV} {rows : List (List PV)} (hk : Φ k = some (toS bytes z kx zero fl)) (hz : ∀ r ∈ rows, r.length = z) (hz0 : 0 < z) (hzero : zero.length = z) (hlen : rows.length ≤ maxLen) (hb : (rows.length : Int) * bytes ≤ 140737488355328) (hcp : ∀ r ∈ rows, Copies Φ ext kx fl r) :
    callL Φ ext k [vlst rows] = some (.one (.own z rows)) := by
  refine callL_fn hk ?_
  obtain ⟨t', h', e1, e2, e3⟩ := toS_loop (Φ := Φ) (ext := ext) hz hzero hlen hcp rows.length 0 (by omega) (.tup []) (.one .nil) (vlst rows) (vint .i64 rows.length) (.one (.arr 0)) (.tup []) (.tup []) (.tup []) (.tup []) (.tup []) (.tup []) (.tup []) (.tup []) (.tup []) (.tup []) (.tup []) (.tup []) (.tup []) (.tup []) (.tup []) []
  simp only [List.take_zero, List.nil_append, show ((0 : Nat) : Int) = 0 from rfl] at e1
  have hl63 : (rows.length : Int) ≤ 9223372036854775807 := by unfold maxLen at hlen; omega
  obtain ⟨_, e4⟩ := List.getElem?_eq_some_iff.1 e3
  generalize hF : exec (callL Φ ext) loopL (toSBody z kx fl) = F at e1
  simp [toS, start, execL, exec, hF, execOps, stepO, wants, fop, eop, Opd.ev, put, asList, L.view, isInt, hb, hl63, hzero, hz0, e1, done, finish, resultsOf, resultOf, comps, comp, giveLs, giveL, arrsOf, e2, e4, V.cells]

/-! ### Measuring -/
def szHead (t0 : Nat) : List AOper := [⟨some t0, .mv (.tmp 1), none⟩, ⟨some (t0 + 1), .mv (.tmp 0), none⟩, ⟨some (t0 + 2), .len (.tmp (t0 + 1)), none⟩, ⟨some (t0 + 3), .bin .sub (.tmp t0) (.tmp (t0 + 2)), none⟩, ⟨some 1, .mv (.tmp (t0 + 3)), none⟩]
def neg1 (t0 : Nat) : ACode := .seq (.region [⟨some t0, .mv (.tmp 1), none⟩, ⟨some (t0 + 1), .bin .lss (.tmp t0) (.pv (.int .i64 0)), none⟩]) (.cond (.tmp (t0 + 1)) (.seq (.region [⟨some 4, .mv (.pv (.int .i64 (-1))), none⟩]) .ret) .skip)
def szSBody (z kx : Nat) : ACode := .seq (hdr 5 0 12) (.seq (.block 1 (.seq (.region [⟨some 18, .mv (.tmp 0), none⟩, ⟨some 19, .mv (.tmp 5), none⟩, ⟨some 20, .indexA z (.tmp 18) (.tmp 19), none⟩, ⟨some 21, .load true z (.tmp 20), none⟩, ⟨some 22, .mv (.tmp 1), none⟩, ⟨some 23, .call kx [.tmp 21, .tmp 22] true false, none⟩, ⟨some 1, .mv (.tmp 23), none⟩]) (neg1 24))) (ftr 5 16))
def szS (z kx : Nat) : AFn := ⟨27, [.tmp 4], .seq (.region [⟨some 4, .mv (.pv (.int .i64 0)), none⟩]) (.seq (.region (szHead 6)) (.seq (neg1 10) (.seq (.seq (.region [⟨some 5, .mv (.pv (.int .i64 0)), none⟩]) (.block 0 (.loop (szSBody z kx)))) (.seq (.region [⟨some 26, .mv (.tmp 1), none⟩, ⟨some 4, .mv (.tmp 26), none⟩]) .ret))))⟩
/-- where the elements hold numbers alone -/
def szF : AFn := ⟨12, [.tmp 4], .seq (.region [⟨some 4, .mv (.pv (.int .i64 0)), none⟩]) (.seq (.region (szHead 5)) (.seq (neg1 9) (.seq (.region [⟨some 11, .mv (.tmp 1), none⟩, ⟨some 4, .mv (.tmp 11), none⟩]) .ret)))⟩

mutual
/-- how much a datum counts: letters and elements -/
def sz : PV → Nat
  | .str s => s.length
  | .lst rows => rows.length + szRows rows
  | _ => 0
def szL : List PV → Nat
  | [] => 0
  | p :: ps => sz p + szL ps
def szRows : List (List PV) → Nat
  | [] => 0
  | r :: rs => szL r + szRows rs
end

/-- left less n, or -1 -/
def less (left : Int) (n : Nat) : Int := if left < n then -1 else left - n

/-- the element function measures an element -/
def Measures (Φ : Nat → Option AFn) (ext : Nat → List V → Option V) (kx : Nat) (r : List PV) : Prop :=
  ∀ left : Int, 0 ≤ left → left ≤ 1048576 → callL Φ ext kx [.agg (r.map .pv), vint .i64 left] = some (vint .i64 (less left (szL r)))

theorem less_less {left : Int} {a b : Nat} (h : 0 ≤ less left a) : less (less left a) b = less left (a + b) := by
  unfold less at *
  split at h
  · omega
  · rename_i h1
    rw [if_neg h1]
    by_cases h2 : left - (a : Int) < b
    · rw [if_pos h2, if_pos (by omega)]
    · rw [if_neg h2, if_neg (by omega)]; omega
theorem less_neg {left : Int} {a b : Nat} (h0 : 0 ≤ left) (h : less left a < 0) : less left (a + b) = -1 := by
  unfold less at *
  split at h
  · rw [if_pos (by omega)]
  · omega

theorem szF_ok {k : Nat} {rows : List (List PV)} (hk : Φ k = some szF) (hlen : rows.length ≤ maxLen) {left : Int} (h0 : 0 ≤ left) (h1 : left ≤ 1048576) : callL Φ ext k [vlst rows, vint .i64 left] = some (vint .i64 (less left rows.length)) := by
  refine callL_fn hk ?_
  have hw : IntKind.i64.wrap (left - rows.length) = left - rows.length := by unfold maxLen at hlen; rw [IntKind.wrap_i64]; omega
  by_cases hl : left < rows.length
  · have : left - (rows.length : Int) < 0 := by omega
    simp [szF, szHead, neg1, start, execL, exec, execOps, stepO, wants, fop, Opd.ev, put, asList, L.view, bin, binInt, isBool, hw, this, done, finish, resultsOf, resultOf, comps, comp, giveLs, giveL, arrsOf, V.cells, less, hl]
  · have : ¬ left - (rows.length : Int) < 0 := by omega
    simp [szF, szHead, neg1, start, execL, exec, execOps, stepO, wants, fop, Opd.ev, put, asList, L.view, bin, binInt, isBool, hw, this, done, finish, resultsOf, resultOf, comps, comp, giveLs, giveL, arrsOf, V.cells, less, hl]

end
end Gi

/- Measuring and comparing slices, continued; copying and comparing slices of plain cells. -/
namespace Gi
open Go Go.RowKit
set_option linter.unusedVariables false
set_option linter.unusedSimpArgs false

section
variable {Φ : Nat → Option AFn} {ext : Nat → List V → Option V}

theorem less_ge {left : Int} {a : Nat} (h : less left a < 0) (h0 : 0 ≤ left) : less left a = -1 := by
  unfold less at *
  split at h
  · rename_i h1; rw [if_pos h1]
  · omega
theorem less_le {left : Int} {a : Nat} (h0 : 0 ≤ left) : less left a ≤ left := by
  unfold less; split <;> omega

theorem szRows_drop {rows : List (List PV)} {k : Nat} (h : k < rows.length) : szRows (rows.drop k) = szL (rows[k]) + szRows (rows.drop (k + 1)) := by
  rw [List.drop_eq_getElem_cons h, szRows]

theorem szS_loop {z kx : Nat} {rows : List (List PV)} (hz : ∀ r ∈ rows, r.length = z) (hlen : rows.length ≤ maxLen) (hcp : ∀ r ∈ rows, Measures Φ ext kx r) : ∀ (m k : Nat), k + m = rows.length → ∀ (left : Int), 0 ≤ left → left ≤ 1048576 →
    ∀ (u2 u3 u4 u6 u7 u8 u9 u10 u11 x12 x13 x14 x15 x16 x17 x18 x19 x20 x21 x22 x23 x24 x25 u26 : V) (h : List AObj),
      ∃ e t', loopL (exec (callL Φ ext) loopL (szSBody z kx)) ⟨[vlst rows, vint .i64 left, u2, u3, u4, vint .i64 k, u6, u7, u8, u9, u10, u11, x12, x13, x14, x15, x16, x17, x18, x19, x20, x21, x22, x23, x24, x25, u26], h⟩ = some (e, ⟨t', h⟩) ∧ t'.length = 27 ∧
        ((e = .exit 0 ∧ 0 ≤ less left (szRows (rows.drop k)) ∧ t'[1]? = some (vint .i64 (less left (szRows (rows.drop k))))) ∨ (e = .ret ∧ less left (szRows (rows.drop k)) = -1 ∧ t'[4]? = some (vint .i64 (-1)))) := by
  intro m
  induction m with
  | zero =>
    intro k hk left h0 h1 u2 u3 u4 u6 u7 u8 u9 u10 u11 x12 x13 x14 x15 x16 x17 x18 x19 x20 x21 x22 x23 x24 x25 u26 h
    have hk' : k = rows.length := by omega
    subst hk'
    have hl0 : less left (szRows (rows.drop rows.length)) = left := by simp [szRows, less]; omega
    rw [hl0, loopL_eq]
    refine ⟨.exit 0, [vlst rows, vint .i64 left, u2, u3, u4, vint .i64 rows.length, u6, u7, u8, u9, u10, u11, vint .i64 rows.length, vlst rows, vint .i64 rows.length, vbool false, x16, x17, x18, x19, x20, x21, x22, x23, x24, x25, u26], ?_, rfl, .inl ⟨rfl, h0, rfl⟩⟩
    simp [szSBody, hdr, exec, execOps, stepO, wants, fop, Opd.ev, put, asList, L.view, bin, binInt, isBool]
  | succ m ih =>
    intro k hk left h0 h1 u2 u3 u4 u6 u7 u8 u9 u10 u11 x12 x13 x14 x15 x16 x17 x18 x19 x20 x21 x22 x23 x24 x25 u26 h
    have hlt : k < rows.length := by omega
    have hrz : (rows[k]).length = z := hz _ (List.getElem_mem hlt)
    have c1 := hcp _ (List.getElem_mem hlt) left h0 h1
    have hw := wrap_small (k := k) (by unfold maxLen at hlen; omega)
    have hcut : cut true z 0 ((rows[k]).map L.pv) = some (.agg ((rows[k]).map .pv)) := by
      simp [cut, hrz, List.take_of_length_le (show ((rows[k]).map L.pv).length ≤ z by simp [hrz])]
    have hcast : ((k + 1 : Nat) : Int) = (k : Int) + 1 := by omega
    rw [szRows_drop hlt]
    by_cases hneg : less left (szL rows[k]) < 0
    · have e1 := less_neg (b := szRows (rows.drop (k + 1))) h0 hneg
      have e2 := less_ge hneg h0
      rw [e1]
      rw [e2] at c1
      refine ⟨.ret, [vlst rows, vint .i64 (-1), u2, u3, vint .i64 (-1), vint .i64 k, u6, u7, u8, u9, u10, u11, vint .i64 k, vlst rows, vint .i64 rows.length, vbool true, x16, x17, vlst rows, vint .i64 k, .one (.ip rows[k] 0), .agg ((rows[k]).map .pv), vint .i64 left, vint .i64 (-1), vint .i64 (-1), vbool true, u26], ?_, rfl, .inr ⟨rfl, rfl, rfl⟩⟩
      refine loopL_end ?_ (by simp)
      simp [szSBody, hdr, ftr, neg1, exec, execOps, stepO, wants, fop, Opd.ev, put, asList, L.view, bin, binInt, isBool, isInt, hlt, elemPtr, hrz, loadV, hcut, viewArgs, viewL_pv, V.view, c1, V.flat, L.flat, setV, setL]
    · have hge : 0 ≤ less left (szL rows[k]) := by omega
      obtain ⟨e, t', g1, g2, g3⟩ := ih (k + 1) (by omega) (less left (szL rows[k])) hge (Int.le_trans (less_le h0) h1) u2 u3 u4 u6 u7 u8 u9 u10 u11 (vint .i64 k) (vlst rows) (vint .i64 rows.length) (vbool true) (vint .i64 k) (vint .i64 ((k : Int) + 1)) (vlst rows) (vint .i64 k) (.one (.ip rows[k] 0)) (.agg ((rows[k]).map .pv)) (vint .i64 left) (vint .i64 (less left (szL rows[k]))) (vint .i64 (less left (szL rows[k]))) (vbool false) u26 h
      rw [less_less hge] at g3
      refine ⟨e, t', (loopL_next ?_).trans g1, g2, g3⟩
      rw [hcast]
      simp [szSBody, hdr, ftr, neg1, exec, execOps, stepO, wants, fop, Opd.ev, put, asList, L.view, bin, binInt, isBool, isInt, hlt, elemPtr, hrz, loadV, hcut, viewArgs, viewL_pv, V.view, c1, V.flat, L.flat, setV, setL, hw, hneg]

theorem szS_ok {k z kx : Nat} {rows : List (List PV)} (hk : Φ k = some (szS z kx)) (hz : ∀ r ∈ rows, r.length = z) (hlen : rows.length ≤ maxLen) (hcp : ∀ r ∈ rows, Measures Φ ext kx r) {left : Int} (h0 : 0 ≤ left) (h1 : left ≤ 1048576) :
    callL Φ ext k [vlst rows, vint .i64 left] = some (vint .i64 (less left (rows.length + szRows rows))) := by
  refine callL_fn hk ?_
  have hw : IntKind.i64.wrap (left - rows.length) = left - rows.length := by unfold maxLen at hlen; rw [IntKind.wrap_i64]; omega
  by_cases hl : left < rows.length
  · have hn : left - (rows.length : Int) < 0 := by omega
    have e : less left (rows.length + szRows rows) = -1 := by unfold less; rw [if_pos (by omega)]
    rw [e]
    generalize hF : exec (callL Φ ext) loopL (szSBody z kx) = F
    simp [szS, szHead, neg1, start, execL, exec, hF, execOps, stepO, wants, fop, Opd.ev, put, asList, L.view, bin, binInt, isBool, hw, hn, done, finish, resultsOf, resultOf, comps, comp, giveLs, giveL, arrsOf, V.cells]
  · have hn : ¬ left - (rows.length : Int) < 0 := by omega
    have hle : left - (rows.length : Int) = less left rows.length := by unfold less; rw [if_neg hl]
    obtain ⟨e, t', g1, g2, g3⟩ := szS_loop (Φ := Φ) (ext := ext) hz hlen hcp rows.length 0 (by omega) (left - rows.length) (by omega) (by omega) (.tup []) (.tup []) (vint .i64 0) (vint .i64 left) (vlst rows) (vint .i64 rows.length) (vint .i64 (left - rows.length)) (vint .i64 (left - rows.length)) (vbool false) (.tup []) (.tup []) (.tup []) (.tup []) (.tup []) (.tup []) (.tup []) (.tup []) (.tup []) (.tup []) (.tup []) (.tup []) (.tup []) (.tup []) (.tup []) []
    simp only [List.drop_zero, show ((0 : Nat) : Int) = 0 from rfl] at g1 g3
    have hls : less (left - rows.length) (szRows rows) = less left (rows.length + szRows rows) := by rw [hle]; exact less_less (by rw [← hle]; omega)
    rw [hls] at g3
    generalize hF : exec (callL Φ ext) loopL (szSBody z kx) = F at g1
    rcases g3 with ⟨rfl, g4, g5⟩ | ⟨rfl, g4, g5⟩
    · obtain ⟨_, g6⟩ := List.getElem?_eq_some_iff.1 g5
      simp [szS, szHead, neg1, start, execL, exec, hF, execOps, stepO, wants, fop, Opd.ev, put, asList, L.view, bin, binInt, isBool, hw, hn, done, finish, resultsOf, resultOf, comps, comp, giveLs, giveL, arrsOf, V.cells, g1, g2, g6]
    · obtain ⟨_, g6⟩ := List.getElem?_eq_some_iff.1 g5
      simp [szS, szHead, neg1, start, execL, exec, hF, execOps, stepO, wants, fop, Opd.ev, put, asList, L.view, bin, binInt, isBool, hw, hn, done, finish, resultsOf, resultOf, comps, comp, giveLs, giveL, arrsOf, V.cells, g1, g2, g6, g4]

/-! ### Comparing a datum with itself -/
def retF : ACode := .seq (.region [⟨some 4, .mv (.pv (.bool false)), none⟩]) .ret
def eqSBody (z kx : Nat) : ACode := .seq (hdr 5 0 11) (.seq (.block 1 (.seq (.region [⟨some 17, .mv (.tmp 0), none⟩, ⟨some 18, .mv (.tmp 5), none⟩, ⟨some 19, .indexA z (.tmp 17) (.tmp 18), none⟩, ⟨some 20, .load true z (.tmp 19), none⟩, ⟨some 21, .mv (.tmp 1), none⟩, ⟨some 22, .mv (.tmp 5), none⟩, ⟨some 23, .indexA z (.tmp 21) (.tmp 22), none⟩, ⟨some 24, .load true z (.tmp 23), none⟩, ⟨some 25, .call kx [.tmp 20, .tmp 24] true true, none⟩, ⟨some 26, .un .not (.tmp 25), none⟩]) (.cond (.tmp 26) retF .skip))) (ftr 5 15))
def eqFBody : ACode := .seq (hdr 5 0 11) (.seq (.block 1 (.seq (.region [⟨some 17, .mv (.tmp 0), none⟩, ⟨some 18, .mv (.tmp 5), none⟩, ⟨some 19, .indexA 1 (.tmp 17) (.tmp 18), none⟩, ⟨some 20, .load false 1 (.tmp 19), none⟩, ⟨some 21, .mv (.tmp 1), none⟩, ⟨some 22, .mv (.tmp 5), none⟩, ⟨some 23, .indexA 1 (.tmp 21) (.tmp 22), none⟩, ⟨some 24, .load false 1 (.tmp 23), none⟩, ⟨some 25, .bin .neq (.tmp 20) (.tmp 24), none⟩]) (.cond (.tmp 25) retF .skip))) (ftr 5 15))
def eqFn (nt : Nat) (body : ACode) : AFn := ⟨nt, [.tmp 4], .seq (.region [⟨some 4, .mv (.pv (.bool false)), none⟩]) (.seq (.seq (.region [⟨some 6, .mv (.tmp 0), none⟩, ⟨some 7, .len (.tmp 6), none⟩, ⟨some 8, .mv (.tmp 1), none⟩, ⟨some 9, .len (.tmp 8), none⟩, ⟨some 10, .bin .neq (.tmp 7) (.tmp 9), none⟩]) (.cond (.tmp 10) retF .skip)) (.seq (.seq (.region [⟨some 5, .mv (.pv (.int .i64 0)), none⟩]) (.block 0 (.loop body))) (.seq (.region [⟨some 4, .mv (.pv (.bool true)), none⟩]) .ret)))⟩

theorem eqS_loop {z kx : Nat} {rows : List (List PV)} (hz : ∀ r ∈ rows, r.length = z) (hlen : rows.length ≤ maxLen) (hcp : ∀ r ∈ rows, callL Φ ext kx [.agg (r.map .pv), .agg (r.map .pv)] = some (vbool true)) : ∀ (m k : Nat), k + m = rows.length →
    ∀ (u2 u3 u4 u6 u7 u8 u9 u10 x11 x12 x13 x14 x15 x16 x17 x18 x19 x20 x21 x22 x23 x24 x25 x26 : V) (h : List AObj),
      ∃ t', loopL (exec (callL Φ ext) loopL (eqSBody z kx)) ⟨[vlst rows, vlst rows, u2, u3, u4, vint .i64 k, u6, u7, u8, u9, u10, x11, x12, x13, x14, x15, x16, x17, x18, x19, x20, x21, x22, x23, x24, x25, x26], h⟩ = some (.exit 0, ⟨t', h⟩) ∧ t'.length = 27 := by
  intro m
  induction m with
  | zero =>
    intro k hk u2 u3 u4 u6 u7 u8 u9 u10 x11 x12 x13 x14 x15 x16 x17 x18 x19 x20 x21 x22 x23 x24 x25 x26 h
    have hk' : k = rows.length := by omega
    subst hk'
    refine ⟨[vlst rows, vlst rows, u2, u3, u4, vint .i64 rows.length, u6, u7, u8, u9, u10, vint .i64 rows.length, vlst rows, vint .i64 rows.length, vbool false, x15, x16, x17, x18, x19, x20, x21, x22, x23, x24, x25, x26], loopL_end ?_ (by simp), rfl⟩
    simp [eqSBody, hdr, exec, execOps, stepO, wants, fop, Opd.ev, put, asList, L.view, bin, binInt, isBool]
  | succ m ih =>
    intro k hk u2 u3 u4 u6 u7 u8 u9 u10 x11 x12 x13 x14 x15 x16 x17 x18 x19 x20 x21 x22 x23 x24 x25 x26 h
    have hlt : k < rows.length := by omega
    have hrz : (rows[k]).length = z := hz _ (List.getElem_mem hlt)
    have c1 := hcp _ (List.getElem_mem hlt)
    have hw := wrap_small (k := k) (by unfold maxLen at hlen; omega)
    have hcut : cut true z 0 ((rows[k]).map L.pv) = some (.agg ((rows[k]).map .pv)) := by
      simp [cut, hrz, List.take_of_length_le (show ((rows[k]).map L.pv).length ≤ z by simp [hrz])]
    have hcast : ((k + 1 : Nat) : Int) = (k : Int) + 1 := by omega
    obtain ⟨t', g1, g2⟩ := ih (k + 1) (by omega) u2 u3 u4 u6 u7 u8 u9 u10 (vint .i64 k) (vlst rows) (vint .i64 rows.length) (vbool true) (vint .i64 k) (vint .i64 ((k : Int) + 1)) (vlst rows) (vint .i64 k) (.one (.ip rows[k] 0)) (.agg ((rows[k]).map .pv)) (vlst rows) (vint .i64 k) (.one (.ip rows[k] 0)) (.agg ((rows[k]).map .pv)) (vbool true) (vbool false) h
    refine ⟨t', (loopL_next ?_).trans g1, g2⟩
    rw [hcast]
    simp [eqSBody, hdr, ftr, exec, execOps, stepO, wants, fop, Opd.ev, put, asList, L.view, bin, binInt, un, isBool, isInt, hlt, elemPtr, hrz, loadV, hcut, viewArgs, viewL_pv, V.view, c1, V.flat, L.flat, setV, setL, hw]

theorem eqS_ok {k z kx : Nat} {rows : List (List PV)} (hk : Φ k = some (eqFn 27 (eqSBody z kx))) (hz : ∀ r ∈ rows, r.length = z) (hlen : rows.length ≤ maxLen) (hcp : ∀ r ∈ rows, callL Φ ext kx [.agg (r.map .pv), .agg (r.map .pv)] = some (vbool true)) :
    callL Φ ext k [vlst rows, vlst rows] = some (vbool true) := by
  refine callL_fn hk ?_
  obtain ⟨t', g1, g2⟩ := eqS_loop (Φ := Φ) (ext := ext) hz hlen hcp rows.length 0 (by omega) (.tup []) (.tup []) (vbool false) (vlst rows) (vint .i64 rows.length) (vlst rows) (vint .i64 rows.length) (vbool false) (.tup []) (.tup []) (.tup []) (.tup []) (.tup []) (.tup []) (.tup []) (.tup []) (.tup []) (.tup []) (.tup []) (.tup []) (.tup []) (.tup []) (.tup []) (.tup []) []
  simp only [show ((0 : Nat) : Int) = 0 from rfl] at g1
  generalize hF : exec (callL Φ ext) loopL (eqSBody z kx) = F at g1
  simp [eqFn, retF, start, execL, exec, hF, execOps, stepO, wants, fop, Opd.ev, put, asList, L.view, bin, binInt, isBool, done, finish, resultsOf, resultOf, comps, comp, giveLs, giveL, arrsOf, V.cells, g1, g2]

/-- a cell that is not a list -/
def PV.plain : PV → Bool
  | .lst _ => false
  | .bool _ => false
  | _ => true

theorem neq_self {p : PV} (h : p.plain = true) : bin .neq (.one (.pv p)) (.one (.pv p)) = some (vbool false) := by
  cases p with
  | int k n => simp [bin, binInt]
  | str s => simp [bin, binStr]
  | bool b => simp [PV.plain] at h
  | lst es => simp [PV.plain] at h

theorem eqF_loop {qs : List PV} (hp : ∀ q ∈ qs, q.plain = true) (hlen : qs.length ≤ maxLen) : ∀ (m k : Nat), k + m = qs.length →
    ∀ (u2 u3 u4 u6 u7 u8 u9 u10 x11 x12 x13 x14 x15 x16 x17 x18 x19 x20 x21 x22 x23 x24 x25 : V) (h : List AObj),
      ∃ t', loopL (exec (callL Φ ext) loopL eqFBody) ⟨[vlst (qs.map fun q => [q]), vlst (qs.map fun q => [q]), u2, u3, u4, vint .i64 k, u6, u7, u8, u9, u10, x11, x12, x13, x14, x15, x16, x17, x18, x19, x20, x21, x22, x23, x24, x25], h⟩ = some (.exit 0, ⟨t', h⟩) ∧ t'.length = 26 := by
  intro m
  induction m with
  | zero =>
    intro k hk u2 u3 u4 u6 u7 u8 u9 u10 x11 x12 x13 x14 x15 x16 x17 x18 x19 x20 x21 x22 x23 x24 x25 h
    have hk' : k = qs.length := by omega
    subst hk'
    refine ⟨[vlst (qs.map fun q => [q]), vlst (qs.map fun q => [q]), u2, u3, u4, vint .i64 qs.length, u6, u7, u8, u9, u10, vint .i64 qs.length, vlst (qs.map fun q => [q]), vint .i64 qs.length, vbool false, x15, x16, x17, x18, x19, x20, x21, x22, x23, x24, x25], loopL_end ?_ (by simp), rfl⟩
    simp [eqFBody, hdr, exec, execOps, stepO, wants, fop, Opd.ev, put, asList, L.view, bin, binInt, isBool]
  | succ m ih =>
    intro k hk u2 u3 u4 u6 u7 u8 u9 u10 x11 x12 x13 x14 x15 x16 x17 x18 x19 x20 x21 x22 x23 x24 x25 h
    have hlt : k < qs.length := by omega
    have hn := neq_self (hp _ (List.getElem_mem hlt))
    have hw := wrap_small (k := k) (by unfold maxLen at hlen; omega)
    have hcast : ((k + 1 : Nat) : Int) = (k : Int) + 1 := by omega
    have hcut : cut false 1 0 [L.pv qs[k]] = some (.one (.pv qs[k])) := by simp [cut]
    have hlss : bin .lss (vint .i64 k) (vint .i64 qs.length) = some (vbool true) := by simp [bin, binInt, hlt]
    have hadd : bin .add (vint .i64 k) (vint .i64 1) = some (vint .i64 ((k : Int) + 1)) := by simp [bin, binInt, hw]
    obtain ⟨t', g1, g2⟩ := ih (k + 1) (by omega) u2 u3 u4 u6 u7 u8 u9 u10 (vint .i64 k) (vlst (qs.map fun q => [q])) (vint .i64 qs.length) (vbool true) (vint .i64 k) (vint .i64 ((k : Int) + 1)) (vlst (qs.map fun q => [q])) (vint .i64 k) (.one (.ip [qs[k]] 0)) (.one (.pv qs[k])) (vlst (qs.map fun q => [q])) (vint .i64 k) (.one (.ip [qs[k]] 0)) (.one (.pv qs[k])) (vbool false) h
    refine ⟨t', (loopL_next ?_).trans g1, g2⟩
    rw [hcast]
    simp [eqFBody, hdr, ftr, exec, execOps, stepO, wants, fop, Opd.ev, put, asList, L.view, hlss, hadd, isBool, isInt, hlt, elemPtr, loadV, hcut, hn]

theorem eqF_ok {k : Nat} {qs : List PV} (hk : Φ k = some (eqFn 26 eqFBody)) (hp : ∀ q ∈ qs, q.plain = true) (hlen : qs.length ≤ maxLen) : callL Φ ext k [vlst (qs.map fun q => [q]), vlst (qs.map fun q => [q])] = some (vbool true) := by
  refine callL_fn hk ?_
  obtain ⟨t', g1, g2⟩ := eqF_loop (Φ := Φ) (ext := ext) hp hlen qs.length 0 (by omega) (.tup []) (.tup []) (vbool false) (vlst (qs.map fun q => [q])) (vint .i64 qs.length) (vlst (qs.map fun q => [q])) (vint .i64 qs.length) (vbool false) (.tup []) (.tup []) (.tup []) (.tup []) (.tup []) (.tup []) (.tup []) (.tup []) (.tup []) (.tup []) (.tup []) (.tup []) (.tup []) (.tup []) (.tup []) []
  simp only [show ((0 : Nat) : Int) = 0 from rfl] at g1
  generalize hF : exec (callL Φ ext) loopL eqFBody = F at g1
  simp [eqFn, retF, start, execL, exec, hF, execOps, stepO, wants, fop, Opd.ev, put, asList, L.view, bin, binInt, isBool, done, finish, resultsOf, resultOf, comps, comp, giveLs, giveL, arrsOf, V.cells, g1, g2]

/-! ### Copying plain cells -/
def toFBody : ACode := .seq (hdr 4 0 8) (.seq (.block 1 (.region [⟨some 14, .mv (.tmp 3), none⟩, ⟨some 15, .mv (.tmp 4), none⟩, ⟨some 16, .mv (.tmp 0), none⟩, ⟨some 17, .mv (.tmp 4), none⟩, ⟨some 18, .indexA 1 (.tmp 16) (.tmp 17), none⟩, ⟨some 19, .load false 1 (.tmp 18), none⟩, ⟨some 20, .indexA 1 (.tmp 14) (.tmp 15), none⟩, ⟨none, .store 1 (.tmp 20) (.tmp 19), none⟩])) (ftr 4 12))
def toF (bytes : Nat) (zero : PV) : AFn := ⟨22, [.tmp 2], .seq (.region [⟨some 2, .mv .nil, none⟩]) (.seq (.region [⟨some 5, .mv (.tmp 0), none⟩, ⟨some 6, .len (.tmp 5), none⟩, ⟨some 7, .make bytes [zero] (.tmp 6), none⟩, ⟨some 3, .mv (.tmp 7), none⟩]) (.seq (.seq (.region [⟨some 4, .mv (.pv (.int .i64 0)), none⟩]) (.block 0 (.loop toFBody))) (.seq (.region [⟨some 21, .mv (.tmp 3), none⟩, ⟨some 2, .mv (.tmp 21), none⟩]) .ret)))⟩

theorem store_one {z k : Nat} {es : List (List PV)} {e : List PV} {q : PV} {extra : List AObj} (he : es[k]? = some e) (hez : e.length = 1) : storeV (.arr z es :: extra) 1 (.one (.ptr 0 k 0)) (.one (.pv q)) = some (.arr z (es.set k [q]) :: extra) := by
  obtain ⟨x, rfl⟩ := List.length_eq_one_iff.1 hez
  simp [storeV, V.cells, he, viewL, L.view, L.notArr, freezeLs, freezeL, putAt]

theorem toF_loop {zero : PV} {qs : List PV} (hlen : qs.length ≤ maxLen) : ∀ (m k : Nat), k + m = qs.length →
    ∀ (u1 u2 u5 u6 u7 x8 x9 x10 x11 x12 x13 x14 x15 x16 x17 x18 x19 x20 u21 : V) (extra : List AObj),
      ∃ t', loopL (exec (callL Φ ext) loopL toFBody) ⟨[vlst (qs.map fun q => [q]), u1, u2, .one (.arr 0), vint .i64 k, u5, u6, u7, x8, x9, x10, x11, x12, x13, x14, x15, x16, x17, x18, x19, x20, u21], .arr 1 ((qs.map fun q => [q]).take k ++ List.replicate m [zero]) :: extra⟩ = some (.exit 0, ⟨t', .arr 1 (qs.map fun q => [q]) :: extra⟩) ∧ t'.length = 22 ∧ t'[3]? = some (.one (.arr 0)) := by
  intro m
  induction m with
  | zero =>
    intro k hk u1 u2 u5 u6 u7 x8 x9 x10 x11 x12 x13 x14 x15 x16 x17 x18 x19 x20 u21 extra
    have hk' : k = qs.length := by omega
    subst hk'
    refine ⟨[vlst (qs.map fun q => [q]), u1, u2, .one (.arr 0), vint .i64 qs.length, u5, u6, u7, vint .i64 qs.length, vlst (qs.map fun q => [q]), vint .i64 qs.length, vbool false, x12, x13, x14, x15, x16, x17, x18, x19, x20, u21], loopL_end ?_ (by simp), rfl, rfl⟩
    have htk : List.take qs.length (List.map (fun q => [q]) qs) = List.map (fun q => [q]) qs := List.take_of_length_le (by simp)
    simp [toFBody, hdr, exec, execOps, stepO, wants, fop, Opd.ev, put, asList, L.view, bin, binInt, isBool, htk]
  | succ m ih =>
    intro k hk u1 u2 u5 u6 u7 x8 x9 x10 x11 x12 x13 x14 x15 x16 x17 x18 x19 x20 u21 extra
    have hlt : k < qs.length := by omega
    have hw := wrap_small (k := k) (by unfold maxLen at hlen; omega)
    have hcast : ((k + 1 : Nat) : Int) = (k : Int) + 1 := by omega
    have hcut : cut false 1 0 [L.pv qs[k]] = some (.one (.pv qs[k])) := by simp [cut]
    have hst := store_one (z := 1) (q := qs[k]) (extra := extra) (es_at (rows := qs.map fun q => [q]) (k := k) (m := m) (zero := [zero]) (by simpa using hk)) rfl
    have hes := es_set (rows := qs.map fun q => [q]) (k := k) (m := m) (zero := [zero]) (by simpa using hk)
    rw [List.getElem_map] at hes
    rw [hes] at hst
    have hmin : k < min k qs.length + (m + 1) := by omega
    obtain ⟨t', g1, g2⟩ := ih (k + 1) (by omega) u1 u2 u5 u6 u7 (vint .i64 k) (vlst (qs.map fun q => [q])) (vint .i64 qs.length) (vbool true) (vint .i64 k) (vint .i64 ((k : Int) + 1)) (.one (.arr 0)) (vint .i64 k) (vlst (qs.map fun q => [q])) (vint .i64 k) (.one (.ip [qs[k]] 0)) (.one (.pv qs[k])) (.one (.ptr 0 k 0)) u21 extra
    refine ⟨t', (loopL_next ?_).trans g1, g2⟩
    rw [hcast]
    simp [toFBody, hdr, ftr, exec, execOps, stepO, wants, fop, eop, Opd.ev, put, asList, L.view, bin, binInt, isBool, isInt, hlt, elemPtr, loadV, hcut, hst, hw, hmin]

theorem toF_ok {k bytes : Nat} {zero : PV} {qs : List PV} (hk : Φ k = some (toF bytes zero)) (hlen : qs.length ≤ maxLen) (hb : (qs.length : Int) * bytes ≤ 140737488355328) : callL Φ ext k [vlst (qs.map fun q => [q])] = some (.one (.own 1 (qs.map fun q => [q]))) := by
  refine callL_fn hk ?_
  obtain ⟨t', e1, e2, e3⟩ := toF_loop (Φ := Φ) (ext := ext) (zero := zero) hlen qs.length 0 (by omega) (.tup []) (.one .nil) (vlst (qs.map fun q => [q])) (vint .i64 qs.length) (.one (.arr 0)) (.tup []) (.tup []) (.tup []) (.tup []) (.tup []) (.tup []) (.tup []) (.tup []) (.tup []) (.tup []) (.tup []) (.tup []) (.tup []) (.tup []) []
  simp only [List.take_zero, List.nil_append, show ((0 : Nat) : Int) = 0 from rfl] at e1
  have hl63 : (qs.length : Int) ≤ 9223372036854775807 := by unfold maxLen at hlen; omega
  obtain ⟨_, e4⟩ := List.getElem?_eq_some_iff.1 e3
  generalize hF : exec (callL Φ ext) loopL toFBody = F at e1
  simp [toF, start, execL, exec, hF, execOps, stepO, wants, fop, eop, Opd.ev, put, asList, L.view, isInt, hb, hl63, e1, done, finish, resultsOf, resultOf, comps, comp, giveLs, giveL, arrsOf, e2, e4, V.cells]

end
end Gi

/- Small facts on typed cells and on what is left, for the texts that a program writes. -/
namespace Gi
open Go Go.RowKit
set_option linter.unusedVariables false
set_option linter.unusedSimpArgs false

theorem HasL_cons {t : PTy} {ts : List PTy} {ps : List PV} (h : HasL (t :: ts) ps) : ∃ p r, ps = p :: r ∧ Has t p ∧ HasL ts r := by
  cases ps with
  | nil => cases h
  | cons p r => exact ⟨p, r, rfl, h.1, h.2⟩
theorem HasL_nil {ps : List PV} (h : HasL [] ps) : ps = [] := by
  cases ps with
  | nil => rfl
  | cons p r => cases h
theorem Has_int {k : IntKind} {p : PV} (h : Has (.int k) p) : ∃ n, p = .int k n := by
  cases p with
  | int k' n => exact ⟨n, by rw [h.1]⟩
  | _ => cases h
theorem Has_str {p : PV} (h : Has .str p) : ∃ s, p = .str s := by
  cases p with
  | str s => exact ⟨s, rfl⟩
  | _ => cases h
theorem Has_bool {p : PV} (h : Has .bool p) : ∃ b, p = .bool b := by
  cases p with
  | bool b => exact ⟨b, rfl⟩
  | _ => cases h
theorem Has_lst {ts : List PTy} {p : PV} (h : Has (.lst ts) p) : ∃ rows, p = .lst rows := by
  cases p with
  | lst rows => exact ⟨rows, rfl⟩
  | _ => cases h
theorem Has_rows {ts : List PTy} {rows : List (List PV)} (h : Has (.lst ts) (.lst rows)) : rows.length ≤ maxLen ∧ ∀ r ∈ rows, HasL ts r := h
theorem HasL_len : ∀ {ts : List PTy} {ps : List PV}, HasL ts ps → ps.length = ts.length
  | [], ps, h => by rw [HasL_nil h]; rfl
  | t :: ts, ps, h => by
    obtain ⟨p, r, rfl, _, h2⟩ := HasL_cons h
    simp [HasL_len h2]
theorem szRows_mem : ∀ {rows : List (List PV)} {r : List PV}, r ∈ rows → szL r ≤ szRows rows
  | a :: rows, r, h => by
    rcases List.mem_cons.1 h with rfl | h
    · simp only [szRows]; omega
    · have := szRows_mem h
      simp only [szRows]; omega
theorem sz_lst (rows : List (List PV)) : sz (.lst rows) = rows.length + szRows rows := by simp only [sz]
theorem row_le {rows : List (List PV)} {r : List PV} (m : r ∈ rows) (h : sz (.lst rows) ≤ 1048576) : szL r ≤ 1048576 := by
  have := szRows_mem m
  rw [sz_lst] at h
  omega
theorem singles {t : PTy} : ∀ {rows : List (List PV)}, (∀ r ∈ rows, HasL [t] r) → ∃ qs : List PV, rows = qs.map fun q => [q]
  | [], _ => ⟨[], rfl⟩
  | a :: rows, h => by
    obtain ⟨qs, rfl⟩ := singles (fun r m => h r (List.mem_cons_of_mem _ m))
    obtain ⟨p, r, rfl, _, h2⟩ := HasL_cons (h a (List.mem_cons_self))
    obtain rfl := HasL_nil h2
    exact ⟨p :: qs, rfl⟩
def PTy.easy : PTy → Bool
  | .int _ => true
  | .str => true
  | _ => false
theorem plains {t : PTy} {qs : List PV} (ht : t.easy = true) (h : ∀ r ∈ (qs.map fun q => [q]), HasL [t] r) : ∀ q ∈ qs, q.plain = true := by
  intro q m
  have := (h [q] (List.mem_map.2 ⟨q, m, rfl⟩)).1
  cases t with
  | int k => obtain ⟨n, rfl⟩ := Has_int this; rfl
  | str => obtain ⟨n, rfl⟩ := Has_str this; rfl
  | _ => cases ht
def PTy.small : PTy → Bool
  | .int _ => true
  | .bool => true
  | _ => false
theorem szL_zero : ∀ {ts : List PTy} {ps : List PV}, ts.all PTy.small = true → HasL ts ps → szL ps = 0
  | [], ps, _, h => by rw [HasL_nil h]; simp only [szL]
  | t :: ts, ps, ha, h => by
    simp only [List.all_cons, Bool.and_eq_true] at ha
    obtain ⟨p, r, rfl, h1, h2⟩ := HasL_cons h
    have := szL_zero ha.2 h2
    cases t with
    | int k => obtain ⟨n, rfl⟩ := Has_int h1; simp only [szL, sz, this]
    | bool => obtain ⟨n, rfl⟩ := Has_bool h1; simp only [szL, sz, this]
    | _ => cases ha.1
theorem szRows_zero {ts : List PTy} (ha : ts.all PTy.small = true) : ∀ {rows : List (List PV)}, (∀ r ∈ rows, HasL ts r) → szRows rows = 0
  | [], _ => by simp only [szRows]
  | r :: rows, h => by
    simp only [szRows, szL_zero ha (h r (List.mem_cons_self)), szRows_zero ha (fun r m => h r (List.mem_cons_of_mem _ m))]

theorem less_lt {left : Int} {n : Nat} (h : left < n) : less left n = -1 := by unfold less; rw [if_pos h]
theorem less_lt' {left l : Int} {n : Nat} (h0 : 0 ≤ left) (q : less left n = l) (hn : l < 0) : left < n := by
  unfold less at q
  split at q
  · assumption
  · omega
theorem less_pos {left l : Int} {n : Nat} (h0 : 0 ≤ left) (q : less left n = l) (hn : ¬ l < 0) : l = left - n ∧ (n : Int) ≤ left := by
  unfold less at q
  split at q
  · omega
  · omega
theorem less_ge' {left l : Int} {n : Nat} (h1 : (n : Int) ≤ left) (h2 : l = left - n) : less left n = l := by
  unfold less
  rw [if_neg (by omega)]
  exact h2.symm

end Gi
