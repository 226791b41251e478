/- Of this proof. -/
import Derived.Test.YthklhahdgbbbhaaGreatGmd
import Derived.DataReads
import Derived.ChangeOld
import Derived.ProofKit
import Derived.KernelRfl
set_option linter.unusedSimpArgs false
set_option linter.unusedVariables false
namespace Gi
open Go Go.RowKit
variable {KI : KF}
def ON (f g : Nat → List V → Option V) : Prop := ∀ k xz r, f k xz = some r → g k xz = some r
theorem LU {call call' : Nat → List V → Option V} (h : ON call call') {σ : St} {ao : AOp} {v : V} (hf : cF call σ ao = some v) : cF call' σ ao = some v := by
 cases ao with
 | call f args fl fz =>
  simp only [cF] at hf ⊢
  split at hf
  ·rename_i h1
   rw [if_pos h1]
   split at hf
   ·rename_i h2
    rw [if_pos h2]
    split at hf
    ·rename_i xz has
     split at hf
     ·rename_i r hr
      simp only [has, h f xz r hr]
      exact hf
     ·cases hf
    ·cases hf
   ·cases hf
  ·cases hf
 | callV x args =>
  simp only [cF] at hf ⊢
  split at hf
  ·rename_i k caps hx
   split at hf
   ·rename_i xz has
    split at hf
    ·rename_i r hr
     simp only [hx, has, h _ _ r hr]
     exact hf
    ·cases hf
   ·cases hf
  ·cases hf
 | _ => exact hf
theorem LH {call call' : Nat → List V → Option V} (h : ON call call') {σ : St} {ao : AOp} {x : V × List AObj} (hf : dN call σ ao = some x) : dN call' σ ao = some x := by
 cases ao with
 | call f args fl fz =>
  cases fl <;> cases fz <;> simp only [dN] at hf ⊢ <;> try (cases hf; done)
  split at hf
  ·rename_i xz has
   split at hf
   ·rename_i r hr
    simp only [has, h f xz r hr]
    exact hf
   ·cases hf
  ·cases hf
 | callD f args =>
  simp only [dN] at hf ⊢
  split at hf
  ·rename_i xz has
   split at hf
   ·rename_i r hr
    simp only [has, h f xz r hr]
    exact hf
   ·cases hf
  ·cases hf
 | _ => exact hf
theorem Ji {call call' : Nat → List V → Option V} {σ : St} {ao : AOp} {x : V × List AObj} (hf : dN call σ ao = some x) : cF call' σ ao = none := by
 cases ao with
 | call f args fl fz => cases fl <;> cases fz <;> first | rfl | cases hf
 | _ => first | rfl | cases hf
theorem CQ {call call' : Nat → List V → Option V} (h : ON call call') {oo : AOper} {σ σ' : St} (hs : bg call oo σ = some σ') : bg call' oo σ = some σ' := by
 unfold bg at *
 split at hs
 ·split at hs
  ·rename_i v hv
   rw [LU h hv]
   exact hs
  ·split at hs
   ·rename_i v h' he
    cases hs
    rw [Ji (call' := call') he, LH h he]
   ·cases hs
 ·exact hs
 ·cases hs
theorem rV {call call' : Nat → List V → Option V} (h : ON call call') : ∀ {oos : List AOper} {σ σ' : St}, am call oos σ = some σ' → am call' oos σ = some σ'
 | [], _, _, hs => hs
 | o :: oos, σ, σ', hs => by
  unfold am at *
  split at hs
  ·rename_i σ1 h1
   rw [CQ h h1]
   exact rV h hs
  ·cases hs
def O6 (f g : (St → Option (Ex × St)) → St → Option (Ex × St)) : Prop := ∀ F G σ x, (∀ σ x, F σ = some x → G σ = some x) → f F σ = some x → g G σ = some x
theorem Eg {call call' : Nat → List V → Option V} {lp lp' : (St → Option (Ex × St)) → St → Option (Ex × St)} (h : ON call call') (hl : O6 lp lp') : ∀ {c : ACode} {σ : St} {x : Ex × St}, aq call lp c σ = some x → aq call' lp' c σ = some x := by
 intro c
 induction c with
 | skip => intro σ x hs; exact hs
 | region ops =>
  intro σ x hs
  simp only [aq] at *
  split at hs
  ·rename_i σ1 h1; rw [rV h h1]; exact hs
  ·cases hs
 | seq a b iha ihb =>
  intro σ x hs
  simp only [aq] at *
  split at hs
  ·rename_i σ1 h1; rw [iha h1]; exact ihb hs
  ·rename_i hne
   rw [iha hs]
   obtain ⟨e, σ2⟩ := x
   cases e with
   | normal => exact absurd hs (hne σ2)
   | _ => rfl
 | cond c a b iha ihb =>
  intro σ x hs
  simp only [aq] at *
  split at hs
  ·rename_i t ht
   cases t with
   | true => exact iha hs
   | false => exact ihb hs
  ·cases hs
 | block id c ih =>
  intro σ x hs
  simp only [aq] at *
  split at hs
  ·rename_i i σ1 h1; rw [ih h1]; exact hs
  ·rename_i hne
   rw [ih hs]
   obtain ⟨e, σ2⟩ := x
   cases e with
   | exit i => exact absurd hs (hne i σ2)
   | _ => rfl
 | loop c ih =>
  intro σ x hs
  simp only [aq] at *
  exact hl _ _ σ x (fun σ x => ih) hs
 | exit id => intro σ x hs; exact hs
 | ret => intro σ x hs; exact hs
theorem re {n m : Nat} (hnm : n ≤ m) : O6 (gE n) (gE m) := by
 induction n generalizing m with
 | zero => intro F G σ x _ h; simp [gE] at h
 | succ n ih =>
  intro F G σ x hFG h
  obtain ⟨m, rfl⟩ : ∃ m', m = m' + 1 := ⟨m - 1, by omega⟩
  simp only [gE] at h ⊢
  split at h
  ·rename_i σ1 h1
   rw [hFG _ _ h1]
   exact ih (m := m) (by omega) F G σ1 x hFG h
  ·rename_i hne
   rw [hFG _ _ h]
   obtain ⟨e, σ2⟩ := x
   cases e with
   | normal => exact absurd h (hne σ2)
   | _ => rfl
theorem vW {n : Nat} {f : St → Option (Ex × St)} {σ σ' : St} (h : f σ = some (.normal, σ')) : gE (n + 1) f σ = gE n f σ' := by simp only [gE, h]
theorem zg {n : Nat} {f : St → Option (Ex × St)} {σ σ' : St} {e : Ex} (h : f σ = some (e, σ')) (he : e ≠ .normal) : gE (n + 1) f σ = some (e, σ') := by
 simp only [gE, h]
 cases e with
 | normal => exact absurd rfl he
 | _ => rfl
section
variable {Φ : Nat → Option AFn} {ext : Nat → List V → Option V}
theorem rh : ∀ {n m : Nat}, n ≤ m → ON (run Φ ext n) (run Φ ext m)
 | 0, _, _ => fun _ _ _ h => by simp [run] at h
 | n + 1, m, hnm => fun k xz r h => by
  obtain ⟨m, rfl⟩ : ∃ m', m = m' + 1 := ⟨m - 1, by omega⟩
  simp only [run] at h ⊢
  split at h
  ·exact h
  ·rename_i fn _
   have key : ∀ {x : Ex × St}, aq (run Φ ext n) (gE n) fn.body (bW fn xz) = some x → aq (run Φ ext m) (gE m) fn.body (bW fn xz) = some x := Eg (rh (by omega)) (re (by omega))
   cases hx : aq (run Φ ext n) (gE n) fn.body (bW fn xz) with
   | none => rw [hx] at h; simp [done] at h
   | some x => rw [key hx]; rw [hx] at h; exact h
variable (Φ ext) in
noncomputable def aa (k : Nat) (xz : List V) : Option V :=
 open Classical in if h : ∃ n r, run Φ ext n k xz = some r then some (Classical.choose (Classical.choose_spec h)) else none
theorem lA {k : Nat} {xz : List V} {r : V} : aa Φ ext k xz = some r ↔ ∃ n, run Φ ext n k xz = some r := by
 unfold aa
 split
 ·rename_i h
  have hs := Classical.choose_spec (Classical.choose_spec h)
  constructor
  ·intro e; cases e; exact ⟨_, hs⟩
  ·rintro ⟨n, hn⟩
   have h1 := rh (Φ := Φ) (ext := ext) (Nat.le_max_left (Classical.choose h) n) _ _ _ hs
   have h2 := rh (Φ := Φ) (ext := ext) (Nat.le_max_right (Classical.choose h) n) _ _ _ hn
   rw [h1] at h2
   exact h2
 ·rename_i h
  constructor
  ·intro e; cases e
  ·rintro ⟨n, hn⟩; exact absurd ⟨n, r, hn⟩ h
noncomputable def ah (f : St → Option (Ex × St)) (σ : St) : Option (Ex × St) :=
 open Classical in if h : ∃ n r, gE n f σ = some r then some (Classical.choose (Classical.choose_spec h)) else none
theorem lQ {f : St → Option (Ex × St)} {σ : St} {r : Ex × St} : ah f σ = some r ↔ ∃ n, gE n f σ = some r := by
 unfold ah
 split
 ·rename_i h
  have hs := Classical.choose_spec (Classical.choose_spec h)
  constructor
  ·intro e; cases e; exact ⟨_, hs⟩
  ·rintro ⟨n, hn⟩
   have h1 := re (Nat.le_max_left (Classical.choose h) n) f f σ _ (fun _ _ h => h) hs
   have h2 := re (Nat.le_max_right (Classical.choose h) n) f f σ _ (fun _ _ h => h) hn
   rw [h1] at h2
   exact h2
 ·rename_i h
  constructor
  ·intro e; cases e
  ·rintro ⟨n, hn⟩; exact absurd ⟨n, r, hn⟩ h
theorem jD {f : St → Option (Ex × St)} {σ σ' : St} (h : f σ = some (.normal, σ')) : ah f σ = ah f σ' := by
 apply Option.ext
 intro r
 rw [lQ, lQ]
 constructor
 ·rintro ⟨n, hn⟩
  cases n with
  | zero => simp [gE] at hn
  | succ n => simp only [gE, h] at hn; exact ⟨n, hn⟩
 ·rintro ⟨n, hn⟩
  exact ⟨n + 1, by simp only [gE, h]; exact hn⟩
theorem l8 {f : St → Option (Ex × St)} {σ σ' : St} {e : Ex} (h : f σ = some (e, σ')) (he : e ≠ .normal) : ah f σ = some (e, σ') := by
 rw [lQ]
 refine ⟨1, ?_⟩
 simp only [gE, h]
 cases e with
 | normal => exact absurd rfl he
 | _ => rfl
variable (Φ ext) in
noncomputable def eM (c : ACode) (σ : St) : Option (Ex × St) := aq (aa Φ ext) ah c σ
theorem LQ {c1 c2 : Nat → List V → Option V} {σ : St} {f : Nat} {args : List Opd} {fl fz : Bool} (h : ∀ xz, aB σ.h (args.map (Opd.ev σ)) = some xz → c1 f xz = c2 f xz) : cF c1 σ (.call f args fl fz) = cF c2 σ (.call f args fl fz) := by
 simp only [cF]
 split
 ·split
  ·cases hv : aB σ.h (args.map (Opd.ev σ)) with
   | none => rfl
   | some xz => simp only [h xz hv]
  ·rfl
 ·rfl
theorem LG {c1 c2 : Nat → List V → Option V} {σ : St} {f : Nat} {args : List Opd} {fl fz : Bool} (h : ∀ xz, aB σ.h (args.map (Opd.ev σ)) = some xz → c1 f xz = c2 f xz) : dN c1 σ (.call f args fl fz) = dN c2 σ (.call f args fl fz) := by
 cases fl <;> cases fz <;> simp only [dN]
 cases hv : aB σ.h (args.map (Opd.ev σ)) with
 | none => rfl
 | some xz => simp only [h xz hv]
theorem Kh {c1 c2 : Nat → List V → Option V} {σ : St} {f : Nat} {args : List Opd} (h : ∀ xz, aB σ.h (args.map (Opd.ev σ)) = some xz → c1 f xz = c2 f xz) : dN c1 σ (.callD f args) = dN c2 σ (.callD f args) := by
 simp only [dN]
 cases hv : aB σ.h (args.map (Opd.ev σ)) with
 | none => rfl
 | some xz => simp only [h xz hv]
theorem Kx {c1 c2 : Nat → List V → Option V} {σ : St} {x : Opd} {args : List Opd} (h : ∀ k caps xz, x.ev σ = .one (.fn k caps) → aB σ.h (args.map (Opd.ev σ)) = some xz → c1 k (xz ++ caps.map qL) = c2 k (xz ++ caps.map qL)) : cF c1 σ (.callV x args) = cF c2 σ (.callV x args) := by
 simp only [cF]
 split
 ·rename_i k caps hx
  split
  ·rename_i xz has
   rw [h k caps xz hx has]
  ·rfl
 ·rfl
theorem K2 {oo : AOper} {σ σ' : St} (h : bg (aa Φ ext) oo σ = some σ') : ∃ n, bg (run Φ ext n) oo σ = some σ' := by
 have key : ∃ n, cF (aa Φ ext) σ oo.op = cF (run Φ ext n) σ oo.op ∧ dN (aa Φ ext) σ oo.op = dN (run Φ ext n) σ oo.op := by
  cases hop : oo.op with
  | call f args fl fz =>
   have : ∃ n, ∀ xz, aB σ.h (args.map (Opd.ev σ)) = some xz → aa Φ ext f xz = run Φ ext n f xz := by
    cases hv : aB σ.h (args.map (Opd.ev σ)) with
    | none => exact ⟨0, fun xz e => by cases e⟩
    | some xz =>
     cases hr : aa Φ ext f xz with
     | none => exact ⟨0, fun as' e => by cases e; rw [hr]; rfl⟩
     | some r =>
      obtain ⟨n, hn⟩ := lA.1 hr
      exact ⟨n, fun as' e => by cases e; rw [hr, hn]⟩
   obtain ⟨n, hn⟩ := this
   exact ⟨n, LQ hn, LG hn⟩
  | callD f args =>
   have : ∃ n, ∀ xz, aB σ.h (args.map (Opd.ev σ)) = some xz → aa Φ ext f xz = run Φ ext n f xz := by
    cases hv : aB σ.h (args.map (Opd.ev σ)) with
    | none => exact ⟨0, fun xz e => by cases e⟩
    | some xz =>
     cases hr : aa Φ ext f xz with
     | none => exact ⟨0, fun as' e => by cases e; rw [hr]; rfl⟩
     | some r =>
      obtain ⟨n, hn⟩ := lA.1 hr
      exact ⟨n, fun as' e => by cases e; rw [hr, hn]⟩
   obtain ⟨n, hn⟩ := this
   exact ⟨n, rfl, Kh hn⟩
  | callV x args =>
   have : ∃ n, ∀ k caps xz, x.ev σ = .one (.fn k caps) → aB σ.h (args.map (Opd.ev σ)) = some xz → aa Φ ext k (xz ++ caps.map qL) = run Φ ext n k (xz ++ caps.map qL) := by
    by_cases hx : ∃ k caps, x.ev σ = .one (.fn k caps)
    ·obtain ⟨k, caps, hx⟩ := hx
     cases hv : aB σ.h (args.map (Opd.ev σ)) with
     | none => exact ⟨0, fun _ _ xz _ e => by cases e⟩
     | some xz =>
      cases hr : aa Φ ext k (xz ++ caps.map qL) with
      | none => exact ⟨0, fun k' caps' as' e1 e2 => by rw [hx] at e1; cases e1; cases e2; rw [hr]; rfl⟩
      | some r =>
       obtain ⟨n, hn⟩ := lA.1 hr
       exact ⟨n, fun k' caps' as' e1 e2 => by rw [hx] at e1; cases e1; cases e2; rw [hr, hn]⟩
    ·exact ⟨0, fun k caps _ e => absurd ⟨k, caps, e⟩ hx⟩
   obtain ⟨n, hn⟩ := this
   exact ⟨n, Kx hn, rfl⟩
  | _ => exact ⟨0, rfl, rfl⟩
 obtain ⟨n, h1, h2⟩ := key
 refine ⟨n, ?_⟩
 unfold bg at *
 rw [← h1, ← h2]
 exact h
theorem zL : ∀ {oos : List AOper} {σ σ' : St}, am (aa Φ ext) oos σ = some σ' → ∃ n, am (run Φ ext n) oos σ = some σ'
 | [], _, _, h => ⟨0, h⟩
 | o :: oos, σ, σ', h => by
  unfold am at h
  split at h
  ·rename_i σ1 h1
   obtain ⟨n, hn⟩ := K2 h1
   obtain ⟨m, hm⟩ := zL h
   refine ⟨max n m, ?_⟩
   unfold am
   rw [CQ (rh (Nat.le_max_left n m)) hn]
   exact rV (rh (Nat.le_max_right n m)) hm
  ·cases h
theorem Kv : ∀ {c : ACode} {σ : St} {x : Ex × St}, aq (aa Φ ext) ah c σ = some x → ∃ n, aq (run Φ ext n) (gE n) c σ = some x := by
 have up : ∀ {c : ACode} {σ : St} {x : Ex × St} {n m : Nat}, n ≤ m → aq (run Φ ext n) (gE n) c σ = some x → aq (run Φ ext m) (gE m) c σ = some x := fun hnm h => Eg (rh hnm) (re hnm) h
 intro c
 induction c with
 | skip => intro σ x h; exact ⟨0, h⟩
 | region ops =>
  intro σ x h
  simp only [aq] at h
  split at h
  ·rename_i σ1 h1
   obtain ⟨n, hn⟩ := zL h1
   exact ⟨n, by simp only [aq, hn]; exact h⟩
  ·cases h
 | seq a b iha ihb =>
  intro σ x h
  simp only [aq] at h
  split at h
  ·rename_i σ1 h1
   obtain ⟨n, hn⟩ := iha h1
   obtain ⟨m, hm⟩ := ihb h
   exact ⟨max n m, by simp only [aq, up (Nat.le_max_left n m) hn]; exact up (Nat.le_max_right n m) hm⟩
  ·rename_i hne
   obtain ⟨n, hn⟩ := iha h
   refine ⟨n, ?_⟩
   simp only [aq, hn]
   obtain ⟨e, σ2⟩ := x
   cases e with
   | normal => exact absurd h (hne σ2)
   | _ => rfl
 | cond c a b iha ihb =>
  intro σ x h
  simp only [aq] at h
  split at h
  ·rename_i t ht
   cases t with
   | true => obtain ⟨n, hn⟩ := iha h; exact ⟨n, by simp only [aq, ht]; exact hn⟩
   | false => obtain ⟨n, hn⟩ := ihb h; exact ⟨n, by simp only [aq, ht]; exact hn⟩
  ·cases h
 | block id c ih =>
  intro σ x h
  simp only [aq] at h
  split at h
  ·rename_i i σ1 h1
   obtain ⟨n, hn⟩ := ih h1
   exact ⟨n, by simp only [aq, hn]; exact h⟩
  ·rename_i hne
   obtain ⟨n, hn⟩ := ih h
   refine ⟨n, ?_⟩
   simp only [aq, hn]
   obtain ⟨e, σ2⟩ := x
   cases e with
   | exit i => exact absurd h (hne i σ2)
   | _ => rfl
 | loop c ih =>
  intro σ x h
  simp only [aq] at h
  obtain ⟨m, hm⟩ := lQ.1 h
  clear h
  induction m generalizing σ with
  | zero => simp [gE] at hm
  | succ m ihm =>
   simp only [gE] at hm
   split at hm
   ·rename_i σ1 h1
    obtain ⟨n, hn⟩ := ih h1
    obtain ⟨p, hp⟩ := ihm hm
    refine ⟨max n p + 1, ?_⟩
    simp only [aq] at hp ⊢
    rw [vW (up (show n ≤ max n p + 1 by omega) hn)]
    exact re (show p ≤ max n p by omega) _ _ _ _ (fun σ x hx => up (show p ≤ max n p + 1 by omega) hx) hp
   ·rename_i hne
    obtain ⟨n, hn⟩ := ih hm
    refine ⟨n + 1, ?_⟩
    obtain ⟨e, σ2⟩ := x
    simp only [aq]
    refine zg (up (show n ≤ n + 1 by omega) hn) (fun e1 => ?_)
    subst e1
    exact hne σ2 hm
 | exit id => intro σ x h; exact ⟨0, h⟩
 | ret => intro σ x h; exact ⟨0, h⟩
theorem aH {k : Nat} {fn : AFn} {xz : List V} {r : V} (hk : Φ k = some fn) (h : done fn (eM Φ ext fn.body (bW fn xz)) = some r) : aa Φ ext k xz = some r := by
 cases hx : eM Φ ext fn.body (bW fn xz) with
 | none => rw [hx] at h; simp [done] at h
 | some x =>
  obtain ⟨n, hn⟩ := Kv hx
  refine lA.2 ⟨n + 1, ?_⟩
  simp only [run, hk, hn]
  rw [hx] at h
  exact h
theorem J5 {k : Nat} {xz : List V} {r : V} (hk : Φ k = none) (h : ext k xz = some r) : aa Φ ext k xz = some r :=
 lA.2 ⟨1, by simp only [run, hk]; exact h⟩
theorem GA {Γ : Ctx} {P : Program} (im : Impl Γ P kf Φ ext) {f k : Nat} {xz : List V} {r : V} (hk : kf f = some k) (h : aa Φ ext k xz = some r) : Bf Γ P f xz r := by
 obtain ⟨n, hn⟩ := lA.1 h
 exact KU im n f k xz r hk hn
end
end Gi
namespace Gi
open Go Go.RowKit
variable {KI : KF}
inductive PTy where
 | int (k : IntKind)
 | bool
 | str
 | lst (ts : List PTy)
mutual
def bR : PTy → PV → Prop
 | .int k, .int k' n => k' = k ∧ (Lit.int k n).wf = true
 | .bool, .bool _ => True
 | .str, .str s => s.length ≤ maxLen
 | .lst ts, .lst rows => rows.length ≤ maxLen ∧ ∀ r ∈ rows, be ts r
 | _, _ => False
def be : List PTy → List PV → Prop
 | [], [] => True
 | t :: ts, p :: ps => bR t p ∧ be ts ps
 | _, _ => False
end
def wW (P : Program) (g : TypeId → Option (List PTy)) : List Field → List PTy → Option (List PTy)
 | [], acc => some acc
 | f :: fs, acc => match g f.type with
  | some us => if f.offset = acc.length ∧ P.cellsOf f.type = us.length then wW P g fs (acc ++ us) else none
  | none => none
def flatT (P : Program) : Nat → TypeId → Option (List PTy)
 | 0, _ => none
 | n + 1, t => match P.underlying t with
  | some .bool => some [.bool]
  | some (.int k) => some [.int k]
  | some .string => some [.str]
  | some (.slice e) => match flatT P n e with
   | some ts => if ts.isEmpty || P.cellsOf e != ts.length then none else some [.lst ts]
   | none => none
  | some (.struct fs) => match wW P (flatT P n) fs.toList [] with
   | some ts => if P.cellsOf t = ts.length then some ts else none
   | none => none
  | _ => none
theorem be.len : ∀ {ts : List PTy} {ps : List PV}, be ts ps → ts.length = ps.length
 | [], [], _ => rfl
 | _ :: _, _ :: _, h => by simp only [be] at h; simp [be.len h.2]
 | [], _ :: _, h => by simp [be] at h
 | _ :: _, [], h => by simp [be] at h
theorem be.append : ∀ {ts us : List PTy} {ps qs : List PV}, be ts ps → be us qs → be (ts ++ us) (ps ++ qs)
 | [], _, [], _, _, h => h
 | _ :: _, _, _ :: _, _, h, k => by
  simp only [be, List.cons_append] at h ⊢
  exact ⟨h.1, be.append h.2 k⟩
 | [], _, _ :: _, _, h, _ => by simp [be] at h
 | _ :: _, _, [], _, h, _ => by simp [be] at h
def Nh (w : World) (ps : List PV) (cs : List Value) : Prop := ps.length = cs.length ∧ ∀ (i : Nat) (p : PV) (c : Value), ps[i]? = some p → cs[i]? = some c → aV (fun _ => False) w p c
theorem Nh.append {w : World} {ps qs : List PV} {cs ds : List Value} (h : Nh w ps cs) (k : Nh w qs ds) : Nh w (ps ++ qs) (cs ++ ds) := by
 refine ⟨by simp [h.1, k.1], fun i p c hp hc => ?_⟩
 by_cases hi : i < ps.length
 ·rw [List.getElem?_append_left hi] at hp
  rw [List.getElem?_append_left (by rw [← h.1]; exact hi)] at hc
  exact h.2 i p c hp hc
 ·rw [List.getElem?_append_right (by omega)] at hp
  rw [List.getElem?_append_right (by rw [← h.1]; omega), ← h.1] at hc
  exact k.2 _ p c hp hc
theorem Jb {H : Type} {enc : TypeId × Value → H} {P : Program} {w : World} : ∀ (fuel n : Nat) (t : TypeId) (cs : List Value) (d : DataW H) (ps : List MemPlace) (ts : List PTy), DataW.trod enc P w 0 (fun _ => true) true fuel t cs = some (d, ps) → flatT P n t = some ts →
 ∃ qs : List PV, be ts qs ∧ Nh w qs cs := by
 intro fuel
 induction fuel with
 | zero => intro n t cs d ps ts h; simp [DataW.trod] at h
 | succ fuel ih =>
  intro n t cs d ps ts h ht
  cases n with
  | zero => simp [flatT] at ht
  | succ n =>
   have one : ∀ {p : PV} {c : Value}, aV (fun _ => False) w p c → Nh w [p] [c] := fun {p c} hr => ⟨rfl, fun i p' c' hp hc => by
    cases i with
    | zero => simp at hp hc; subst hp; subst hc; exact hr
    | succ i => simp at hp⟩
   unfold flatT at ht
   split at ht
   ·rename_i hu
    cases ht
    obtain ⟨b, rfl, _⟩ := DataW.trod_bool hu h
    exact ⟨[.bool b], by simp [be, bR], one (by simp [aV])⟩
   ·rename_i k hu
    cases ht
    obtain ⟨m, rfl, _, hwf⟩ := DataW.trod_int hu h
    exact ⟨[.int k m], by simp [be, bR, hwf], one (by simp [aV])⟩
   ·rename_i hu
    cases ht
    obtain ⟨s, rfl, _, hs⟩ := DataW.trod_string hu h
    exact ⟨[.str s.data.toList], by simp only [be, bR, and_true]; exact hs, one (by simp [aV])⟩
   ·rename_i e hu
    split at ht
    ·rename_i us hus
     split at ht
     ·cases ht
     ·rename_i hne
      cases ht
      simp only [Bool.or_eq_true, List.isEmpty_iff, bne_iff_ne, ne_eq, not_or, Decidable.not_not] at hne
      obtain ⟨hne1, hne2⟩ := hne
      rcases DataW.trod_slice hu h with ⟨rfl, _⟩ | ⟨ad, len, cap, elems, rest, m, em, rfl, _, _, hlc, hcm, hel, hat, _, _⟩
      ·exact ⟨[.lst []], by simp [be, bR], one (by simp only [aV]; exact .inl ⟨by trivial, _, _, rfl⟩)⟩
      ·obtain rfl : m = fuel := by omega
       have hpos : 0 < us.length := List.length_pos_iff.2 hne1
       have hspot0 : 0 < len → ad.spot = none := by
        intro hl
        have hx := hat 0 hl
        have hxe : elems[0]? = some (elems[0]'(by omega)) := by simp [show 0 < elems.length by omega]
        rw [hxe] at hx
        cases hcs : w.cells? 0 (ad.add (0 * P.cellsOf e)) (P.cellsOf e) with
        | none => rw [hcs] at hx; simp at hx
        | some ccs =>
         obtain ⟨_, c2, c3⟩ := World.cells?_some hcs
         rw [hne2] at c2 c3
         have h0 := c3 0 hpos
         have hc0 : ccs[0]? = some (ccs[0]'(by omega)) := by simp [show 0 < ccs.length by omega]
         rw [hc0] at h0
         have hadd0 : (ad.add (0 * us.length)).add 0 = ad := by simp [Addr.add]
         rw [hadd0] at h0
         exact World.cell?_spot h0
       have hrow : ∀ i, i < len → ∃ q : List PV, be us q ∧ fQ (fun _ => False) w q ad.block (ad.off + i * us.length) ∧ ad.spot = none ∧ ad.block < w.heap.size := by
        intro i hi
        have hx := hat i hi
        have hxe : elems[i]? = some (elems[i]'(by omega)) := by simp [show i < elems.length by omega]
        rw [hxe] at hx
        cases hcs : w.cells? 0 (ad.add (i * P.cellsOf e)) (P.cellsOf e) with
        | none => rw [hcs] at hx; simp at hx
        | some ccs =>
         rw [hcs] at hx
         simp only [Option.bind_some] at hx
         obtain ⟨q, g1, g2⟩ := ih n e ccs _ _ us hx hus
         obtain ⟨_, c2, c3⟩ := World.cells?_some hcs
         rw [hne2] at c2 c3
         have h0 := c3 0 hpos
         have hc0 : ccs[0]? = some (ccs[0]'(by omega)) := by simp [show 0 < ccs.length by omega]
         rw [hc0] at h0
         have hadd0 : (ad.add (i * us.length)).add 0 = ad.add (i * us.length) := by simp [Addr.add]
         rw [hadd0] at h0
         have hspot : ad.spot = none := hspot0 (by omega)
         have hb : ad.block < w.heap.size := by
          have := World.block_lt_of_cell? w _ h0
          have e2 : (ad.add (i * us.length)).block = ad.block := by unfold Addr.add; split <;> rfl
          rwa [e2] at this
         refine ⟨q, g1, fQ.of fun j p hp => ?_, hspot, hb⟩
         have hj : j < us.length := by rw [g1.len]; exact (List.getElem?_eq_some_iff.1 hp).1
         have hcj := c3 j hj
         have hcj' : ccs[j]? = some (ccs[j]'(by omega)) := by simp [show j < ccs.length by omega]
         rw [hcj'] at hcj
         refine ⟨_, ?_, g2.2 j p _ hp hcj'⟩
         rw [← hcj]
         congr 1
         obtain ⟨bb, oo, ss⟩ := ad
         simp only at hspot
         subst hspot
         rw [Addr.add_mid, Addr.add_mid]
       by_cases hl0 : len = 0
       ·subst hl0
        exact ⟨[.lst []], by simp [be, bR], one (by simp only [aV]; exact .inl ⟨by trivial, _, _, rfl⟩)⟩
       ·obtain ⟨rows, hrl, hrows⟩ : ∃ rows : List (List PV), rows.length = len ∧ ∀ i q, rows[i]? = some q → be us q ∧ fQ (fun _ => False) w q ad.block (ad.off + i * us.length) := by
         clear hat hel em h
         have : ∀ k, k ≤ len → ∃ rows : List (List PV), rows.length = k ∧ ∀ i q, rows[i]? = some q → be us q ∧ fQ (fun _ => False) w q ad.block (ad.off + i * us.length) := by
          intro k
          induction k with
          | zero => intro _; exact ⟨[], rfl, fun i q hq => by simp at hq⟩
          | succ k ihk =>
           intro hk
           obtain ⟨rows, r1, r2⟩ := ihk (by omega)
           obtain ⟨q, q1, q2, _⟩ := hrow k (by omega)
           refine ⟨rows ++ [q], by simp [r1], fun i q' hq' => ?_⟩
           by_cases hi : i < rows.length
           ·rw [List.getElem?_append_left hi] at hq'; exact r2 i q' hq'
           ·rw [List.getElem?_append_right (by omega)] at hq'
            have h1 := (List.getElem?_eq_some_iff.1 hq').1
            simp at h1
            have : i = k := by omega
            subst this
            rw [r1, Nat.sub_self] at hq'
            simp at hq'; subst hq'
            exact ⟨q1, q2⟩
         exact this len (Nat.le_refl _)
        obtain ⟨_, _, _, hspot, hb⟩ := hrow 0 (by omega)
        refine ⟨[.lst rows], ?_, one ?_⟩
        ·simp only [be, bR, and_true]
         refine ⟨by omega, fun r hr => ?_⟩
         obtain ⟨i, hi, rfl⟩ := List.getElem_of_mem hr
         exact (hrows i _ (List.getElem?_eq_getElem hi)).1
        ·simp only [aV]
         obtain ⟨bb, oo, ss⟩ := ad
         simp only at hspot hb hrows
         subst hspot
         refine .inr ⟨bb, oo, cap, us.length, by rw [hrl], fun h => h, hb, ep.of fun i q hq => ?_, by rw [hrl]; exact hlc⟩
         obtain ⟨g1, g2⟩ := hrows i q hq
         exact ⟨g1.len.symm, g2⟩
    ·cases ht
   ·rename_i fs hu
    split at ht
    ·rename_i ts' hts
     split at ht
     ·rename_i hcl
      cases ht
      obtain ⟨xs, m, em, _, hl, hxl, hf⟩ := DataW.trod_struct hu h
      obtain rfl : m = fuel := by omega
      have key : ∀ (fl : List Field) (acc out : List PTy) (k : Nat), (∀ j, fl[j]? = fs[k + j]?) → wW P (flatT P n) fl acc = some out → (∃ qs, be acc qs ∧ Nh w qs (cs.take acc.length)) → out.length ≤ cs.length → ∃ qs, be out qs ∧ Nh w qs (cs.take out.length) := by
       intro fl
       induction fl with
       | nil => intro acc out k _ ho hq _; simp [wW] at ho; subst ho; exact hq
       | cons f fl ihf =>
        intro acc out k hfl ho hq hle
        unfold wW at ho
        split at ho
        ·rename_i us hus
         split at ho
         ·rename_i hoff
          obtain ⟨ho1, ho2⟩ := hoff
          have hfk : fs[k]? = some f := by simpa using (hfl 0).symm
          have hx := hf k f hfk
          have hkx : k < xs.length := by rw [hxl]; exact (Array.getElem?_eq_some_iff.1 hfk).1
          have hx2 : xs[k]? = some xs[k] := by simp [hkx]
          rw [hx2] at hx
          obtain ⟨qs2, g1, g2⟩ := ih n f.type _ _ _ us hx hus
          obtain ⟨qs1, p1, p2⟩ := hq
          refine ihf (acc ++ us) out (k + 1) (fun j => by have := hfl (j + 1); simpa [Nat.add_assoc, Nat.add_comm 1 j] using this) ho ⟨qs1 ++ qs2, p1.append g1, ?_⟩ hle
          have e : cs.take (acc ++ us).length = cs.take acc.length ++ (cs.drop f.offset).take (P.cellsOf f.type) := by
           rw [ho1, ho2, List.length_append, List.take_add]
          rw [e]
          exact p2.append g2
         ·cases ho
        ·cases ho
      obtain ⟨qs, g1, g2⟩ := key fs.toList [] ts 0 (by simp) hts ⟨[], by simp [be], by simp [Nh]⟩ (by rw [hl, hcl]; exact Nat.le_refl _)
      refine ⟨qs, g1, ?_⟩
      rw [show ts.length = cs.length by rw [hl, hcl], List.take_length] at g2
      exact g2
     ·cases ht
    ·cases ht
   ·cases ht
def PF (g : Bool) (qs : List PV) : V := if g then .agg (qs.map .pv) else (match qs with | [q] => .one (.pv q) | _ => .tup [])
theorem JV {H : Type} {enc : TypeId × Value → H} {P : Program} {w : World} {t : TypeId} {v : Value} {d : DataW H} {ps : List MemPlace} {n : Nat} {ts : List PTy} {g : Bool} (h : DataW.Trod enc P w 0 (fun _ => true) true t v d ps) (ht : flatT P n t = some ts)
 (hg : (g = true ∧ ∃ cs, v = .agg cs) ∨ (g = false ∧ ts.length = 1 ∧ ∀ cs, v ≠ .agg cs)) : ∃ qs, be ts qs ∧ VR (fun _ => False) w [] [] (PF g qs) v := by
 obtain ⟨fuel, hf⟩ := h
 obtain ⟨qs, h1, h2⟩ := Jb fuel n t _ d ps ts hf ht
 refine ⟨qs, h1, ?_⟩
 rcases hg with ⟨rfl, cs, rfl⟩ | ⟨rfl, hl, hv⟩
 ·refine ⟨cs, rfl, by simpa [Value.cells] using h2.1, fun i l c hl hc => ?_⟩
  simp only [List.getElem?_map, Option.map_eq_some_iff] at hl
  obtain ⟨q, hq, rfl⟩ := hl
  exact h2.2 i q c hq hc
 ·have hq1 : qs.length = 1 := by rw [← h1.len]; exact hl
  obtain ⟨q, rfl⟩ := List.length_eq_one_iff.1 hq1
  have hvc : v.cells = #[v] := by
   cases v with
   | agg cs => exact absurd rfl (hv cs)
   | _ => rfl
  rw [hvc] at h2
  exact h2.2 0 q v rfl rfl
theorem KL {Γ : Ctx} {P : Program} {Φ : Nat → Option AFn} {ext : Nat → List V → Option V} (im : Impl Γ P kf Φ ext) {f k : Nat} (hk : kf f = some k) {xz : List V} (h : aa Φ ext k xz = some (aj true)) {W : World} {args : Array Value} (hG : Γ.G W)
 (ha : uV (fun _ => False) W xz args.toList) : Calls P f args W fun e W' => e = .returned (.bool true) ∧ Below W.heap.size W W' := by
 obtain ⟨_, hs⟩ := GA im hk h
 refine (hs (fun _ => False) W args hG (fun _ h => h.elim) ha).mono fun e W' ⟨v, he, hb, hr⟩ => ?_
 obtain ⟨ρ', _, hv⟩ := hr
 have : v = .bool true := by simpa [thaw, thawL, VR, LR, aV] using hv
 exact ⟨by rw [he, this], hb⟩
end Gi
namespace Gi
open Go Go.RowKit
theorem tQ (f : St → Option (Ex × St)) (σ : St) : ah f σ = (match f σ with
 | some (.normal, σ') => ah f σ'
 | r => r) := by
 cases h : f σ with
 | none =>
  cases hl : ah f σ with
  | none => rfl
  | some r =>
   obtain ⟨n, hn⟩ := lQ.1 hl
   cases n with
   | zero => simp [gE] at hn
   | succ n => simp [gE, h] at hn
 | some x =>
  obtain ⟨e, σ'⟩ := x
  cases e with
  | normal => exact jD h
  | exit i => exact l8 h (by simp)
  | ret => exact l8 h (by simp)
def Fs : L → PV
 | .pv p => p
 | .own _ es => .lst es
 | _ => .lst []
theorem od (h : List AObj) : ∀ (ps : List PV), viewL h (ps.map .pv) = some ps
 | [] => rfl
 | p :: ps => by simp only [List.map_cons, viewL, L.view, od h ps]
theorem ub (h : List AObj) (ps : List PV) : V.view h (.agg (ps.map .pv)) = some (.agg (ps.map .pv)) := by simp only [V.view, od]
theorem PW (h : List AObj) (ps : List PV) : V.mut h (.agg (ps.map .pv)) = false := by
 simp only [V.mut, V.cells, List.any_eq_false]
 intro l hl
 obtain ⟨p, _, rfl⟩ := List.mem_map.1 hl
 simp [L.mut]
theorem xM : ∀ (ls : List L) (h : List AObj), ls.all L.clean = true → ∃ t, (thawL h ls).2 = h ++ t := fun ls h hc => (lj ls h hc).2.1
theorem M6 {h t : List AObj} {l : L} {p : PV} (e : l.view h = some p) : l.view (h ++ t) = some p := by
 cases l with
 | arr o =>
  simp only [L.view] at e ⊢
  have ho : o < h.length := by
   cases hh : h[o]? with
   | none => rw [hh] at e; cases e
   | some x => exact (List.getElem?_eq_some_iff.1 hh).1
  rw [List.getElem?_append_left ho]
  exact e
 | _ => exact e
theorem Lk {h t : List AObj} : ∀ {ls : List L} {ps : List PV}, viewL h ls = some ps → viewL (h ++ t) ls = some ps
 | [], ps, e => e
 | l :: ls, ps, e => by
  unfold viewL at e ⊢
  split at e
  ·rename_i p ps' h1 h2
   rw [M6 h1, Lk h2]
   exact e
  ·cases e
theorem uB : ∀ (ls : List L) (h : List AObj), ls.all L.clean = true → viewL (thawL h ls).2 (thawL h ls).1 = some (ls.map Fs)
 | [], h, _ => rfl
 | l :: ls, h, hc => by
  simp only [List.all_cons, Bool.and_eq_true] at hc
  cases l with
  | own z es =>
   simp only [thawL, List.map_cons, viewL]
   obtain ⟨t, ht⟩ := xM ls (h ++ [.arr z es]) hc.2
   rw [uB ls _ hc.2]
   have : L.view (thawL (h ++ [AObj.arr z es]) ls).2 (.arr h.length) = some (.lst es) := by
    rw [ht]
    simp [L.view]
   rw [this]
   rfl
  | pv p => simp only [thawL, List.map_cons, viewL, L.view, uB ls h hc.2]; rfl
  | nil => simp only [thawL, List.map_cons, viewL, L.view, uB ls h hc.2]; rfl
  | _ => simp [L.clean] at hc
theorem qh : ∀ (ls : List L) (h : List AObj) (o : Nat), ls.all L.clean = true → o < h.length → (thawL h ls).1.all (L.notArr o) = true
 | [], _, _, _, _ => rfl
 | l :: ls, h, o, hc, ho => by
  simp only [List.all_cons, Bool.and_eq_true] at hc
  cases l with
  | own z es =>
   simp only [thawL, List.all_cons, Bool.and_eq_true]
   exact ⟨by simp [L.notArr]; omega, qh ls _ o hc.2 (by simp; omega)⟩
  | pv p => simp only [thawL, List.all_cons, Bool.and_eq_true]; exact ⟨rfl, qh ls h o hc.2 ho⟩
  | nil => simp only [thawL, List.all_cons, Bool.and_eq_true]; exact ⟨rfl, qh ls h o hc.2 ho⟩
  | _ => simp [L.clean] at hc
theorem CD {α : Type} (a b : List α) (h : a.length = b.length) : putAt a 0 b = b := by
 simp [putAt, h.symm]
theorem zO (h : List AObj) : ∀ (ps : List PV), freezeLs h (ps.map .pv) = h
 | [] => rfl
 | p :: ps => by
  show freezeLs (freezeL h (.pv p)) (ps.map .pv) = h
  exact zO h ps
theorem zP (h : List AObj) (ps : List PV) : freezeVs h [.agg (ps.map .pv)] = h := zO h ps
theorem KP (o : Nat) (ps : List PV) : (ps.map L.pv).all (L.notArr o) = true := by
 simp [L.notArr]
theorem Ez {h' : List AObj} {z k : Nat} {es : List (List PV)} {e r : List PV} {ls' : List L} (h0 : h'[0]? = some (.arr z es)) (he : es[k]? = some e) (hez : e.length = z) (hv : viewL h' ls' = some r) (hl : ls'.length = z) (hna : ls'.all (L.notArr 0) = true) :
 ∃ h'', bS h' z (.one (.ptr 0 k 0)) (.agg ls') = some (.arr z (es.set k r) :: h'') := by
 have hk := u0 ls' h' hna h0
 cases hf : freezeLs h' ls' with
 | nil => rw [hf] at hk; simp at hk
 | cons x h'' =>
  rw [hf] at hk
  simp at hk
  subst hk
  refine ⟨h'', ?_⟩
  have hrl : r.length = z := by rw [(rz hv).1]; exact hl
  simp only [bS, V.cells, hl, if_true, h0, he, hv, hf]
  rw [if_pos ⟨by omega, hna⟩, CD e r (by omega)]
  rfl
theorem LM {rows : List (List PV)} {k m : Nat} {zero : List PV} (h : k + (m + 1) = rows.length) : (rows.take k ++ List.replicate (m + 1) zero)[k]? = some zero := by
 rw [List.getElem?_append_right (by simp; omega), List.getElem?_replicate]
 rw [if_pos (by simp; omega)]
theorem Ik {rows : List (List PV)} {k m : Nat} {zero : List PV} (h : k + (m + 1) = rows.length) : (rows.take k ++ List.replicate (m + 1) zero).set k (rows[k]'(by omega)) = rows.take (k + 1) ++ List.replicate m zero := by
 have hk : k < rows.length := by omega
 rw [List.set_append_right _ _ (by simp; omega)]
 have : k - (rows.take k).length = 0 := by simp; omega
 rw [this, List.replicate_succ, List.set_cons_zero, List.take_succ_eq_append_getElem hk, List.append_assoc]
 rfl
section
variable {Φ : Nat → Option AFn} {ext : Nat → List V → Option V}
def G4 (i a t0 : Nat) : ACode := .seq (.region [⟨some t0, .mv (.tmp i), none⟩, ⟨some (t0 + 1), .mv (.tmp a), none⟩, ⟨some (t0 + 2), .len (.tmp (t0 + 1)), none⟩, ⟨some (t0 + 3), .bin .lss (.tmp t0) (.tmp (t0 + 2)), none⟩]) (.cond (.tmp (t0 + 3)) .skip (.exit 0))
def Lm (i t0 : Nat) : ACode := .region [⟨some t0, .mv (.tmp i), none⟩, ⟨some (t0 + 1), .bin .add (.tmp t0) (.pv (.int .i64 1)), none⟩, ⟨some i, .mv (.tmp (t0 + 1)), none⟩]
def uD (z kx : Nat) (fl : Bool) : ACode := .seq (G4 4 0 8) (.seq (.block 1 (.region [⟨some 14, .mv (.tmp 3), none⟩, ⟨some 15, .mv (.tmp 4), none⟩, ⟨some 16, .mv (.tmp 0), none⟩, ⟨some 17, .mv (.tmp 4), none⟩, ⟨some 18, .indexA z (.tmp 16) (.tmp 17), none⟩, ⟨some 19, .load true z (.tmp 18), none⟩, ⟨some 20, .call kx [.tmp 19] fl false, none⟩, ⟨some 21, .indexA z (.tmp 14) (.tmp 15), none⟩, ⟨none, .store z (.tmp 21) (.tmp 20), none⟩])) (Lm 4 12))
def Gd (bytes z kx : Nat) (zero : List PV) (fl : Bool) : AFn := ⟨23, [.tmp 2], .seq (.region [⟨some 2, .mv .nil, none⟩]) (.seq (.region [⟨some 5, .mv (.tmp 0), none⟩, ⟨some 6, .len (.tmp 5), none⟩, ⟨some 7, .make bytes zero (.tmp 6), none⟩, ⟨some 3, .mv (.tmp 7), none⟩]) (.seq (.seq (.region [⟨some 4, .mv (.pv (.int .i64 0)), none⟩]) (.block 0 (.loop (uD z kx fl)))) (.seq (.region [⟨some 22, .mv (.tmp 3), none⟩, ⟨some 2, .mv (.tmp 22), none⟩]) .ret)))⟩
theorem ag {k : Nat} (h : k < 9223372036854775807) : IntKind.i64.wrap ((k : Int) + 1) = (k : Int) + 1 := by
 rw [IntKind.wrap_i64]; omega
def Lp (Φ : Nat → Option AFn) (ext : Nat → List V → Option V) (kx : Nat) (fl : Bool) (r : List PV) : Prop :=
 ∃ ls, aa Φ ext kx [.agg (r.map .pv)] = some (.agg ls) ∧ ls.all L.clean = true ∧ ls.map Fs = r ∧ (fl = true → ls = r.map .pv ∧ ls.all L.flat = true)
theorem MZ {z kx : Nat} {fl : Bool} {zero : List PV} {rows : List (List PV)} (hz : ∀ r ∈ rows, r.length = z) (hzero : zero.length = z) (hlen : rows.length ≤ maxLen) (hcp : ∀ r ∈ rows, Lp Φ ext kx fl r) : ∀ (m k : Nat), k + m = rows.length →
 ∀ (u1 u2 u5 u6 u7 x8 x9 x10 x11 x12 x13 x14 x15 x16 x17 x18 x19 x20 x21 u22 : V) (extra : List AObj),
  ∃ t' h', ah (aq (aa Φ ext) ah (uD z kx fl)) ⟨[bJ rows, u1, u2, .one (.arr 0), ae .i64 k, u5, u6, u7, x8, x9, x10, x11, x12, x13, x14, x15, x16, x17, x18, x19, x20, x21, u22], .arr z (rows.take k ++ List.replicate m zero) :: extra⟩ = some (.exit 0, ⟨t', .arr z rows :: h'⟩) ∧ t'.length = 23 ∧ t'[3]? = some (.one (.arr 0)) := by
 intro m
 induction m with
 | zero =>
  intro k hk u1 u2 u5 u6 u7 x8 x9 x10 x11 x12 x13 x14 x15 x16 x17 x18 x19 x20 x21 u22 extra
  have hk' : k = rows.length := by omega
  subst hk'
  rw [tQ]
  simp [uD, G4, aq, am, bg, bt, cF, Opd.ev, put, asList, L.view, bin, bf, isBool]
 | succ m ih =>
  intro k hk u1 u2 u5 u6 u7 x8 x9 x10 x11 x12 x13 x14 x15 x16 x17 x18 x19 x20 x21 u22 extra
  have hlt : k < rows.length := by omega
  have hr : rows[k]? = some rows[k] := by simp [hlt]
  have hrz : (rows[k]).length = z := hz _ (List.getElem_mem hlt)
  obtain ⟨ls, c1, c2, c3, c4⟩ := hcp _ (List.getElem_mem hlt)
  have hw := ag (k := k) (by unfold maxLen at hlen; omega)
  have hcut : hJ true z 0 ((rows[k]).map L.pv) = some (.agg ((rows[k]).map .pv)) := by
   simp [hJ, hrz, List.take_of_length_le (show ((rows[k]).map L.pv).length ≤ z by simp [hrz])]
  have hlt' : decide ((k : Int) < (rows.length : Int)) = true := by simpa using hlt
  have hmin : k < min k rows.length + (m + 1) := by omega
  have hcast : ((k + 1 : Nat) : Int) = (k : Int) + 1 := by omega
  cases fl with
  | true =>
   obtain ⟨rfl, hfl⟩ := c4 rfl
   obtain ⟨h'', hst⟩ := Ez (h' := .arr z (rows.take k ++ List.replicate (m + 1) zero) :: extra) (k := k) (r := rows[k]) (ls' := (rows[k]).map .pv) rfl (LM (by omega)) hzero (od _ _) (by simp [hrz]) (KP _ _)
   rw [Ik (by omega)] at hst
   have hset : ((rows[k]).map L.pv).map dJ = (rows[k]).map L.pv := by simp [dJ]
   have key := ih (k + 1) (by omega) u1 u2 u5 u6 u7 (ae .i64 k) (bJ rows) (ae .i64 rows.length) (aj true) (ae .i64 k) (ae .i64 ((k : Int) + 1)) (.one (.arr 0)) (ae .i64 k) (bJ rows) (ae .i64 k) (.one (.ip rows[k] 0)) (.agg ((rows[k]).map .pv)) (.agg ((rows[k]).map .pv)) (.one (.ptr 0 k 0)) u22 h''
   obtain ⟨t', h', e1, e2, e3⟩ := key
   refine ⟨t', h', (jD ?_).trans e1, e2, e3⟩
   rw [hcast]
   simp [uD, G4, Lm, aq, am, bg, bt, cF, dN, Opd.ev, put, asList, L.view, bin, bf, isBool, isInt, hlt, bm, hrz, bz, hcut, aB, ub, c1, V.flat, hfl, dX, hset, hst, hw, hmin]
  | false =>
   obtain ⟨t, ht⟩ := xM ls (.arr z (rows.take k ++ List.replicate (m + 1) zero) :: extra) c2
   have hv := uB ls (.arr z (rows.take k ++ List.replicate (m + 1) zero) :: extra) c2
   have hna := qh ls (.arr z (rows.take k ++ List.replicate (m + 1) zero) :: extra) 0 c2 (by simp)
   have hll := (lj ls (.arr z (rows.take k ++ List.replicate (m + 1) zero) :: extra) c2).1
   have hlz : ls.length = z := by rw [← hrz, ← c3]; simp
   rw [c3] at hv
   generalize hth : thawL (.arr z (rows.take k ++ List.replicate (m + 1) zero) :: extra) ls = th at *
   obtain ⟨ls', h1⟩ := th
   simp only at ht hv hna hll
   obtain ⟨h'', hst⟩ := Ez (h' := h1) (k := k) (r := rows[k]) (ls' := ls') (by rw [ht]; rfl) (LM (by omega)) hzero hv (by rw [hll, hlz]) hna
   rw [Ik (by omega)] at hst
   have hh0 : h1[0]? = some (.arr z (rows.take k ++ List.replicate (m + 1) zero)) := by rw [ht]; rfl
   have key := ih (k + 1) (by omega) u1 u2 u5 u6 u7 (ae .i64 k) (bJ rows) (ae .i64 rows.length) (aj true) (ae .i64 k) (ae .i64 ((k : Int) + 1)) (.one (.arr 0)) (ae .i64 k) (bJ rows) (ae .i64 k) (.one (.ip rows[k] 0)) (.agg ((rows[k]).map .pv)) (.agg ls') (.one (.ptr 0 k 0)) u22 h''
   obtain ⟨t', h', e1, e2, e3⟩ := key
   refine ⟨t', h', (jD ?_).trans e1, e2, e3⟩
   rw [hcast]
   simp [uD, G4, Lm, aq, am, bg, bt, cF, dN, Opd.ev, put, asList, L.view, bin, bf, isBool, isInt, hlt, bm, hrz, bz, hcut, aB, ub, c1, thaw, hth, zP, hh0, hst, hw, hmin]
theorem OL {k bytes z kx : Nat} {fl : Bool} {zero : List PV} {rows : List (List PV)} (hk : Φ k = some (Gd bytes z kx zero fl)) (hz : ∀ r ∈ rows, r.length = z) (hz0 : 0 < z) (hzero : zero.length = z) (hlen : rows.length ≤ maxLen) (hb : (rows.length : Int) * bytes ≤ 140737488355328) (hcp : ∀ r ∈ rows, Lp Φ ext kx fl r) :
 aa Φ ext k [bJ rows] = some (.one (.own z rows)) := by
 refine aH hk ?_
 obtain ⟨t', h', e1, e2, e3⟩ := MZ (Φ := Φ) (ext := ext) hz hzero hlen hcp rows.length 0 (by omega) (.tup []) (.one .nil) (bJ rows) (ae .i64 rows.length) (.one (.arr 0)) (.tup []) (.tup []) (.tup []) (.tup []) (.tup []) (.tup []) (.tup []) (.tup []) (.tup []) (.tup []) (.tup []) (.tup []) (.tup []) (.tup []) (.tup []) []
 simp only [List.take_zero, List.nil_append, show ((0 : Nat) : Int) = 0 from rfl] at e1
 have hl63 : (rows.length : Int) ≤ 9223372036854775807 := by unfold maxLen at hlen; omega
 obtain ⟨_, e4⟩ := List.getElem?_eq_some_iff.1 e3
 generalize hF : aq (aa Φ ext) ah (uD z kx fl) = F at e1
 simp [Gd, bW, eM, aq, hF, am, bg, bt, cF, dN, Opd.ev, put, asList, L.view, isInt, hb, hl63, hzero, hz0, e1, done, bC, aC, aT, cj, comp, bq, bZ, a8, e2, e4, V.cells]
def wi (t0 : Nat) : List AOper := [⟨some t0, .mv (.tmp 1), none⟩, ⟨some (t0 + 1), .mv (.tmp 0), none⟩, ⟨some (t0 + 2), .len (.tmp (t0 + 1)), none⟩, ⟨some (t0 + 3), .bin .sub (.tmp t0) (.tmp (t0 + 2)), none⟩, ⟨some 1, .mv (.tmp (t0 + 3)), none⟩]
def sf (t0 : Nat) : ACode := .seq (.region [⟨some t0, .mv (.tmp 1), none⟩, ⟨some (t0 + 1), .bin .lss (.tmp t0) (.pv (.int .i64 0)), none⟩]) (.cond (.tmp (t0 + 1)) (.seq (.region [⟨some 4, .mv (.pv (.int .i64 (-1))), none⟩]) .ret) .skip)
def sw (z kx : Nat) : ACode := .seq (G4 5 0 12) (.seq (.block 1 (.seq (.region [⟨some 18, .mv (.tmp 0), none⟩, ⟨some 19, .mv (.tmp 5), none⟩, ⟨some 20, .indexA z (.tmp 18) (.tmp 19), none⟩, ⟨some 21, .load true z (.tmp 20), none⟩, ⟨some 22, .mv (.tmp 1), none⟩, ⟨some 23, .call kx [.tmp 21, .tmp 22] true false, none⟩, ⟨some 1, .mv (.tmp 23), none⟩]) (sf 24))) (Lm 5 16))
def FY (z kx : Nat) : AFn := ⟨27, [.tmp 4], .seq (.region [⟨some 4, .mv (.pv (.int .i64 0)), none⟩]) (.seq (.region (wi 6)) (.seq (sf 10) (.seq (.seq (.region [⟨some 5, .mv (.pv (.int .i64 0)), none⟩]) (.block 0 (.loop (sw z kx)))) (.seq (.region [⟨some 26, .mv (.tmp 1), none⟩, ⟨some 4, .mv (.tmp 26), none⟩]) .ret))))⟩
def Od : AFn := ⟨12, [.tmp 4], .seq (.region [⟨some 4, .mv (.pv (.int .i64 0)), none⟩]) (.seq (.region (wi 5)) (.seq (sf 9) (.seq (.region [⟨some 11, .mv (.tmp 1), none⟩, ⟨some 4, .mv (.tmp 11), none⟩]) .ret)))⟩
mutual
def sz : PV → Nat
 | .str s => s.length
 | .lst rows => rows.length + ej rows
 | _ => 0
def gO : List PV → Nat
 | [] => 0
 | p :: ps => sz p + gO ps
def ej : List (List PV) → Nat
 | [] => 0
 | r :: rs => gO r + ej rs
end
def eI (left : Int) (n : Nat) : Int := if left < n then -1 else left - n
def mh (Φ : Nat → Option AFn) (ext : Nat → List V → Option V) (kx : Nat) (r : List PV) : Prop :=
 ∀ left : Int, 0 ≤ left → left ≤ 1048576 → aa Φ ext kx [.agg (r.map .pv), ae .i64 left] = some (ae .i64 (eI left (gO r)))
theorem rc {left : Int} {a b : Nat} (h : 0 ≤ eI left a) : eI (eI left a) b = eI left (a + b) := by
 unfold eI at *
 split at h
 ·omega
 ·rename_i h1
  rw [if_neg h1]
  by_cases h2 : left - (a : Int) < b
  ·rw [if_pos h2, if_pos (by omega)]
  ·rw [if_neg h2, if_neg (by omega)]; omega
theorem Hd {left : Int} {a b : Nat} (h0 : 0 ≤ left) (h : eI left a < 0) : eI left (a + b) = -1 := by
 unfold eI at *
 split at h
 ·rw [if_pos (by omega)]
 ·omega
theorem OG {k : Nat} {rows : List (List PV)} (hk : Φ k = some Od) (hlen : rows.length ≤ maxLen) {left : Int} (h0 : 0 ≤ left) (h1 : left ≤ 1048576) : aa Φ ext k [bJ rows, ae .i64 left] = some (ae .i64 (eI left rows.length)) := by
 refine aH hk ?_
 have hw : IntKind.i64.wrap (left - rows.length) = left - rows.length := by unfold maxLen at hlen; rw [IntKind.wrap_i64]; omega
 by_cases hl : left < rows.length
 ·have : left - (rows.length : Int) < 0 := by omega
  simp [Od, wi, sf, bW, eM, aq, am, bg, bt, cF, Opd.ev, put, asList, L.view, bin, bf, isBool, hw, this, done, bC, aC, aT, cj, comp, bq, bZ, a8, V.cells, eI, hl]
 ·have : ¬ left - (rows.length : Int) < 0 := by omega
  simp [Od, wi, sf, bW, eM, aq, am, bg, bt, cF, Opd.ev, put, asList, L.view, bin, bf, isBool, hw, this, done, bC, aC, aT, cj, comp, bq, bZ, a8, V.cells, eI, hl]
end
end Gi
namespace Gi
open Go Go.RowKit
section
variable {Φ : Nat → Option AFn} {ext : Nat → List V → Option V}
theorem Jy {left : Int} {a : Nat} (h : eI left a < 0) (h0 : 0 ≤ left) : eI left a = -1 := by
 unfold eI at *
 split at h
 ·rename_i h1; rw [if_pos h1]
 ·omega
theorem Jz {left : Int} {a : Nat} (h0 : 0 ≤ left) : eI left a ≤ left := by
 unfold eI; split <;> omega
theorem Ac {rows : List (List PV)} {k : Nat} (h : k < rows.length) : ej (rows.drop k) = gO (rows[k]) + ej (rows.drop (k + 1)) := by
 rw [List.drop_eq_getElem_cons h, ej]
theorem MV {z kx : Nat} {rows : List (List PV)} (hz : ∀ r ∈ rows, r.length = z) (hlen : rows.length ≤ maxLen) (hcp : ∀ r ∈ rows, mh Φ ext kx r) : ∀ (m k : Nat), k + m = rows.length → ∀ (left : Int), 0 ≤ left → left ≤ 1048576 →
 ∀ (u2 u3 u4 u6 u7 u8 u9 u10 u11 x12 x13 x14 x15 x16 x17 x18 x19 x20 x21 x22 x23 x24 x25 u26 : V) (h : List AObj),
  ∃ e t', ah (aq (aa Φ ext) ah (sw z kx)) ⟨[bJ rows, ae .i64 left, u2, u3, u4, ae .i64 k, u6, u7, u8, u9, u10, u11, x12, x13, x14, x15, x16, x17, x18, x19, x20, x21, x22, x23, x24, x25, u26], h⟩ = some (e, ⟨t', h⟩) ∧ t'.length = 27 ∧
   ((e = .exit 0 ∧ 0 ≤ eI left (ej (rows.drop k)) ∧ t'[1]? = some (ae .i64 (eI left (ej (rows.drop k))))) ∨ (e = .ret ∧ eI left (ej (rows.drop k)) = -1 ∧ t'[4]? = some (ae .i64 (-1)))) := by
 intro m
 induction m with
 | zero =>
  intro k hk left h0 h1 u2 u3 u4 u6 u7 u8 u9 u10 u11 x12 x13 x14 x15 x16 x17 x18 x19 x20 x21 x22 x23 x24 x25 u26 h
  have hk' : k = rows.length := by omega
  subst hk'
  have hl0 : eI left (ej (rows.drop rows.length)) = left := by simp [ej, eI]; omega
  rw [hl0, tQ]
  refine ⟨.exit 0, [bJ rows, ae .i64 left, u2, u3, u4, ae .i64 rows.length, u6, u7, u8, u9, u10, u11, ae .i64 rows.length, bJ rows, ae .i64 rows.length, aj false, x16, x17, x18, x19, x20, x21, x22, x23, x24, x25, u26], ?_, rfl, .inl ⟨rfl, h0, rfl⟩⟩
  simp [sw, G4, aq, am, bg, bt, cF, Opd.ev, put, asList, L.view, bin, bf, isBool]
 | succ m ih =>
  intro k hk left h0 h1 u2 u3 u4 u6 u7 u8 u9 u10 u11 x12 x13 x14 x15 x16 x17 x18 x19 x20 x21 x22 x23 x24 x25 u26 h
  have hlt : k < rows.length := by omega
  have hrz : (rows[k]).length = z := hz _ (List.getElem_mem hlt)
  have c1 := hcp _ (List.getElem_mem hlt) left h0 h1
  have hw := ag (k := k) (by unfold maxLen at hlen; omega)
  have hcut : hJ true z 0 ((rows[k]).map L.pv) = some (.agg ((rows[k]).map .pv)) := by
   simp [hJ, hrz, List.take_of_length_le (show ((rows[k]).map L.pv).length ≤ z by simp [hrz])]
  have hcast : ((k + 1 : Nat) : Int) = (k : Int) + 1 := by omega
  rw [Ac hlt]
  by_cases hneg : eI left (gO rows[k]) < 0
  ·have e1 := Hd (b := ej (rows.drop (k + 1))) h0 hneg
   have e2 := Jy hneg h0
   rw [e1]
   rw [e2] at c1
   refine ⟨.ret, [bJ rows, ae .i64 (-1), u2, u3, ae .i64 (-1), ae .i64 k, u6, u7, u8, u9, u10, u11, ae .i64 k, bJ rows, ae .i64 rows.length, aj true, x16, x17, bJ rows, ae .i64 k, .one (.ip rows[k] 0), .agg ((rows[k]).map .pv), ae .i64 left, ae .i64 (-1), ae .i64 (-1), aj true, u26], ?_, rfl, .inr ⟨rfl, rfl, rfl⟩⟩
   refine l8 ?_ (by simp)
   simp [sw, G4, Lm, sf, aq, am, bg, bt, cF, Opd.ev, put, asList, L.view, bin, bf, isBool, isInt, hlt, bm, hrz, bz, hcut, aB, od, V.view, c1, V.flat, L.flat, dX, dJ]
  ·have hge : 0 ≤ eI left (gO rows[k]) := by omega
   obtain ⟨e, t', g1, g2, g3⟩ := ih (k + 1) (by omega) (eI left (gO rows[k])) hge (Int.le_trans (Jz h0) h1) u2 u3 u4 u6 u7 u8 u9 u10 u11 (ae .i64 k) (bJ rows) (ae .i64 rows.length) (aj true) (ae .i64 k) (ae .i64 ((k : Int) + 1)) (bJ rows) (ae .i64 k) (.one (.ip rows[k] 0)) (.agg ((rows[k]).map .pv)) (ae .i64 left) (ae .i64 (eI left (gO rows[k]))) (ae .i64 (eI left (gO rows[k]))) (aj false) u26 h
   rw [rc hge] at g3
   refine ⟨e, t', (jD ?_).trans g1, g2, g3⟩
   rw [hcast]
   simp [sw, G4, Lm, sf, aq, am, bg, bt, cF, Opd.ev, put, asList, L.view, bin, bf, isBool, isInt, hlt, bm, hrz, bz, hcut, aB, od, V.view, c1, V.flat, L.flat, dX, dJ, hw, hneg]
theorem OH {k z kx : Nat} {rows : List (List PV)} (hk : Φ k = some (FY z kx)) (hz : ∀ r ∈ rows, r.length = z) (hlen : rows.length ≤ maxLen) (hcp : ∀ r ∈ rows, mh Φ ext kx r) {left : Int} (h0 : 0 ≤ left) (h1 : left ≤ 1048576) :
 aa Φ ext k [bJ rows, ae .i64 left] = some (ae .i64 (eI left (rows.length + ej rows))) := by
 refine aH hk ?_
 have hw : IntKind.i64.wrap (left - rows.length) = left - rows.length := by unfold maxLen at hlen; rw [IntKind.wrap_i64]; omega
 by_cases hl : left < rows.length
 ·have hn : left - (rows.length : Int) < 0 := by omega
  have e : eI left (rows.length + ej rows) = -1 := by unfold eI; rw [if_pos (by omega)]
  rw [e]
  generalize hF : aq (aa Φ ext) ah (sw z kx) = F
  simp [FY, wi, sf, bW, eM, aq, hF, am, bg, bt, cF, Opd.ev, put, asList, L.view, bin, bf, isBool, hw, hn, done, bC, aC, aT, cj, comp, bq, bZ, a8, V.cells]
 ·have hn : ¬ left - (rows.length : Int) < 0 := by omega
  have hle : left - (rows.length : Int) = eI left rows.length := by unfold eI; rw [if_neg hl]
  obtain ⟨e, t', g1, g2, g3⟩ := MV (Φ := Φ) (ext := ext) hz hlen hcp rows.length 0 (by omega) (left - rows.length) (by omega) (by omega) (.tup []) (.tup []) (ae .i64 0) (ae .i64 left) (bJ rows) (ae .i64 rows.length) (ae .i64 (left - rows.length)) (ae .i64 (left - rows.length)) (aj false) (.tup []) (.tup []) (.tup []) (.tup []) (.tup []) (.tup []) (.tup []) (.tup []) (.tup []) (.tup []) (.tup []) (.tup []) (.tup []) (.tup []) (.tup []) []
  simp only [List.drop_zero, show ((0 : Nat) : Int) = 0 from rfl] at g1 g3
  have hls : eI (left - rows.length) (ej rows) = eI left (rows.length + ej rows) := by rw [hle]; exact rc (by rw [← hle]; omega)
  rw [hls] at g3
  generalize hF : aq (aa Φ ext) ah (sw z kx) = F at g1
  rcases g3 with ⟨rfl, g4, g5⟩ | ⟨rfl, g4, g5⟩
  ·obtain ⟨_, g6⟩ := List.getElem?_eq_some_iff.1 g5
   simp [FY, wi, sf, bW, eM, aq, hF, am, bg, bt, cF, Opd.ev, put, asList, L.view, bin, bf, isBool, hw, hn, done, bC, aC, aT, cj, comp, bq, bZ, a8, V.cells, g1, g2, g6]
  ·obtain ⟨_, g6⟩ := List.getElem?_eq_some_iff.1 g5
   simp [FY, wi, sf, bW, eM, aq, hF, am, bg, bt, cF, Opd.ev, put, asList, L.view, bin, bf, isBool, hw, hn, done, bC, aC, aT, cj, comp, bq, bZ, a8, V.cells, g1, g2, g6, g4]
def Mz : ACode := .seq (.region [⟨some 4, .mv (.pv (.bool false)), none⟩]) .ret
def gF (z kx : Nat) : ACode := .seq (G4 5 0 11) (.seq (.block 1 (.seq (.region [⟨some 17, .mv (.tmp 0), none⟩, ⟨some 18, .mv (.tmp 5), none⟩, ⟨some 19, .indexA z (.tmp 17) (.tmp 18), none⟩, ⟨some 20, .load true z (.tmp 19), none⟩, ⟨some 21, .mv (.tmp 1), none⟩, ⟨some 22, .mv (.tmp 5), none⟩, ⟨some 23, .indexA z (.tmp 21) (.tmp 22), none⟩, ⟨some 24, .load true z (.tmp 23), none⟩, ⟨some 25, .call kx [.tmp 20, .tmp 24] true true, none⟩, ⟨some 26, .un .not (.tmp 25), none⟩]) (.cond (.tmp 26) Mz .skip))) (Lm 5 15))
def oP : ACode := .seq (G4 5 0 11) (.seq (.block 1 (.seq (.region [⟨some 17, .mv (.tmp 0), none⟩, ⟨some 18, .mv (.tmp 5), none⟩, ⟨some 19, .indexA 1 (.tmp 17) (.tmp 18), none⟩, ⟨some 20, .load false 1 (.tmp 19), none⟩, ⟨some 21, .mv (.tmp 1), none⟩, ⟨some 22, .mv (.tmp 5), none⟩, ⟨some 23, .indexA 1 (.tmp 21) (.tmp 22), none⟩, ⟨some 24, .load false 1 (.tmp 23), none⟩, ⟨some 25, .bin .neq (.tmp 20) (.tmp 24), none⟩]) (.cond (.tmp 25) Mz .skip))) (Lm 5 15))
def oe (nt : Nat) (body : ACode) : AFn := ⟨nt, [.tmp 4], .seq (.region [⟨some 4, .mv (.pv (.bool false)), none⟩]) (.seq (.seq (.region [⟨some 6, .mv (.tmp 0), none⟩, ⟨some 7, .len (.tmp 6), none⟩, ⟨some 8, .mv (.tmp 1), none⟩, ⟨some 9, .len (.tmp 8), none⟩, ⟨some 10, .bin .neq (.tmp 7) (.tmp 9), none⟩]) (.cond (.tmp 10) Mz .skip)) (.seq (.seq (.region [⟨some 5, .mv (.pv (.int .i64 0)), none⟩]) (.block 0 (.loop body))) (.seq (.region [⟨some 4, .mv (.pv (.bool true)), none⟩]) .ret)))⟩
theorem LL {z kx : Nat} {rows : List (List PV)} (hz : ∀ r ∈ rows, r.length = z) (hlen : rows.length ≤ maxLen) (hcp : ∀ r ∈ rows, aa Φ ext kx [.agg (r.map .pv), .agg (r.map .pv)] = some (aj true)) : ∀ (m k : Nat), k + m = rows.length →
 ∀ (u2 u3 u4 u6 u7 u8 u9 u10 x11 x12 x13 x14 x15 x16 x17 x18 x19 x20 x21 x22 x23 x24 x25 x26 : V) (h : List AObj),
  ∃ t', ah (aq (aa Φ ext) ah (gF z kx)) ⟨[bJ rows, bJ rows, u2, u3, u4, ae .i64 k, u6, u7, u8, u9, u10, x11, x12, x13, x14, x15, x16, x17, x18, x19, x20, x21, x22, x23, x24, x25, x26], h⟩ = some (.exit 0, ⟨t', h⟩) ∧ t'.length = 27 := by
 intro m
 induction m with
 | zero =>
  intro k hk u2 u3 u4 u6 u7 u8 u9 u10 x11 x12 x13 x14 x15 x16 x17 x18 x19 x20 x21 x22 x23 x24 x25 x26 h
  have hk' : k = rows.length := by omega
  subst hk'
  refine ⟨[bJ rows, bJ rows, u2, u3, u4, ae .i64 rows.length, u6, u7, u8, u9, u10, ae .i64 rows.length, bJ rows, ae .i64 rows.length, aj false, x15, x16, x17, x18, x19, x20, x21, x22, x23, x24, x25, x26], l8 ?_ (by simp), rfl⟩
  simp [gF, G4, aq, am, bg, bt, cF, Opd.ev, put, asList, L.view, bin, bf, isBool]
 | succ m ih =>
  intro k hk u2 u3 u4 u6 u7 u8 u9 u10 x11 x12 x13 x14 x15 x16 x17 x18 x19 x20 x21 x22 x23 x24 x25 x26 h
  have hlt : k < rows.length := by omega
  have hrz : (rows[k]).length = z := hz _ (List.getElem_mem hlt)
  have c1 := hcp _ (List.getElem_mem hlt)
  have hw := ag (k := k) (by unfold maxLen at hlen; omega)
  have hcut : hJ true z 0 ((rows[k]).map L.pv) = some (.agg ((rows[k]).map .pv)) := by
   simp [hJ, hrz, List.take_of_length_le (show ((rows[k]).map L.pv).length ≤ z by simp [hrz])]
  have hcast : ((k + 1 : Nat) : Int) = (k : Int) + 1 := by omega
  obtain ⟨t', g1, g2⟩ := ih (k + 1) (by omega) u2 u3 u4 u6 u7 u8 u9 u10 (ae .i64 k) (bJ rows) (ae .i64 rows.length) (aj true) (ae .i64 k) (ae .i64 ((k : Int) + 1)) (bJ rows) (ae .i64 k) (.one (.ip rows[k] 0)) (.agg ((rows[k]).map .pv)) (bJ rows) (ae .i64 k) (.one (.ip rows[k] 0)) (.agg ((rows[k]).map .pv)) (aj true) (aj false) h
  refine ⟨t', (jD ?_).trans g1, g2⟩
  rw [hcast]
  simp [gF, G4, Lm, aq, am, bg, bt, cF, Opd.ev, put, asList, L.view, bin, bf, un, isBool, isInt, hlt, bm, hrz, bz, hcut, aB, od, V.view, c1, V.flat, L.flat, dX, dJ, hw]
theorem Ox {k z kx : Nat} {rows : List (List PV)} (hk : Φ k = some (oe 27 (gF z kx))) (hz : ∀ r ∈ rows, r.length = z) (hlen : rows.length ≤ maxLen) (hcp : ∀ r ∈ rows, aa Φ ext kx [.agg (r.map .pv), .agg (r.map .pv)] = some (aj true)) :
 aa Φ ext k [bJ rows, bJ rows] = some (aj true) := by
 refine aH hk ?_
 obtain ⟨t', g1, g2⟩ := LL (Φ := Φ) (ext := ext) hz hlen hcp rows.length 0 (by omega) (.tup []) (.tup []) (aj false) (bJ rows) (ae .i64 rows.length) (bJ rows) (ae .i64 rows.length) (aj false) (.tup []) (.tup []) (.tup []) (.tup []) (.tup []) (.tup []) (.tup []) (.tup []) (.tup []) (.tup []) (.tup []) (.tup []) (.tup []) (.tup []) (.tup []) (.tup []) []
 simp only [show ((0 : Nat) : Int) = 0 from rfl] at g1
 generalize hF : aq (aa Φ ext) ah (gF z kx) = F at g1
 simp [oe, Mz, bW, eM, aq, hF, am, bg, bt, cF, Opd.ev, put, asList, L.view, bin, bf, isBool, done, bC, aC, aT, cj, comp, bq, bZ, a8, V.cells, g1, g2]
def PV.plain : PV → Bool
 | .lst _ => false
 | .bool _ => false
 | _ => true
theorem Mo {p : PV} (h : p.plain = true) : bin .neq (.one (.pv p)) (.one (.pv p)) = some (aj false) := by
 cases p with
 | int k n => simp [bin, bf]
 | str s => simp [bin, fE]
 | bool b => simp [PV.plain] at h
 | lst es => simp [PV.plain] at h
theorem LI {qs : List PV} (hp : ∀ q ∈ qs, q.plain = true) (hlen : qs.length ≤ maxLen) : ∀ (m k : Nat), k + m = qs.length →
 ∀ (u2 u3 u4 u6 u7 u8 u9 u10 x11 x12 x13 x14 x15 x16 x17 x18 x19 x20 x21 x22 x23 x24 x25 : V) (h : List AObj),
  ∃ t', ah (aq (aa Φ ext) ah oP) ⟨[bJ (qs.map fun q => [q]), bJ (qs.map fun q => [q]), u2, u3, u4, ae .i64 k, u6, u7, u8, u9, u10, x11, x12, x13, x14, x15, x16, x17, x18, x19, x20, x21, x22, x23, x24, x25], h⟩ = some (.exit 0, ⟨t', h⟩) ∧ t'.length = 26 := by
 intro m
 induction m with
 | zero =>
  intro k hk u2 u3 u4 u6 u7 u8 u9 u10 x11 x12 x13 x14 x15 x16 x17 x18 x19 x20 x21 x22 x23 x24 x25 h
  have hk' : k = qs.length := by omega
  subst hk'
  refine ⟨[bJ (qs.map fun q => [q]), bJ (qs.map fun q => [q]), u2, u3, u4, ae .i64 qs.length, u6, u7, u8, u9, u10, ae .i64 qs.length, bJ (qs.map fun q => [q]), ae .i64 qs.length, aj false, x15, x16, x17, x18, x19, x20, x21, x22, x23, x24, x25], l8 ?_ (by simp), rfl⟩
  simp [oP, G4, aq, am, bg, bt, cF, Opd.ev, put, asList, L.view, bin, bf, isBool]
 | succ m ih =>
  intro k hk u2 u3 u4 u6 u7 u8 u9 u10 x11 x12 x13 x14 x15 x16 x17 x18 x19 x20 x21 x22 x23 x24 x25 h
  have hlt : k < qs.length := by omega
  have hn := Mo (hp _ (List.getElem_mem hlt))
  have hw := ag (k := k) (by unfold maxLen at hlen; omega)
  have hcast : ((k + 1 : Nat) : Int) = (k : Int) + 1 := by omega
  have hcut : hJ false 1 0 [L.pv qs[k]] = some (.one (.pv qs[k])) := by simp [hJ]
  have hlss : bin .lss (ae .i64 k) (ae .i64 qs.length) = some (aj true) := by simp [bin, bf, hlt]
  have hadd : bin .add (ae .i64 k) (ae .i64 1) = some (ae .i64 ((k : Int) + 1)) := by simp [bin, bf, hw]
  obtain ⟨t', g1, g2⟩ := ih (k + 1) (by omega) u2 u3 u4 u6 u7 u8 u9 u10 (ae .i64 k) (bJ (qs.map fun q => [q])) (ae .i64 qs.length) (aj true) (ae .i64 k) (ae .i64 ((k : Int) + 1)) (bJ (qs.map fun q => [q])) (ae .i64 k) (.one (.ip [qs[k]] 0)) (.one (.pv qs[k])) (bJ (qs.map fun q => [q])) (ae .i64 k) (.one (.ip [qs[k]] 0)) (.one (.pv qs[k])) (aj false) h
  refine ⟨t', (jD ?_).trans g1, g2⟩
  rw [hcast]
  simp [oP, G4, Lm, aq, am, bg, bt, cF, Opd.ev, put, asList, L.view, hlss, hadd, isBool, isInt, hlt, bm, bz, hcut, hn]
theorem Ow {k : Nat} {qs : List PV} (hk : Φ k = some (oe 26 oP)) (hp : ∀ q ∈ qs, q.plain = true) (hlen : qs.length ≤ maxLen) : aa Φ ext k [bJ (qs.map fun q => [q]), bJ (qs.map fun q => [q])] = some (aj true) := by
 refine aH hk ?_
 obtain ⟨t', g1, g2⟩ := LI (Φ := Φ) (ext := ext) hp hlen qs.length 0 (by omega) (.tup []) (.tup []) (aj false) (bJ (qs.map fun q => [q])) (ae .i64 qs.length) (bJ (qs.map fun q => [q])) (ae .i64 qs.length) (aj false) (.tup []) (.tup []) (.tup []) (.tup []) (.tup []) (.tup []) (.tup []) (.tup []) (.tup []) (.tup []) (.tup []) (.tup []) (.tup []) (.tup []) (.tup []) []
 simp only [show ((0 : Nat) : Int) = 0 from rfl] at g1
 generalize hF : aq (aa Φ ext) ah oP = F at g1
 simp [oe, Mz, bW, eM, aq, hF, am, bg, bt, cF, Opd.ev, put, asList, L.view, bin, bf, isBool, done, bC, aC, aT, cj, comp, bq, bZ, a8, V.cells, g1, g2]
def xN : ACode := .seq (G4 4 0 8) (.seq (.block 1 (.region [⟨some 14, .mv (.tmp 3), none⟩, ⟨some 15, .mv (.tmp 4), none⟩, ⟨some 16, .mv (.tmp 0), none⟩, ⟨some 17, .mv (.tmp 4), none⟩, ⟨some 18, .indexA 1 (.tmp 16) (.tmp 17), none⟩, ⟨some 19, .load false 1 (.tmp 18), none⟩, ⟨some 20, .indexA 1 (.tmp 14) (.tmp 15), none⟩, ⟨none, .store 1 (.tmp 20) (.tmp 19), none⟩])) (Lm 4 12))
def OZ (bytes : Nat) (zero : PV) : AFn := ⟨22, [.tmp 2], .seq (.region [⟨some 2, .mv .nil, none⟩]) (.seq (.region [⟨some 5, .mv (.tmp 0), none⟩, ⟨some 6, .len (.tmp 5), none⟩, ⟨some 7, .make bytes [zero] (.tmp 6), none⟩, ⟨some 3, .mv (.tmp 7), none⟩]) (.seq (.seq (.region [⟨some 4, .mv (.pv (.int .i64 0)), none⟩]) (.block 0 (.loop xN))) (.seq (.region [⟨some 21, .mv (.tmp 3), none⟩, ⟨some 2, .mv (.tmp 21), none⟩]) .ret)))⟩
theorem K4 {z k : Nat} {es : List (List PV)} {e : List PV} {q : PV} {extra : List AObj} (he : es[k]? = some e) (hez : e.length = 1) : bS (.arr z es :: extra) 1 (.one (.ptr 0 k 0)) (.one (.pv q)) = some (.arr z (es.set k [q]) :: extra) := by
 obtain ⟨x, rfl⟩ := List.length_eq_one_iff.1 hez
 simp [bS, V.cells, he, viewL, L.view, L.notArr, freezeLs, freezeL, putAt]
theorem MY {zero : PV} {qs : List PV} (hlen : qs.length ≤ maxLen) : ∀ (m k : Nat), k + m = qs.length →
 ∀ (u1 u2 u5 u6 u7 x8 x9 x10 x11 x12 x13 x14 x15 x16 x17 x18 x19 x20 u21 : V) (extra : List AObj),
  ∃ t', ah (aq (aa Φ ext) ah xN) ⟨[bJ (qs.map fun q => [q]), u1, u2, .one (.arr 0), ae .i64 k, u5, u6, u7, x8, x9, x10, x11, x12, x13, x14, x15, x16, x17, x18, x19, x20, u21], .arr 1 ((qs.map fun q => [q]).take k ++ List.replicate m [zero]) :: extra⟩ = some (.exit 0, ⟨t', .arr 1 (qs.map fun q => [q]) :: extra⟩) ∧ t'.length = 22 ∧ t'[3]? = some (.one (.arr 0)) := by
 intro m
 induction m with
 | zero =>
  intro k hk u1 u2 u5 u6 u7 x8 x9 x10 x11 x12 x13 x14 x15 x16 x17 x18 x19 x20 u21 extra
  have hk' : k = qs.length := by omega
  subst hk'
  refine ⟨[bJ (qs.map fun q => [q]), u1, u2, .one (.arr 0), ae .i64 qs.length, u5, u6, u7, ae .i64 qs.length, bJ (qs.map fun q => [q]), ae .i64 qs.length, aj false, x12, x13, x14, x15, x16, x17, x18, x19, x20, u21], l8 ?_ (by simp), rfl, rfl⟩
  have htk : List.take qs.length (List.map (fun q => [q]) qs) = List.map (fun q => [q]) qs := List.take_of_length_le (by simp)
  simp [xN, G4, aq, am, bg, bt, cF, Opd.ev, put, asList, L.view, bin, bf, isBool, htk]
 | succ m ih =>
  intro k hk u1 u2 u5 u6 u7 x8 x9 x10 x11 x12 x13 x14 x15 x16 x17 x18 x19 x20 u21 extra
  have hlt : k < qs.length := by omega
  have hw := ag (k := k) (by unfold maxLen at hlen; omega)
  have hcast : ((k + 1 : Nat) : Int) = (k : Int) + 1 := by omega
  have hcut : hJ false 1 0 [L.pv qs[k]] = some (.one (.pv qs[k])) := by simp [hJ]
  have hst := K4 (z := 1) (q := qs[k]) (extra := extra) (LM (rows := qs.map fun q => [q]) (k := k) (m := m) (zero := [zero]) (by simpa using hk)) rfl
  have hes := Ik (rows := qs.map fun q => [q]) (k := k) (m := m) (zero := [zero]) (by simpa using hk)
  rw [List.getElem_map] at hes
  rw [hes] at hst
  have hmin : k < min k qs.length + (m + 1) := by omega
  obtain ⟨t', g1, g2⟩ := ih (k + 1) (by omega) u1 u2 u5 u6 u7 (ae .i64 k) (bJ (qs.map fun q => [q])) (ae .i64 qs.length) (aj true) (ae .i64 k) (ae .i64 ((k : Int) + 1)) (.one (.arr 0)) (ae .i64 k) (bJ (qs.map fun q => [q])) (ae .i64 k) (.one (.ip [qs[k]] 0)) (.one (.pv qs[k])) (.one (.ptr 0 k 0)) u21 extra
  refine ⟨t', (jD ?_).trans g1, g2⟩
  rw [hcast]
  simp [xN, G4, Lm, aq, am, bg, bt, cF, dN, Opd.ev, put, asList, L.view, bin, bf, isBool, isInt, hlt, bm, bz, hcut, hst, hw, hmin]
theorem OK {k bytes : Nat} {zero : PV} {qs : List PV} (hk : Φ k = some (OZ bytes zero)) (hlen : qs.length ≤ maxLen) (hb : (qs.length : Int) * bytes ≤ 140737488355328) : aa Φ ext k [bJ (qs.map fun q => [q])] = some (.one (.own 1 (qs.map fun q => [q]))) := by
 refine aH hk ?_
 obtain ⟨t', e1, e2, e3⟩ := MY (Φ := Φ) (ext := ext) (zero := zero) hlen qs.length 0 (by omega) (.tup []) (.one .nil) (bJ (qs.map fun q => [q])) (ae .i64 qs.length) (.one (.arr 0)) (.tup []) (.tup []) (.tup []) (.tup []) (.tup []) (.tup []) (.tup []) (.tup []) (.tup []) (.tup []) (.tup []) (.tup []) (.tup []) (.tup []) []
 simp only [List.take_zero, List.nil_append, show ((0 : Nat) : Int) = 0 from rfl] at e1
 have hl63 : (qs.length : Int) ≤ 9223372036854775807 := by unfold maxLen at hlen; omega
 obtain ⟨_, e4⟩ := List.getElem?_eq_some_iff.1 e3
 generalize hF : aq (aa Φ ext) ah xN = F at e1
 simp [OZ, bW, eM, aq, hF, am, bg, bt, cF, dN, Opd.ev, put, asList, L.view, isInt, hb, hl63, e1, done, bC, aC, aT, cj, comp, bq, bZ, a8, e2, e4, V.cells]
end
end Gi
namespace Gi
open Go Go.RowKit
theorem iQ {t : PTy} {ts : List PTy} {ps : List PV} (h : be (t :: ts) ps) : ∃ p r, ps = p :: r ∧ bR t p ∧ be ts r := by
 cases ps with
 | nil => cases h
 | cons p r => exact ⟨p, r, rfl, h.1, h.2⟩
theorem mg {ps : List PV} (h : be [] ps) : ps = [] := by
 cases ps with
 | nil => rfl
 | cons p r => cases h
theorem rE {k : IntKind} {p : PV} (h : bR (.int k) p) : ∃ n, p = .int k n := by
 cases p with
 | int k' n => exact ⟨n, by rw [h.1]⟩
 | _ => cases h
theorem rH {p : PV} (h : bR .str p) : ∃ s, p = .str s := by
 cases p with
 | str s => exact ⟨s, rfl⟩
 | _ => cases h
theorem ti {p : PV} (h : bR .bool p) : ∃ b, p = .bool b := by
 cases p with
 | bool b => exact ⟨b, rfl⟩
 | _ => cases h
theorem A6 {ts : List PTy} {p : PV} (h : bR (.lst ts) p) : ∃ rows, p = .lst rows := by
 cases p with
 | lst rows => exact ⟨rows, rfl⟩
 | _ => cases h
abbrev P0 : PTy → Type
 | .int _ => Int
 | .bool => Bool
 | .str => List UInt8
 | .lst _ => List (List PV)
abbrev P1 : (t : PTy) → P0 t → PV
 | .int k, n => .int k n
 | .bool, b => .bool b
 | .str, s => .str s
 | .lst _, l => .lst l
abbrev Ni : List PTy → Type
 | [] => Unit
 | t :: ts => P0 t × Ni ts
abbrev Pv : (ts : List PTy) → Ni ts → List PV
 | [], _ => []
 | t :: ts, (x, y) => P1 t x :: Pv ts y
def O5 : (ts : List PTy) → Ni ts → Prop
 | [], _ => True
 | t :: ts, (x, y) => bR t (P1 t x) ∧ O5 ts y
theorem cf : ∀ {ts : List PTy} {r : List PV}, be ts r → ∃ x : Ni ts, r = Pv ts x ∧ O5 ts x
 | [], r, h => ⟨(), mg h, trivial⟩
 | t :: ts, r, h => by
  obtain ⟨p, q, rfl, g, k⟩ := iQ h
  obtain ⟨y, rfl, l⟩ := cf k
  cases t with
  | int => obtain ⟨n, rfl⟩ := rE g; exact ⟨(n, y), rfl, g, l⟩
  | bool => obtain ⟨n, rfl⟩ := ti g; exact ⟨(n, y), rfl, g, l⟩
  | str => obtain ⟨n, rfl⟩ := rH g; exact ⟨(n, y), rfl, g, l⟩
  | lst => obtain ⟨n, rfl⟩ := A6 g; exact ⟨(n, y), rfl, g, l⟩
theorem aD {ts : List PTy} {rows : List (List PV)} (h : bR (.lst ts) (.lst rows)) : rows.length ≤ maxLen ∧ ∀ r ∈ rows, be ts r := h
theorem iw : ∀ {ts : List PTy} {ps : List PV}, be ts ps → ps.length = ts.length
 | [], ps, h => by rw [mg h]; rfl
 | t :: ts, ps, h => by
  obtain ⟨p, r, rfl, _, h2⟩ := iQ h
  simp [iw h2]
theorem CZ : ∀ {rows : List (List PV)} {r : List PV}, r ∈ rows → gO r ≤ ej rows
 | a :: rows, r, h => by
  rcases List.mem_cons.1 h with rfl | h
  ·simp only [ej]; omega
  ·have := CZ h
   simp only [ej]; omega
theorem jH (rows : List (List PV)) : sz (.lst rows) = rows.length + ej rows := by simp only [sz]
theorem sl {rows : List (List PV)} {r : List PV} (m : r ∈ rows) (h : sz (.lst rows) ≤ 1048576) : gO r ≤ 1048576 := by
 have := CZ m
 rw [jH] at h
 omega
theorem FJ {t : PTy} : ∀ {rows : List (List PV)}, (∀ r ∈ rows, be [t] r) → ∃ qs : List PV, rows = qs.map fun q => [q]
 | [], _ => ⟨[], rfl⟩
 | a :: rows, h => by
  obtain ⟨qs, rfl⟩ := FJ (fun r m => h r (List.mem_cons_of_mem _ m))
  obtain ⟨p, r, rfl, _, h2⟩ := iQ (h a (List.mem_cons_self))
  obtain rfl := mg h2
  exact ⟨p :: qs, rfl⟩
def PTy.easy : PTy → Bool
 | .int _ => true
 | .str => true
 | _ => false
theorem OD {t : PTy} {qs : List PV} (ht : t.easy = true) (h : ∀ r ∈ (qs.map fun q => [q]), be [t] r) : ∀ q ∈ qs, q.plain = true := by
 intro q m
 have := (h [q] (List.mem_map.2 ⟨q, m, rfl⟩)).1
 cases t with
 | int k => obtain ⟨n, rfl⟩ := rE this; rfl
 | str => obtain ⟨n, rfl⟩ := rH this; rfl
 | _ => cases ht
def PTy.small : PTy → Bool
 | .int _ => true
 | .bool => true
 | _ => false
theorem CX : ∀ {ts : List PTy} {ps : List PV}, ts.all PTy.small = true → be ts ps → gO ps = 0
 | [], ps, _, h => by rw [mg h]; simp only [gO]
 | t :: ts, ps, ha, h => by
  simp only [List.all_cons, Bool.and_eq_true] at ha
  obtain ⟨p, r, rfl, h1, h2⟩ := iQ h
  have := CX ha.2 h2
  cases t with
  | int k => obtain ⟨n, rfl⟩ := rE h1; simp only [gO, sz, this]
  | bool => obtain ⟨n, rfl⟩ := ti h1; simp only [gO, sz, this]
  | _ => cases ha.1
theorem Ad {ts : List PTy} (ha : ts.all PTy.small = true) : ∀ {rows : List (List PV)}, (∀ r ∈ rows, be ts r) → ej rows = 0
 | [], _ => by simp only [ej]
 | r :: rows, h => by
  simp only [ej, CX ha (h r (List.mem_cons_self)), Ad ha (fun r m => h r (List.mem_cons_of_mem _ m))]
theorem NA {left : Int} {n : Nat} (h : left < n) : eI left n = -1 := by unfold eI; rw [if_pos h]
theorem Pn {left l : Int} {n : Nat} (h0 : 0 ≤ left) (q : eI left n = l) (hn : l < 0) : left < n := by
 unfold eI at q
 split at q
 ·assumption
 ·omega
theorem Mh {left l : Int} {n : Nat} (h0 : 0 ≤ left) (q : eI left n = l) (hn : ¬ l < 0) : l = left - n ∧ (n : Int) ≤ left := by
 unfold eI at q
 split at q
 ·omega
 ·omega
theorem Pm {left l : Int} {n : Nat} (h1 : (n : Int) ≤ left) (h2 : l = left - n) : eI left n = l := by
 unfold eI
 rw [if_neg (by omega)]
 exact h2.symm
end Gi
namespace Gi
open Go
def rB (x : Nat) : Nat × Nat := (x % 256, x / 256)
def rM (m x : Nat) : Nat × Nat := (x % m, x / m)
def P2 (r : Nat) : Nat → Nat → Nat → Nat → Nat × Nat
 | 0, a, _, x => (a, x)
 | k + 1, a, m, x => P2 r k (a + m * (x % r)) (m * r) (x / r)
def rG (r t x : Nat) : Nat × Nat := bif Nat.blt (x % r) t then (x % r, x / r) else P2 r (bif Nat.blt (x % r - t) 7 then x % r - t + 1 else 13) t 1 (x / r)
def rN (x : Nat) : Nat × Nat := rG 32 24 x
def rQ (x : Nat) : Nat × Nat := rG 64 56 x
def rT (x : Nat) : Bool × Nat := (Nat.beq (x % 2) 1, x / 2)
def rL {α : Type} (f : Nat → α × Nat) : Nat → Nat → List α × Nat
 | 0, x => ([], x)
 | n + 1, x => match f x with | (a, y) => match rL f n y with | (xz, z) => (a :: xz, z)
def JE {α : Type} (f : Nat → α × Nat) (x : Nat) : List α × Nat := match rN x with | (n, y) => rL f n y
def rK : Nat → IntKind
 | 0 => .i64
 | 1 => .u8
 | 2 => .i32
 | 3 => .u32
 | 4 => .u64
 | 5 => .i8
 | 6 => .i16
 | _ => .u16
@[irreducible] def zi (n : Nat) : Int := n
@[irreducible] def zm (n : Nat) : Int := -n
@[irreducible] def zu (n : Nat) : UInt8 := UInt8.ofNat n
def rP (x : Nat) : PV × Nat := match x % 64 with
 | 5 => match rN (x / 512) with | (n, y) => (.int (rK (x / 64 % 8)) (zi n), y)
 | 6 => match rN (x / 512) with | (n, y) => (.int (rK (x / 64 % 8)) (zm n), y)
 | 7 => (.bool true, x / 64)
 | 8 => (.bool false, x / 64)
 | 9 => match JE (fun x => (zu (x % 256), x / 256)) (x / 64) with | (s, y) => (.str s, y)
 | _ => (.lst [], x / 64)
def rO (x : Nat) : Opd × Nat := match rQ x with
 | (k, y) => bif Nat.blt k 12 then (match k with
  | 0 => (.nil, y)
  | 10 => match rN y with | (n, z) => (.fn n, z)
  | _ => match rP x with | (p, z) => (.pv p, z)) else (.tmp (k - 12), y)
def P3 (x : Nat) : L × Nat := match x % 64 with
 | 0 => (.nil, x / 64)
 | _ => match rP x with | (p, z) => (.pv p, z)
def OV (x : Nat) : Option Opd × Nat := match x % 2 with
 | 0 => (none, x / 2)
 | _ => match rO (x / 2) with | (o, y) => (some o, y)
def Qi (x : Nat) : EK × Nat := (match x % 3 with
 | 0 => .b
 | 1 => .i
 | _ => .s, x / 3)
def Qh (x : Nat) : BinOp := match x with
 | 0 => .add
 | 1 => .sub
 | 2 => .mul
 | 3 => .quo
 | 4 => .rem
 | 5 => .and
 | 6 => .or
 | 7 => .eql
 | 8 => .neq
 | 9 => .lss
 | 10 => .leq
 | 11 => .gtr
 | 12 => .geq
 | 13 => .shl
 | _ => .shr
def r2 {α β : Type} (f : Nat → α × Nat) (g : Nat → β × Nat) (x : Nat) : (α × β) × Nat := match f x with | (a, y) => match g y with | (b, z) => ((a, b), z)
def rA (x : Nat) : AOp × Nat := match x % 43, x / 43 with
 | 0, x => match rO x with | (a, x) => (.mv a, x)
 | 1, x => match rT x with | (g, x) => match rN x with | (n, x) => match rO x with | (a, x) => (.load g n a, x)
 | 2, x => match rO x with | (a, x) => match rN x with | (n, x) => (.fieldA a n, x)
 | 3, x => match rM 15 x with | (o, x) => match rO x with | (a, x) => match rO x with | (b, x) => (.bin (Qh o) a b, x)
 | 4, x => match rN x with | (f, x) => match JE rO x with | (xz, x) => match rT x with | (p, x) => match rT x with | (q, x) => (.call f xz p q, x)
 | 5, x => match rO x with | (a, x) => (.box a, x)
 | 6, x => match rO x with | (a, x) => (.len a, x)
 | 7, x => match rN x with | (n, x) => match rO x with | (a, x) => match rO x with | (b, x) => (.store n a b, x)
 | 8, x => match rN x with | (n, x) => match rO x with | (a, x) => match rO x with | (b, x) => (.indexA n a b, x)
 | 9, x => match rO x with | (a, x) => match rO x with | (b, x) => match rO x with | (c, x) => (.pick a b c, x)
 | 10, x => match rT x with | (g, x) => match rO x with | (a, x) => (.un (bif g then .neg else .not) a, x)
 | 11, x => match JE P3 x with | (cs, x) => (.alloc cs, x)
 | 12, x => match rO x with | (a, x) => match rN x with | (n, x) => (.extract a n, x)
 | 13, x => match rN x with | (n, x) => match JE rO x with | (xz, x) => (.buildS n xz, x)
 | 14, x => match rO x with | (a, x) => (.lenS a, x)
 | 15, x => match rN x with | (n, x) => match rN x with | (m, x) => match rO x with | (a, x) => match rO x with | (b, x) => (.append n m a b, x)
 | 16, x => match JE P3 x with | (cs, x) => match JE (fun x => match rN x with | (i, x) => match rN x with | (n, x) => match rO x with | (a, x) => ((i, n, a), x)) x with | (ps, x) => (.build cs ps, x)
 | 17, x => match rN x with | (n, x) => match JE rP x with | (ps, x) => match rO x with | (a, x) => (.make n ps a, x)
 | 18, x => match rT x with | (g, x) => match rO x with | (a, x) => match rO x with | (b, x) => (.eqB g a b, x)
 | 19, x => match rN x with | (n, x) => match JE rO x with | (xz, x) => (.callD n xz, x)
 | 20, x => match rO x with | (a, x) => match rO x with | (b, x) => (.indexS a b, x)
 | 21, x => match rM 8 x with | (k, x) => match rO x with | (a, x) => (.conv (rK k) a, x)
 | 22, x => match rT x with | (g, x) => match rN x with | (n, x) => match rO x with | (a, x) => (.loadB g n a, x)
 | 23, x => match rO x with | (a, x) => match JE rO x with | (xz, x) => (.callV a xz, x)
 | 24, x => match rN x with | (n, x) => match JE rO x with | (xz, x) => (.mkfn n xz, x)
 | 25, x => match rT x with | (g, x) => match JE Qi x with | (ks, x) => match rO x with | (a, x) => match rO x with | (b, x) => (.eqS g ks a b, x)
 | 26, x => match rN x with | (n, x) => match rO x with | (a, x) => match OV x with | (l, x) => match OV x with | (h, x) => (.slcL n a l h, x)
 | 27, x => match rO x with | (a, x) => (.s2b a, x)
 | 28, x => match rN x with | (n, x) => match rO x with | (a, x) => match OV x with | (l, x) => match OV x with | (h, x) => (.slcF n a l h, x)
 | 29, x => match rN x with | (n, x) => (.allocT n, x)
 | 30, x => match rN x with | (n, x) => match rO x with | (a, x) => match rO x with | (b, x) => (.storeT n a b, x)
 | 31, x => match rT x with | (g, x) => match rN x with | (n, x) => match rO x with | (a, x) => (.loadA g n a, x)
 | 32, x => match rN x with | (n, x) => match rO x with | (a, x) => match rO x with | (b, x) => (.storeB n a b, x)
 | 33, x => match rN x with | (k, x) => match rN x with | (n, x) => match rN x with | (m, x) => match rO x with | (a, x) => match rO x with | (b, x) => match rO x with | (c, x) => (.insert k n m a b c, x)
 | 34, x => match rO x with | (a, x) => match rO x with | (b, x) => (.mget a b, x)
 | 35, x => match rO x with | (a, x) => (.b2s a, x)
 | 36, x => match rN x with | (n, x) => match rO x with | (a, x) => match rO x with | (b, x) => (.appendS n a b, x)
 | 38, x => match rO x with | (a, x) => match rO x with | (b, x) => match rO x with | (c, x) => (.mset a b c, x)
 | 39, x => match rN x with | (n, x) => match JE rO x with | (xz, x) => (.buildF n xz, x)
 | 40, x => match rT x with | (g, x) => match rO x with | (a, x) => match rO x with | (b, x) => (.mm g a b, x)
 | 41, x => match rO x with | (a, x) => match OV x with | (l, x) => match OV x with | (h, x) => (.slcS a l h, x)
 | 42, x => match rO x with | (a, x) => match rT x with | (g, x) => match rN x with | (n, x) => match rN x with | (m, x) => (.field a g n m, x)
 | _, x => (.mkmap, x)
def Qj (x : Nat) : AOper × Nat := match x % 6, x / 6 with
 | 0, x => match rA x with | (o, x) => (⟨none, o, none⟩, x)
 | 1, x => match rQ x with | (d, x) => match rA x with | (o, x) => (⟨some d, o, none⟩, x)
 | 2, x => match rQ x with | (q, x) => match rA x with | (o, x) => (⟨none, o, some (q, true)⟩, x)
 | 3, x => match rQ x with | (d, x) => match rQ x with | (q, x) => match rA x with | (o, x) => (⟨some d, o, some (q, true)⟩, x)
 | 4, x => match rQ x with | (q, x) => match rA x with | (o, x) => (⟨none, o, some (q, false)⟩, x)
 | _, x => match rQ x with | (d, x) => match rQ x with | (q, x) => match rA x with | (o, x) => (⟨some d, o, some (q, false)⟩, x)
def rC (bs : List ACode) : Nat → Nat → ACode × Nat
 | 0, x => (.skip, x)
 | n + 1, x => match x % 8, x / 8 with
  | 0, x => (.skip, x)
  | 1, x => (.ret, x)
  | 2, x => match JE Qj x with | (os, x) => (.region os, x)
  | 3, x => match rC bs n x with | (a, x) => match rC bs n x with | (b, x) => (.seq a b, x)
  | 4, x => match rO x with | (c, x) => match rC bs n x with | (a, x) => match rC bs n x with | (b, x) => (.cond c a b, x)
  | 5, x => match rN x with | (i, x) => match rC bs n x with | (a, x) => (.block i a, x)
  | 6, x => match rN x with | (i, x) => (.exit i, x)
  | _, x => match rN x with | (i, x) => (.loop (bs.getD i .skip), x)
def rF (bs : List ACode) (x : Nat) : AFn := match rN x with
 | (n, x) => match JE (fun x => match x % 2, x / 2 with
  | 0, x => match rN x with | (t, x) => (ARes.tmp t, x)
  | _, x => match rN x with | (t, x) => match rN x with | (n, x) => (ARes.cell t n, x)) x with
  | (rs, x) => ⟨n, rs, (rC bs 60 x).1⟩
def rD (bs : List ACode) (x : Nat) : ACode := (rC bs 60 x).1
theorem Oi (n : Nat) : zi n = (n : Int) := by unfold zi; rfl
theorem Oj (n : Nat) : zm n = -(n : Int) := by unfold zm; rfl
theorem Ol (n : Nat) : zu n = UInt8.ofNat n := by unfold zu; rfl
structure RF (bs : List ACode) (n : Nat) where
 v : AFn
 h : rF bs n = v := by conv => lhs; reduce; simp only [Oi, Oj, Ol, Int.cast_ofNat_Int, UInt8.reduceOfNat]
structure RD (bs : List ACode) (n : Nat) where
 v : ACode
 h : rD bs n = v := by conv => lhs; reduce; simp only [Oi, Oj, Ol, Int.cast_ofNat_Int, UInt8.reduceOfNat]
end Gi
