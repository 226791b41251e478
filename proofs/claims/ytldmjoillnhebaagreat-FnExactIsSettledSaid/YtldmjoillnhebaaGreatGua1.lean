/- Names; pages; caches; a page of one version. -/
import Derived.Test.YtldmjoillnhebaaGreatGtx
namespace Gi
open Go Go.RowKit
set_option linter.unusedSimpArgs false
set_option linter.unusedVariables false
set_option maxHeartbeats 4000000
set_option maxRecDepth 4000
attribute [local simp] start execL exec execOps stepO wants fop eop Opd.ev put V.cells plain loadV cut isInt isStr isBool bin binInt binStr_neq binStr_eql un asList L.view viewArgs V.view viewL done finish resultsOf resultOf comps comp giveLs giveL arrsOf V.flat L.flat setV setL storeV putAt thaw thawL freezeVs freezeLs freezeL V.mut L.mut elemPtr viewRows

/-! ### Names -/
/-- no small letter -/
def noc (b : UInt8) : Bool := decide ((b.toNat : Int) < 97) || decide ((122 : Int) < b.toNat)
def isName (s : List UInt8) : Bool := !(s.any noc) && (decide (1 ≤ (s.length : Int)) && decide ((s.length : Int) ≤ 8))
theorem isw_loop {s : List UInt8} (hl : s.length ≤ maxLen) : ∀ (m k : Nat) (i : Int), i = k → k + m = s.length → ∀ (x3 x4 x5 x6 x8 x9 x10 x11 x12 x13 x14 x15 x16 x17 x18 x19 x20 x21 x22 x23 x24 x25 x26 x27 x28 x29 x30 x31 x32 x33 x34 x35 x36 x37 : V),
    Runs (loopL (exec (callL Ph extF) loopL b_impl_isWord_0) ⟨(vstr s :: vint .i64 8 :: vbool false :: x3 :: x4 :: x5 :: x6 :: vint .i64 i :: x8 :: x9 :: x10 :: x11 :: x12 :: x13 :: x14 :: x15 :: x16 :: x17 :: x18 :: x19 :: x20 :: x21 :: x22 :: x23 :: x24 :: x25 :: x26 :: x27 :: x28 :: x29 :: x30 :: x31 :: x32 :: x33 :: x34 :: x35 :: x36 :: x37 :: []), []⟩) fun e σ' => (e = .exit 0 ∧ (s.drop k).any (noc) = false ∧ ∃ (x3 x4 x5 x6 x8 x9 x10 x11 x12 x13 x14 x15 x16 x17 x18 x19 x20 x21 x22 x23 x24 x25 x26 x27 x28 x29 x30 x31 x32 x33 x34 x35 x36 x37 : V), σ' = ⟨(vstr s :: vint .i64 8 :: vbool false :: x3 :: x4 :: x5 :: x6 :: vint .i64 (s.length : Nat) :: x8 :: x9 :: x10 :: x11 :: x12 :: x13 :: x14 :: x15 :: x16 :: x17 :: x18 :: x19 :: x20 :: x21 :: x22 :: x23 :: x24 :: x25 :: x26 :: x27 :: x28 :: x29 :: x30 :: x31 :: x32 :: x33 :: x34 :: x35 :: x36 :: x37 :: []), []⟩) ∨ (e = .ret ∧ (s.drop k).any (noc) = true ∧ σ'.t.length = 38 ∧ σ'.t[6]? = some (vbool false)) := by
  generalize hF : exec (callL Ph extF) loopL b_impl_isWord_0 = F
  intro m
  induction m with
  | zero =>
    intro k i hi hk x3 x4 x5 x6 x8 x9 x10 x11 x12 x13 x14 x15 x16 x17 x18 x19 x20 x21 x22 x23 x24 x25 x26 x27 x28 x29 x30 x31 x32 x33 x34 x35 x36 x37
    subst hi
    have hk' : k = s.length := by omega
    subst hk'
    rw [loopL_go0 hF]
    simp (maxSteps := 4000000) [b_impl_isWord_0, findI, Runs_some]
  | succ m ih =>
    intro k i hi hk x3 x4 x5 x6 x8 x9 x10 x11 x12 x13 x14 x15 x16 x17 x18 x19 x20 x21 x22 x23 x24 x25 x26 x27 x28 x29 x30 x31 x32 x33 x34 x35 x36 x37
    subst hi
    have hlt : k < s.length := by omega
    have hw := wrap_small (k := k) (by unfold maxLen at hl; omega)
    have hnc : noc s[k] = (decide ((s[k].toNat : Int) < 97) || decide ((122 : Int) < s[k].toNat)) := rfl
    have key := ih (k + 1) ((k : Int) + 1) (by omega) (by omega)
    clear ih
    rw [List.drop_eq_getElem_cons hlt]
    rw [List.any_cons]
    generalize (s.drop (k + 1)).any (noc) = B at key ⊢
    rw [loopL_go0 hF]
    rw [hnc]; by_cases c1 : (97 : Int) ≤ s[k].toNat <;> by_cases c2 : (s[k].toNat : Int) ≤ 122 <;> (have c3 : ((s[k].toNat : Int) < 97) ↔ ¬ ((97 : Int) ≤ s[k].toNat) := by omega) <;> (have c4 : ((122 : Int) < s[k].toNat) ↔ ¬ ((s[k].toNat : Int) ≤ 122) := by omega) <;>
      first
      | omega
      | (simp [b_impl_isWord_0, hlt, hw, c1, c2, c3, c4]
         exact key _ _ _ _ _ _ _ _ _ _ _ _ _ _ _ _ _ _ _ _ _ _ _ _ _ _ _ _ _ _ _ _ _ _)
      | (simp [b_impl_isWord_0, hlt, hw, c1, c2, c3, c4, Runs_some]; done)
theorem impl_IsName_ok {s : List UInt8} (hl : s.length ≤ maxLen) : callL Ph extF 178 [vstr s] = some (vbool (isName s)) := by
  have e1 : callL Ph extF 213 [vstr s, vint .i64 8, vbool false] = some (vbool (isName s)) := by
    refine callL_fn (fn := f_impl_isWord) rfl ?_
    obtain ⟨e, σ', q1, q3⟩ := (isw_loop hl s.length 0 0 rfl (by omega) (.tup []) (.tup []) (.tup []) (vbool false) (.tup []) (.tup []) (.tup []) (.tup []) (.tup []) (.tup []) (.tup []) (.tup []) (.tup []) (.tup []) (.tup []) (.tup []) (.tup []) (.tup []) (.tup []) (.tup []) (.tup []) (.tup []) (.tup []) (.tup []) (.tup []) (.tup []) (.tup []) (.tup []) (.tup []) (.tup []) (.tup []) (.tup []) (.tup []) (.tup [])).get
    simp only [List.drop_zero] at q3
    have q6 := impl_InRange_ok s.length 1 8
    generalize hF : exec (callL Ph extF) loopL b_impl_isWord_0 = F at q1
    rcases q3 with ⟨rfl, q4, x3, x4, x5, x6, x8, x9, x10, x11, x12, x13, x14, x15, x16, x17, x18, x19, x20, x21, x22, x23, x24, x25, x26, x27, x28, x29, x30, x31, x32, x33, x34, x35, x36, x37, rfl⟩ | ⟨rfl, q4, q5, q7⟩
    · simp [f_impl_isWord, hF, q1, q6, isName, q4]
    · obtain ⟨_, q8⟩ := List.getElem?_eq_some_iff.1 q7
      simp [f_impl_isWord, hF, q1, q5, q8, isName, q4]
  refine callL_fn (fn := f_impl_IsName) rfl ?_
  simp [f_impl_IsName, e1]
theorem sin_loop {s : List UInt8} (hl : s.length ≤ maxLen) : ∀ (m k : Nat) (i : Int), i = k → k + m = s.length → ∀ (x1 x2 x4 x5 x6 x7 x8 x9 x10 x11 x12 x13 x14 x15 x16 x17 x18 x19 x20 x21 x22 : V),
    Runs (loopL (exec (callL Ph extF) loopL b_spec_IsName_0) ⟨(vstr s :: x1 :: x2 :: vint .i64 i :: x4 :: x5 :: x6 :: x7 :: x8 :: x9 :: x10 :: x11 :: x12 :: x13 :: x14 :: x15 :: x16 :: x17 :: x18 :: x19 :: x20 :: x21 :: x22 :: []), []⟩) fun e σ' => (e = .exit 0 ∧ (s.drop k).any (noc) = false ∧ ∃ (x1 x2 x4 x5 x6 x7 x8 x9 x10 x11 x12 x13 x14 x15 x16 x17 x18 x19 x20 x21 x22 : V), σ' = ⟨(vstr s :: x1 :: x2 :: vint .i64 (s.length : Nat) :: x4 :: x5 :: x6 :: x7 :: x8 :: x9 :: x10 :: x11 :: x12 :: x13 :: x14 :: x15 :: x16 :: x17 :: x18 :: x19 :: x20 :: x21 :: x22 :: []), []⟩) ∨ (e = .ret ∧ (s.drop k).any (noc) = true ∧ σ'.t.length = 23 ∧ σ'.t[2]? = some (vbool false)) := by
  generalize hF : exec (callL Ph extF) loopL b_spec_IsName_0 = F
  intro m
  induction m with
  | zero =>
    intro k i hi hk x1 x2 x4 x5 x6 x7 x8 x9 x10 x11 x12 x13 x14 x15 x16 x17 x18 x19 x20 x21 x22
    subst hi
    have hk' : k = s.length := by omega
    subst hk'
    rw [loopL_go0 hF]
    simp (maxSteps := 4000000) [b_spec_IsName_0, findI, Runs_some]
  | succ m ih =>
    intro k i hi hk x1 x2 x4 x5 x6 x7 x8 x9 x10 x11 x12 x13 x14 x15 x16 x17 x18 x19 x20 x21 x22
    subst hi
    have hlt : k < s.length := by omega
    have hw := wrap_small (k := k) (by unfold maxLen at hl; omega)
    have hnc : noc s[k] = (decide ((s[k].toNat : Int) < 97) || decide ((122 : Int) < s[k].toNat)) := rfl
    have key := ih (k + 1) ((k : Int) + 1) (by omega) (by omega)
    clear ih
    rw [List.drop_eq_getElem_cons hlt]
    rw [List.any_cons]
    generalize (s.drop (k + 1)).any (noc) = B at key ⊢
    rw [loopL_go0 hF]
    rw [hnc]; by_cases c1 : (s[k].toNat : Int) < 97 <;> by_cases c2 : (122 : Int) < s[k].toNat <;>
      first
      | omega
      | (simp [b_spec_IsName_0, hlt, hw, c1, c2]
         exact key _ _ _ _ _ _ _ _ _ _ _ _ _ _ _ _ _ _ _ _ _)
      | (simp [b_spec_IsName_0, hlt, hw, c1, c2, Runs_some]; done)
theorem spec_IsName_ok {s : List UInt8} (hl : s.length ≤ maxLen) : callL Ph extF 177 [vstr s] = some (vbool (isName s)) := by
  refine callL_fn (fn := f_spec_IsName) rfl ?_
  obtain ⟨e, σ', q1, q3⟩ := (sin_loop hl s.length 0 0 rfl (by omega) (.tup []) (vbool false) (.tup []) (.tup []) (.tup []) (.tup []) (.tup []) (.tup []) (.tup []) (.tup []) (.tup []) (.tup []) (.tup []) (.tup []) (.tup []) (.tup []) (.tup []) (.tup []) (.tup []) (.tup []) (.tup [])).get
  simp only [List.drop_zero] at q3
  have q6 := spec_l1In_ok s.length 1 8
  generalize hF : exec (callL Ph extF) loopL b_spec_IsName_0 = F at q1
  rcases q3 with ⟨rfl, q4, x1, x2, x4, x5, x6, x7, x8, x9, x10, x11, x12, x13, x14, x15, x16, x17, x18, x19, x20, x21, x22, rfl⟩ | ⟨rfl, q4, q5, q7⟩
  · simp [f_spec_IsName, hF, q1, q6, isName, q4]
  · obtain ⟨_, q8⟩ := List.getElem?_eq_some_iff.1 q7
    simp [f_spec_IsName, hF, q1, q5, q8, isName, q4]

end Gi
