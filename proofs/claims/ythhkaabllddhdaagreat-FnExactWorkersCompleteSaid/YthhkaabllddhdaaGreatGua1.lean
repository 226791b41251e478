/- Names; pages; caches; a page of one version. -/
import Derived.Test.YthhkaabllddhdaaGreatGtx
namespace Gi
open Go Go.RowKit
set_option linter.unusedSimpArgs false
set_option linter.unusedVariables false
set_option maxHeartbeats 4000000
set_option maxRecDepth 4000

/-! ### Names -/
/-- no small letter -/
def noc (b : UInt8) : Bool := decide ((b.toNat : Int) < 97) || decide ((122 : Int) < b.toNat)
def isName (s : List UInt8) : Bool := !(s.any noc) && (decide (1 ≤ (s.length : Int)) && decide ((s.length : Int) ≤ 8))
theorem isw_loop {s : List UInt8} (hl : s.length ≤ maxLen) : ∀ (m k : Nat) (i : Int), i = k → k + m = s.length → ∀ (x3 x4 x5 x6 x8 x9 x10 x11 x12 x13 x14 x15 x16 x17 x18 x19 x20 x21 x22 x23 x24 x25 x26 x27 x28 x29 x30 x31 x32 x33 x34 x35 x36 x37 : V),
    Runs (loopL (exec (callL Ph extF) loopL b_impl_isWord_0) ⟨(vstr s :: vint .i64 8 :: vbool false :: x3 :: x4 :: x5 :: x6 :: vint .i64 i :: x8 :: x9 :: x10 :: x11 :: x12 :: x13 :: x14 :: x15 :: x16 :: x17 :: x18 :: x19 :: x20 :: x21 :: x22 :: x23 :: x24 :: x25 :: x26 :: x27 :: x28 :: x29 :: x30 :: x31 :: x32 :: x33 :: x34 :: x35 :: x36 :: x37 :: []), []⟩) fun e σ' => (e = .exit 0 ∧ (s.drop k).any (noc) = false ∧ ∃ (x3 x4 x5 x6 x8 x9 x10 x11 x12 x13 x14 x15 x16 x17 x18 x19 x20 x21 x22 x23 x24 x25 x26 x27 x28 x29 x30 x31 x32 x33 x34 x35 x36 x37 : V), σ' = ⟨(vstr s :: vint .i64 8 :: vbool false :: x3 :: x4 :: x5 :: x6 :: vint .i64 (s.length : Nat) :: x8 :: x9 :: x10 :: x11 :: x12 :: x13 :: x14 :: x15 :: x16 :: x17 :: x18 :: x19 :: x20 :: x21 :: x22 :: x23 :: x24 :: x25 :: x26 :: x27 :: x28 :: x29 :: x30 :: x31 :: x32 :: x33 :: x34 :: x35 :: x36 :: x37 :: []), []⟩) ∨ (e = .ret ∧ (s.drop k).any (noc) = true ∧ σ'.t.length = 38 ∧ σ'.t[6]? = some (vbool false)) := by
  generalize hF : exec (callL Ph extF) loopL b_impl_isWord_0 = F
  intro m
  induction m with
  | zero =>
    intro k i hi hk x3 x4 x5 x6 x8 x9 x10 x11 x12 x13 x14 x15 x16 x17 x18 x19 x20 x21 x22 x23 x24 x25 x26 x27 x28 x29 x30 x31 x32 x33 x34 x35 x36 x37
    subst hi
    have hk' : k = s.length := by omega
    subst hk'
    rw [loopL_go0 hF]
    simp (maxSteps := 4000000) [b_impl_isWord_0, start, execL, exec, execOps, stepO, wants, fop, eop, Opd.ev, put, V.cells, plain, loadV, cut, isInt, isStr, isBool, bin, binInt, binStr_neq, binStr_eql, un, asList, L.view, viewArgs, V.view, viewL, done, finish, resultsOf, resultOf, comps, comp, giveLs, giveL, arrsOf, V.flat, L.flat, setV, setL, storeV, putAt, thaw, thawL, freezeVs, freezeLs, freezeL, V.mut, L.mut, elemPtr, viewRows, findI, Runs_some]
  | succ m ih =>
    intro k i hi hk x3 x4 x5 x6 x8 x9 x10 x11 x12 x13 x14 x15 x16 x17 x18 x19 x20 x21 x22 x23 x24 x25 x26 x27 x28 x29 x30 x31 x32 x33 x34 x35 x36 x37
    subst hi
    have hlt : k < s.length := by omega
    have hw := wrap_small (k := k) (by unfold maxLen at hl; omega)
    have hnc : noc s[k] = (decide ((s[k].toNat : Int) < 97) || decide ((122 : Int) < s[k].toNat)) := rfl
    have key := ih (k + 1) ((k : Int) + 1) (by omega) (by omega)
    clear ih
    rw [List.drop_eq_getElem_cons hlt]
    rw [List.any_cons]
    generalize (s.drop (k + 1)).any (noc) = B at key ⊢
    rw [loopL_go0 hF]
    rw [hnc]; by_cases c1 : (97 : Int) ≤ s[k].toNat <;> by_cases c2 : (s[k].toNat : Int) ≤ 122 <;> (have c3 : ((s[k].toNat : Int) < 97) ↔ ¬ ((97 : Int) ≤ s[k].toNat) := by omega) <;> (have c4 : ((122 : Int) < s[k].toNat) ↔ ¬ ((s[k].toNat : Int) ≤ 122) := by omega) <;>
      first
      | omega
      | (simp [b_impl_isWord_0, start, execL, exec, execOps, stepO, wants, fop, eop, Opd.ev, put, V.cells, plain, loadV, cut, isInt, isStr, isBool, bin, binInt, binStr_neq, binStr_eql, un, asList, L.view, viewArgs, V.view, viewL, done, finish, resultsOf, resultOf, comps, comp, giveLs, giveL, arrsOf, V.flat, L.flat, setV, setL, storeV, putAt, thaw, thawL, freezeVs, freezeLs, freezeL, V.mut, L.mut, elemPtr, viewRows, hlt, hw, c1, c2, c3, c4]
         exact key _ _ _ _ _ _ _ _ _ _ _ _ _ _ _ _ _ _ _ _ _ _ _ _ _ _ _ _ _ _ _ _ _ _)
      | (simp [b_impl_isWord_0, start, execL, exec, execOps, stepO, wants, fop, eop, Opd.ev, put, V.cells, plain, loadV, cut, isInt, isStr, isBool, bin, binInt, binStr_neq, binStr_eql, un, asList, L.view, viewArgs, V.view, viewL, done, finish, resultsOf, resultOf, comps, comp, giveLs, giveL, arrsOf, V.flat, L.flat, setV, setL, storeV, putAt, thaw, thawL, freezeVs, freezeLs, freezeL, V.mut, L.mut, elemPtr, viewRows, hlt, hw, c1, c2, c3, c4, Runs_some]; done)
theorem isw_loop' {s : List UInt8} (hl : s.length ≤ maxLen) : ∀ (m k : Nat) (i : Int), i = k → k + m = s.length → ∀ (x3 x4 x5 x6 x8 x9 x10 x11 x12 x13 x14 x15 x16 x17 x18 x19 x20 x21 x22 x23 x24 x25 x26 x27 x28 x29 x30 x31 x32 x33 x34 x35 x36 x37 : V) (σ : St), σ = ⟨(vstr s :: vint .i64 8 :: vbool false :: x3 :: x4 :: x5 :: x6 :: vint .i64 i :: x8 :: x9 :: x10 :: x11 :: x12 :: x13 :: x14 :: x15 :: x16 :: x17 :: x18 :: x19 :: x20 :: x21 :: x22 :: x23 :: x24 :: x25 :: x26 :: x27 :: x28 :: x29 :: x30 :: x31 :: x32 :: x33 :: x34 :: x35 :: x36 :: x37 :: []), []⟩ →
    Runs (loopL (exec (callL Ph extF) loopL b_impl_isWord_0) σ) fun e σ' => (e = .exit 0 ∧ (s.drop k).any (noc) = false ∧ ∃ (x3 x4 x5 x6 x8 x9 x10 x11 x12 x13 x14 x15 x16 x17 x18 x19 x20 x21 x22 x23 x24 x25 x26 x27 x28 x29 x30 x31 x32 x33 x34 x35 x36 x37 : V), σ' = ⟨(vstr s :: vint .i64 8 :: vbool false :: x3 :: x4 :: x5 :: x6 :: vint .i64 (s.length : Nat) :: x8 :: x9 :: x10 :: x11 :: x12 :: x13 :: x14 :: x15 :: x16 :: x17 :: x18 :: x19 :: x20 :: x21 :: x22 :: x23 :: x24 :: x25 :: x26 :: x27 :: x28 :: x29 :: x30 :: x31 :: x32 :: x33 :: x34 :: x35 :: x36 :: x37 :: []), []⟩) ∨ (e = .ret ∧ (s.drop k).any (noc) = true ∧ σ'.t.length = 38 ∧ σ'.t[6]? = some (vbool false)) := by
  intro m k i hi hk x3 x4 x5 x6 x8 x9 x10 x11 x12 x13 x14 x15 x16 x17 x18 x19 x20 x21 x22 x23 x24 x25 x26 x27 x28 x29 x30 x31 x32 x33 x34 x35 x36 x37 σ hσ
  subst hσ
  exact isw_loop hl m k i hi hk x3 x4 x5 x6 x8 x9 x10 x11 x12 x13 x14 x15 x16 x17 x18 x19 x20 x21 x22 x23 x24 x25 x26 x27 x28 x29 x30 x31 x32 x33 x34 x35 x36 x37
theorem impl_IsName_ok {s : List UInt8} (hl : s.length ≤ maxLen) : callL Ph extF 178 [vstr s] = some (vbool (isName s)) := by
  have e1 : callL Ph extF 213 [vstr s, vint .i64 8, vbool false] = some (vbool (isName s)) := by
    refine callL_fn (fn := f_impl_isWord) rfl ?_
    obtain ⟨e, σ', q1, q3⟩ := (isw_loop hl s.length 0 0 rfl (by omega) (.tup []) (.tup []) (.tup []) (vbool false) (.tup []) (.tup []) (.tup []) (.tup []) (.tup []) (.tup []) (.tup []) (.tup []) (.tup []) (.tup []) (.tup []) (.tup []) (.tup []) (.tup []) (.tup []) (.tup []) (.tup []) (.tup []) (.tup []) (.tup []) (.tup []) (.tup []) (.tup []) (.tup []) (.tup []) (.tup []) (.tup []) (.tup []) (.tup []) (.tup [])).get
    simp only [List.drop_zero] at q3
    have q6 := impl_InRange_ok s.length 1 8
    generalize hF : exec (callL Ph extF) loopL b_impl_isWord_0 = F at q1
    rcases q3 with ⟨rfl, q4, x3, x4, x5, x6, x8, x9, x10, x11, x12, x13, x14, x15, x16, x17, x18, x19, x20, x21, x22, x23, x24, x25, x26, x27, x28, x29, x30, x31, x32, x33, x34, x35, x36, x37, rfl⟩ | ⟨rfl, q4, q5, q7⟩
    · simp [f_impl_isWord, start, execL, exec, execOps, stepO, wants, fop, eop, Opd.ev, put, V.cells, plain, loadV, cut, isInt, isStr, isBool, bin, binInt, binStr_neq, binStr_eql, un, asList, L.view, viewArgs, V.view, viewL, done, finish, resultsOf, resultOf, comps, comp, giveLs, giveL, arrsOf, V.flat, L.flat, setV, setL, storeV, putAt, thaw, thawL, freezeVs, freezeLs, freezeL, V.mut, L.mut, elemPtr, viewRows, hF, q1, q6, isName, q4]
    · obtain ⟨_, q8⟩ := List.getElem?_eq_some_iff.1 q7
      simp [f_impl_isWord, start, execL, exec, execOps, stepO, wants, fop, eop, Opd.ev, put, V.cells, plain, loadV, cut, isInt, isStr, isBool, bin, binInt, binStr_neq, binStr_eql, un, asList, L.view, viewArgs, V.view, viewL, done, finish, resultsOf, resultOf, comps, comp, giveLs, giveL, arrsOf, V.flat, L.flat, setV, setL, storeV, putAt, thaw, thawL, freezeVs, freezeLs, freezeL, V.mut, L.mut, elemPtr, viewRows, hF, q1, q5, q8, isName, q4]
  refine callL_fn (fn := f_impl_IsName) rfl ?_
  simp [f_impl_IsName, start, execL, exec, execOps, stepO, wants, fop, eop, Opd.ev, put, V.cells, plain, loadV, cut, isInt, isStr, isBool, bin, binInt, binStr_neq, binStr_eql, un, asList, L.view, viewArgs, V.view, viewL, done, finish, resultsOf, resultOf, comps, comp, giveLs, giveL, arrsOf, V.flat, L.flat, setV, setL, storeV, putAt, thaw, thawL, freezeVs, freezeLs, freezeL, V.mut, L.mut, elemPtr, viewRows, e1]
theorem sin_loop {s : List UInt8} (hl : s.length ≤ maxLen) : ∀ (m k : Nat) (i : Int), i = k → k + m = s.length → ∀ (x1 x2 x4 x5 x6 x7 x8 x9 x10 x11 x12 x13 x14 x15 x16 x17 x18 x19 x20 x21 x22 : V),
    Runs (loopL (exec (callL Ph extF) loopL b_spec_IsName_0) ⟨(vstr s :: x1 :: x2 :: vint .i64 i :: x4 :: x5 :: x6 :: x7 :: x8 :: x9 :: x10 :: x11 :: x12 :: x13 :: x14 :: x15 :: x16 :: x17 :: x18 :: x19 :: x20 :: x21 :: x22 :: []), []⟩) fun e σ' => (e = .exit 0 ∧ (s.drop k).any (noc) = false ∧ ∃ (x1 x2 x4 x5 x6 x7 x8 x9 x10 x11 x12 x13 x14 x15 x16 x17 x18 x19 x20 x21 x22 : V), σ' = ⟨(vstr s :: x1 :: x2 :: vint .i64 (s.length : Nat) :: x4 :: x5 :: x6 :: x7 :: x8 :: x9 :: x10 :: x11 :: x12 :: x13 :: x14 :: x15 :: x16 :: x17 :: x18 :: x19 :: x20 :: x21 :: x22 :: []), []⟩) ∨ (e = .ret ∧ (s.drop k).any (noc) = true ∧ σ'.t.length = 23 ∧ σ'.t[2]? = some (vbool false)) := by
  generalize hF : exec (callL Ph extF) loopL b_spec_IsName_0 = F
  intro m
  induction m with
  | zero =>
    intro k i hi hk x1 x2 x4 x5 x6 x7 x8 x9 x10 x11 x12 x13 x14 x15 x16 x17 x18 x19 x20 x21 x22
    subst hi
    have hk' : k = s.length := by omega
    subst hk'
    rw [loopL_go0 hF]
    simp (maxSteps := 4000000) [b_spec_IsName_0, start, execL, exec, execOps, stepO, wants, fop, eop, Opd.ev, put, V.cells, plain, loadV, cut, isInt, isStr, isBool, bin, binInt, binStr_neq, binStr_eql, un, asList, L.view, viewArgs, V.view, viewL, done, finish, resultsOf, resultOf, comps, comp, giveLs, giveL, arrsOf, V.flat, L.flat, setV, setL, storeV, putAt, thaw, thawL, freezeVs, freezeLs, freezeL, V.mut, L.mut, elemPtr, viewRows, findI, Runs_some]
  | succ m ih =>
    intro k i hi hk x1 x2 x4 x5 x6 x7 x8 x9 x10 x11 x12 x13 x14 x15 x16 x17 x18 x19 x20 x21 x22
    subst hi
    have hlt : k < s.length := by omega
    have hw := wrap_small (k := k) (by unfold maxLen at hl; omega)
    have hnc : noc s[k] = (decide ((s[k].toNat : Int) < 97) || decide ((122 : Int) < s[k].toNat)) := rfl
    have key := ih (k + 1) ((k : Int) + 1) (by omega) (by omega)
    clear ih
    rw [List.drop_eq_getElem_cons hlt]
    rw [List.any_cons]
    generalize (s.drop (k + 1)).any (noc) = B at key ⊢
    rw [loopL_go0 hF]
    rw [hnc]; by_cases c1 : (s[k].toNat : Int) < 97 <;> by_cases c2 : (122 : Int) < s[k].toNat <;>
      first
      | omega
      | (simp [b_spec_IsName_0, start, execL, exec, execOps, stepO, wants, fop, eop, Opd.ev, put, V.cells, plain, loadV, cut, isInt, isStr, isBool, bin, binInt, binStr_neq, binStr_eql, un, asList, L.view, viewArgs, V.view, viewL, done, finish, resultsOf, resultOf, comps, comp, giveLs, giveL, arrsOf, V.flat, L.flat, setV, setL, storeV, putAt, thaw, thawL, freezeVs, freezeLs, freezeL, V.mut, L.mut, elemPtr, viewRows, hlt, hw, c1, c2]
         exact key _ _ _ _ _ _ _ _ _ _ _ _ _ _ _ _ _ _ _ _ _)
      | (simp [b_spec_IsName_0, start, execL, exec, execOps, stepO, wants, fop, eop, Opd.ev, put, V.cells, plain, loadV, cut, isInt, isStr, isBool, bin, binInt, binStr_neq, binStr_eql, un, asList, L.view, viewArgs, V.view, viewL, done, finish, resultsOf, resultOf, comps, comp, giveLs, giveL, arrsOf, V.flat, L.flat, setV, setL, storeV, putAt, thaw, thawL, freezeVs, freezeLs, freezeL, V.mut, L.mut, elemPtr, viewRows, hlt, hw, c1, c2, Runs_some]; done)
theorem sin_loop' {s : List UInt8} (hl : s.length ≤ maxLen) : ∀ (m k : Nat) (i : Int), i = k → k + m = s.length → ∀ (x1 x2 x4 x5 x6 x7 x8 x9 x10 x11 x12 x13 x14 x15 x16 x17 x18 x19 x20 x21 x22 : V) (σ : St), σ = ⟨(vstr s :: x1 :: x2 :: vint .i64 i :: x4 :: x5 :: x6 :: x7 :: x8 :: x9 :: x10 :: x11 :: x12 :: x13 :: x14 :: x15 :: x16 :: x17 :: x18 :: x19 :: x20 :: x21 :: x22 :: []), []⟩ →
    Runs (loopL (exec (callL Ph extF) loopL b_spec_IsName_0) σ) fun e σ' => (e = .exit 0 ∧ (s.drop k).any (noc) = false ∧ ∃ (x1 x2 x4 x5 x6 x7 x8 x9 x10 x11 x12 x13 x14 x15 x16 x17 x18 x19 x20 x21 x22 : V), σ' = ⟨(vstr s :: x1 :: x2 :: vint .i64 (s.length : Nat) :: x4 :: x5 :: x6 :: x7 :: x8 :: x9 :: x10 :: x11 :: x12 :: x13 :: x14 :: x15 :: x16 :: x17 :: x18 :: x19 :: x20 :: x21 :: x22 :: []), []⟩) ∨ (e = .ret ∧ (s.drop k).any (noc) = true ∧ σ'.t.length = 23 ∧ σ'.t[2]? = some (vbool false)) := by
  intro m k i hi hk x1 x2 x4 x5 x6 x7 x8 x9 x10 x11 x12 x13 x14 x15 x16 x17 x18 x19 x20 x21 x22 σ hσ
  subst hσ
  exact sin_loop hl m k i hi hk x1 x2 x4 x5 x6 x7 x8 x9 x10 x11 x12 x13 x14 x15 x16 x17 x18 x19 x20 x21 x22
theorem spec_IsName_ok {s : List UInt8} (hl : s.length ≤ maxLen) : callL Ph extF 177 [vstr s] = some (vbool (isName s)) := by
  refine callL_fn (fn := f_spec_IsName) rfl ?_
  obtain ⟨e, σ', q1, q3⟩ := (sin_loop hl s.length 0 0 rfl (by omega) (.tup []) (vbool false) (.tup []) (.tup []) (.tup []) (.tup []) (.tup []) (.tup []) (.tup []) (.tup []) (.tup []) (.tup []) (.tup []) (.tup []) (.tup []) (.tup []) (.tup []) (.tup []) (.tup []) (.tup []) (.tup [])).get
  simp only [List.drop_zero] at q3
  have q6 := spec_l1In_ok s.length 1 8
  generalize hF : exec (callL Ph extF) loopL b_spec_IsName_0 = F at q1
  rcases q3 with ⟨rfl, q4, x1, x2, x4, x5, x6, x7, x8, x9, x10, x11, x12, x13, x14, x15, x16, x17, x18, x19, x20, x21, x22, rfl⟩ | ⟨rfl, q4, q5, q7⟩
  · simp [f_spec_IsName, start, execL, exec, execOps, stepO, wants, fop, eop, Opd.ev, put, V.cells, plain, loadV, cut, isInt, isStr, isBool, bin, binInt, binStr_neq, binStr_eql, un, asList, L.view, viewArgs, V.view, viewL, done, finish, resultsOf, resultOf, comps, comp, giveLs, giveL, arrsOf, V.flat, L.flat, setV, setL, storeV, putAt, thaw, thawL, freezeVs, freezeLs, freezeL, V.mut, L.mut, elemPtr, viewRows, hF, q1, q6, isName, q4]
  · obtain ⟨_, q8⟩ := List.getElem?_eq_some_iff.1 q7
    simp [f_spec_IsName, start, execL, exec, execOps, stepO, wants, fop, eop, Opd.ev, put, V.cells, plain, loadV, cut, isInt, isStr, isBool, bin, binInt, binStr_neq, binStr_eql, un, asList, L.view, viewArgs, V.view, viewL, done, finish, resultsOf, resultOf, comps, comp, giveLs, giveL, arrsOf, V.flat, L.flat, setV, setL, storeV, putAt, thaw, thawL, freezeVs, freezeLs, freezeL, V.mut, L.mut, elemPtr, viewRows, hF, q1, q5, q8, isName, q4]

/-! ### Pages -/
def badL (v : Int) : List PV → Bool
  | [.str a, .int _ n] => !(isName a) || (n != v)
  | _ => false
theorem loaded_row {r : List PV} (h : HasL t_LoadedS r) : ∃ a n, r = [.str a, .int .i64 n] ∧ a.length ≤ maxLen := by
  obtain ⟨p0, r1, rfl, g0, k1⟩ := HasL_cons h
  obtain ⟨p1, r2, rfl, g1, k2⟩ := HasL_cons k1
  obtain rfl := HasL_nil k2
  obtain ⟨c0, rfl⟩ := Has_str g0
  obtain ⟨c1, rfl⟩ := Has_int g1
  exact ⟨c0, c1, rfl, g0⟩
def isPage (e0 : Int) (e1 e2 : List UInt8) (e3 : Int) (e4 : List (List PV)) : Bool :=
  !(e4.any (badL e3)) && (((((decide (1 ≤ e0) && decide (e0 ≤ 1000000000000)) && isName e1) && isName e2) && (decide (1 ≤ e3) && decide (e3 ≤ 1000000000000))) && decide ((e4.length : Int) ≤ 8))
theorem iip_loop {e0 : Int} {e1 e2 : List UInt8} {e3 : Int} {e4 e5 : List (List PV)} {e6 : Int} {e7 : List (List PV)} {e8 : Int} {e9 e10 : Bool} (hl : e4.length ≤ maxLen) (hr : ∀ r ∈ e4, HasL t_LoadedS r) : ∀ (m k : Nat) (i : Int), i = k → k + m = e4.length → ∀ (x0 x2 x3 x4 x5 x9 x10 x11 x12 x13 x14 x15 x16 x17 x18 x19 x20 x21 x22 x23 x24 x25 x26 x27 x28 x29 x30 x31 x32 x33 x34 x35 x36 x37 x38 x39 x40 x41 x42 x43 x44 x45 x46 x47 : V) (h : List AObj),
    Runs (loopL (exec (callL Ph extF) loopL b_impl_IsPage_0) ⟨(x0 :: .one (.ptr 0 0 0) :: x2 :: x3 :: x4 :: x5 :: vlst e4 :: vint .i64 e4.length :: vint .i64 i :: x9 :: x10 :: x11 :: x12 :: x13 :: x14 :: x15 :: x16 :: x17 :: x18 :: x19 :: x20 :: x21 :: x22 :: x23 :: x24 :: x25 :: x26 :: x27 :: x28 :: x29 :: x30 :: x31 :: x32 :: x33 :: x34 :: x35 :: x36 :: x37 :: x38 :: x39 :: x40 :: x41 :: x42 :: x43 :: x44 :: x45 :: x46 :: x47 :: []), .box [.pv (.int .i64 e0), .pv (.str e1), .pv (.str e2), .pv (.int .i64 e3), .pv (.lst e4), .pv (.lst e5), .pv (.int .i64 e6), .pv (.lst e7), .pv (.int .i64 e8), .pv (.bool e9), .pv (.bool e10)] :: h⟩) fun e σ' => (e = .exit 0 ∧ (e4.drop k).any (badL e3) = false ∧ ∃ (x0 x2 x3 x4 x5 x9 x10 x11 x12 x13 x14 x15 x16 x17 x18 x19 x20 x21 x22 x23 x24 x25 x26 x27 x28 x29 x30 x31 x32 x33 x34 x35 x36 x37 x38 x39 x40 x41 x42 x43 x44 x45 x46 x47 : V) (h' : List AObj), σ' = ⟨(x0 :: .one (.ptr 0 0 0) :: x2 :: x3 :: x4 :: x5 :: vlst e4 :: vint .i64 e4.length :: vint .i64 (e4.length : Nat) :: x9 :: x10 :: x11 :: x12 :: x13 :: x14 :: x15 :: x16 :: x17 :: x18 :: x19 :: x20 :: x21 :: x22 :: x23 :: x24 :: x25 :: x26 :: x27 :: x28 :: x29 :: x30 :: x31 :: x32 :: x33 :: x34 :: x35 :: x36 :: x37 :: x38 :: x39 :: x40 :: x41 :: x42 :: x43 :: x44 :: x45 :: x46 :: x47 :: []), .box [.pv (.int .i64 e0), .pv (.str e1), .pv (.str e2), .pv (.int .i64 e3), .pv (.lst e4), .pv (.lst e5), .pv (.int .i64 e6), .pv (.lst e7), .pv (.int .i64 e8), .pv (.bool e9), .pv (.bool e10)] :: h'⟩) ∨ (e = .ret ∧ (e4.drop k).any (badL e3) = true ∧ σ'.t.length = 48 ∧ σ'.t[2]? = some (vbool false)) := by
  generalize hF : exec (callL Ph extF) loopL b_impl_IsPage_0 = F
  intro m
  induction m with
  | zero =>
    intro k i hi hk x0 x2 x3 x4 x5 x9 x10 x11 x12 x13 x14 x15 x16 x17 x18 x19 x20 x21 x22 x23 x24 x25 x26 x27 x28 x29 x30 x31 x32 x33 x34 x35 x36 x37 x38 x39 x40 x41 x42 x43 x44 x45 x46 x47 h
    subst hi
    have hk' : k = e4.length := by omega
    subst hk'
    rw [loopL_go0 hF]
    simp (maxSteps := 4000000) [b_impl_IsPage_0, start, execL, exec, execOps, stepO, wants, fop, eop, Opd.ev, put, V.cells, plain, loadV, cut, isInt, isStr, isBool, bin, binInt, binStr_neq, binStr_eql, un, asList, L.view, viewArgs, V.view, viewL, done, finish, resultsOf, resultOf, comps, comp, giveLs, giveL, arrsOf, V.flat, L.flat, setV, setL, storeV, putAt, thaw, thawL, freezeVs, freezeLs, freezeL, V.mut, L.mut, elemPtr, viewRows, findI, Runs_some]
  | succ m ih =>
    intro k i hi hk x0 x2 x3 x4 x5 x9 x10 x11 x12 x13 x14 x15 x16 x17 x18 x19 x20 x21 x22 x23 x24 x25 x26 x27 x28 x29 x30 x31 x32 x33 x34 x35 x36 x37 x38 x39 x40 x41 x42 x43 x44 x45 x46 x47 h
    subst hi
    have hlt : k < e4.length := by omega
    have hw := wrap_small (k := k) (by unfold maxLen at hl; omega)
    obtain ⟨a, n, hrk, ha⟩ := loaded_row (hr _ (List.getElem_mem hlt))
    have e1' := impl_IsName_ok ha
    have hp : badL e3 e4[k] = (!(isName a) || (n != e3)) := by rw [hrk]; rfl
    have key := ih (k + 1) ((k : Int) + 1) (by omega) (by omega)
    clear ih
    rw [List.drop_eq_getElem_cons hlt]
    rw [List.any_cons]
    generalize (e4.drop (k + 1)).any (badL e3) = B at key ⊢
    rw [loopL_go0 hF]
    rw [hp]; cases c1 : isName a <;> cases c2 : (n != e3) <;>
      first
      | omega
      | (simp [b_impl_IsPage_0, start, execL, exec, execOps, stepO, wants, fop, eop, Opd.ev, put, V.cells, plain, loadV, cut, isInt, isStr, isBool, bin, binInt, binStr_neq, binStr_eql, un, asList, L.view, viewArgs, V.view, viewL, done, finish, resultsOf, resultOf, comps, comp, giveLs, giveL, arrsOf, V.flat, L.flat, setV, setL, storeV, putAt, thaw, thawL, freezeVs, freezeLs, freezeL, V.mut, L.mut, elemPtr, viewRows, hlt, hw, hrk, e1', c1, c2]
         exact key _ _ _ _ _ _ _ _ _ _ _ _ _ _ _ _ _ _ _ _ _ _ _ _ _ _ _ _ _ _ _ _ _ _ _ _ _ _ _ _ _ _ _ _ _)
      | (simp [b_impl_IsPage_0, start, execL, exec, execOps, stepO, wants, fop, eop, Opd.ev, put, V.cells, plain, loadV, cut, isInt, isStr, isBool, bin, binInt, binStr_neq, binStr_eql, un, asList, L.view, viewArgs, V.view, viewL, done, finish, resultsOf, resultOf, comps, comp, giveLs, giveL, arrsOf, V.flat, L.flat, setV, setL, storeV, putAt, thaw, thawL, freezeVs, freezeLs, freezeL, V.mut, L.mut, elemPtr, viewRows, hlt, hw, hrk, e1', c1, c2, Runs_some]; done)
theorem iip_loop' {e0 : Int} {e1 e2 : List UInt8} {e3 : Int} {e4 e5 : List (List PV)} {e6 : Int} {e7 : List (List PV)} {e8 : Int} {e9 e10 : Bool} (hl : e4.length ≤ maxLen) (hr : ∀ r ∈ e4, HasL t_LoadedS r) : ∀ (m k : Nat) (i : Int), i = k → k + m = e4.length → ∀ (x0 x2 x3 x4 x5 x9 x10 x11 x12 x13 x14 x15 x16 x17 x18 x19 x20 x21 x22 x23 x24 x25 x26 x27 x28 x29 x30 x31 x32 x33 x34 x35 x36 x37 x38 x39 x40 x41 x42 x43 x44 x45 x46 x47 : V) (h : List AObj) (σ : St), σ = ⟨(x0 :: .one (.ptr 0 0 0) :: x2 :: x3 :: x4 :: x5 :: vlst e4 :: vint .i64 e4.length :: vint .i64 i :: x9 :: x10 :: x11 :: x12 :: x13 :: x14 :: x15 :: x16 :: x17 :: x18 :: x19 :: x20 :: x21 :: x22 :: x23 :: x24 :: x25 :: x26 :: x27 :: x28 :: x29 :: x30 :: x31 :: x32 :: x33 :: x34 :: x35 :: x36 :: x37 :: x38 :: x39 :: x40 :: x41 :: x42 :: x43 :: x44 :: x45 :: x46 :: x47 :: []), .box [.pv (.int .i64 e0), .pv (.str e1), .pv (.str e2), .pv (.int .i64 e3), .pv (.lst e4), .pv (.lst e5), .pv (.int .i64 e6), .pv (.lst e7), .pv (.int .i64 e8), .pv (.bool e9), .pv (.bool e10)] :: h⟩ →
    Runs (loopL (exec (callL Ph extF) loopL b_impl_IsPage_0) σ) fun e σ' => (e = .exit 0 ∧ (e4.drop k).any (badL e3) = false ∧ ∃ (x0 x2 x3 x4 x5 x9 x10 x11 x12 x13 x14 x15 x16 x17 x18 x19 x20 x21 x22 x23 x24 x25 x26 x27 x28 x29 x30 x31 x32 x33 x34 x35 x36 x37 x38 x39 x40 x41 x42 x43 x44 x45 x46 x47 : V) (h' : List AObj), σ' = ⟨(x0 :: .one (.ptr 0 0 0) :: x2 :: x3 :: x4 :: x5 :: vlst e4 :: vint .i64 e4.length :: vint .i64 (e4.length : Nat) :: x9 :: x10 :: x11 :: x12 :: x13 :: x14 :: x15 :: x16 :: x17 :: x18 :: x19 :: x20 :: x21 :: x22 :: x23 :: x24 :: x25 :: x26 :: x27 :: x28 :: x29 :: x30 :: x31 :: x32 :: x33 :: x34 :: x35 :: x36 :: x37 :: x38 :: x39 :: x40 :: x41 :: x42 :: x43 :: x44 :: x45 :: x46 :: x47 :: []), .box [.pv (.int .i64 e0), .pv (.str e1), .pv (.str e2), .pv (.int .i64 e3), .pv (.lst e4), .pv (.lst e5), .pv (.int .i64 e6), .pv (.lst e7), .pv (.int .i64 e8), .pv (.bool e9), .pv (.bool e10)] :: h'⟩) ∨ (e = .ret ∧ (e4.drop k).any (badL e3) = true ∧ σ'.t.length = 48 ∧ σ'.t[2]? = some (vbool false)) := by
  intro m k i hi hk x0 x2 x3 x4 x5 x9 x10 x11 x12 x13 x14 x15 x16 x17 x18 x19 x20 x21 x22 x23 x24 x25 x26 x27 x28 x29 x30 x31 x32 x33 x34 x35 x36 x37 x38 x39 x40 x41 x42 x43 x44 x45 x46 x47 h σ hσ
  subst hσ
  exact iip_loop hl hr m k i hi hk x0 x2 x3 x4 x5 x9 x10 x11 x12 x13 x14 x15 x16 x17 x18 x19 x20 x21 x22 x23 x24 x25 x26 x27 x28 x29 x30 x31 x32 x33 x34 x35 x36 x37 x38 x39 x40 x41 x42 x43 x44 x45 x46 x47 h
theorem impl_IsPage_ok {e0 : Int} {e1 e2 : List UInt8} {e3 : Int} {e4 e5 : List (List PV)} {e6 : Int} {e7 : List (List PV)} {e8 : Int} {e9 e10 : Bool} (h1 : e1.length ≤ maxLen) (h2 : e2.length ≤ maxLen) (h4 : Has (.lst t_LoadedS) (.lst e4)) : callL Ph extF 151 [.agg [.pv (.int .i64 e0), .pv (.str e1), .pv (.str e2), .pv (.int .i64 e3), .pv (.lst e4), .pv (.lst e5), .pv (.int .i64 e6), .pv (.lst e7), .pv (.int .i64 e8), .pv (.bool e9), .pv (.bool e10)]] = some (vbool (isPage e0 e1 e2 e3 e4)) := by
  obtain ⟨hl, hr⟩ := Has_rows h4
  refine callL_fn (fn := f_impl_IsPage) rfl ?_
  obtain ⟨e, σ', q1, q3⟩ := (iip_loop (e0 := e0) (e1 := e1) (e2 := e2) (e3 := e3) (e5 := e5) (e6 := e6) (e7 := e7) (e8 := e8) (e9 := e9) (e10 := e10) hl hr e4.length 0 0 rfl (by omega) (.agg [.pv (.int .i64 e0), .pv (.str e1), .pv (.str e2), .pv (.int .i64 e3), .pv (.lst e4), .pv (.lst e5), .pv (.int .i64 e6), .pv (.lst e7), .pv (.int .i64 e8), .pv (.bool e9), .pv (.bool e10)]) (vbool false) (.tup []) (.tup []) (.one (.ptr 0 0 4)) (.tup []) (.tup []) (.tup []) (.tup []) (.tup []) (.tup []) (.tup []) (.tup []) (.tup []) (.tup []) (.tup []) (.tup []) (.tup []) (.tup []) (.tup []) (.tup []) (.tup []) (.tup []) (.tup []) (.tup []) (.tup []) (.tup []) (.tup []) (.tup []) (.tup []) (.tup []) (.tup []) (.tup []) (.tup []) (.tup []) (.tup []) (.tup []) (.tup []) (.tup []) (.tup []) (.tup []) (.tup []) (.tup []) (.tup []) []).get
  simp only [List.drop_zero] at q3
  have q6 := impl_InRange_ok e0 1 1000000000000
  have q7 := impl_InRange_ok e3 1 1000000000000
  have q8 := impl_IsName_ok h1
  have q9 := impl_IsName_ok h2
  generalize hF : exec (callL Ph extF) loopL b_impl_IsPage_0 = F at q1
  rcases q3 with ⟨rfl, q4, x0, x2, x3, x4, x5, x9, x10, x11, x12, x13, x14, x15, x16, x17, x18, x19, x20, x21, x22, x23, x24, x25, x26, x27, x28, x29, x30, x31, x32, x33, x34, x35, x36, x37, x38, x39, x40, x41, x42, x43, x44, x45, x46, x47, h', rfl⟩ | ⟨rfl, q4, q5, q7⟩
  · simp only [isPage, q4]
    cases c1 : (decide (1 ≤ e0) && decide (e0 ≤ 1000000000000)) <;> cases c2 : isName e1 <;> cases c3 : isName e2 <;> cases c4 : (decide (1 ≤ e3) && decide (e3 ≤ 1000000000000)) <;> rw [c1] at q6 <;> rw [c4] at q7 <;> rw [c2] at q8 <;> rw [c3] at q9 <;> simp [f_impl_IsPage, start, execL, exec, execOps, stepO, wants, fop, eop, Opd.ev, put, V.cells, plain, loadV, cut, isInt, isStr, isBool, bin, binInt, binStr_neq, binStr_eql, un, asList, L.view, viewArgs, V.view, viewL, done, finish, resultsOf, resultOf, comps, comp, giveLs, giveL, arrsOf, V.flat, L.flat, setV, setL, storeV, putAt, thaw, thawL, freezeVs, freezeLs, freezeL, V.mut, L.mut, elemPtr, viewRows, hF, q1, q6, q7, q8, q9]
  · obtain ⟨_, q8⟩ := List.getElem?_eq_some_iff.1 q7
    simp [f_impl_IsPage, start, execL, exec, execOps, stepO, wants, fop, eop, Opd.ev, put, V.cells, plain, loadV, cut, isInt, isStr, isBool, bin, binInt, binStr_neq, binStr_eql, un, asList, L.view, viewArgs, V.view, viewL, done, finish, resultsOf, resultOf, comps, comp, giveLs, giveL, arrsOf, V.flat, L.flat, setV, setL, storeV, putAt, thaw, thawL, freezeVs, freezeLs, freezeL, V.mut, L.mut, elemPtr, viewRows, hF, q1, q5, q8, isPage, q4]
theorem sip_loop {e0 : Int} {e1 e2 : List UInt8} {e3 : Int} {e4 e5 : List (List PV)} {e6 : Int} {e7 : List (List PV)} {e8 : Int} {e9 e10 : Bool} (hl : e4.length ≤ maxLen) (hr : ∀ r ∈ e4, HasL t_LoadedS r) : ∀ (m k : Nat) (i : Int), i = k → k + m = e4.length → ∀ (x0 x2 x4 x5 x6 x7 x8 x9 x10 x11 x12 x13 x14 x15 x16 x17 x18 x19 x20 x21 x22 x23 x24 x25 x26 x27 x28 x29 x30 x31 x32 x33 x34 x35 x36 x37 x38 x39 x40 x41 x42 x43 x44 x45 x46 x47 x48 x49 x50 x51 x52 x53 : V),
    Runs (loopL (exec (callL Ph extF) loopL b_spec_IsPage_0) ⟨(x0 :: .one (.ptr 0 0 0) :: x2 :: vint .i64 i :: x4 :: x5 :: x6 :: x7 :: x8 :: x9 :: x10 :: x11 :: x12 :: x13 :: x14 :: x15 :: x16 :: x17 :: x18 :: x19 :: x20 :: x21 :: x22 :: x23 :: x24 :: x25 :: x26 :: x27 :: x28 :: x29 :: x30 :: x31 :: x32 :: x33 :: x34 :: x35 :: x36 :: x37 :: x38 :: x39 :: x40 :: x41 :: x42 :: x43 :: x44 :: x45 :: x46 :: x47 :: x48 :: x49 :: x50 :: x51 :: x52 :: x53 :: []), [.box [.pv (.int .i64 e0), .pv (.str e1), .pv (.str e2), .pv (.int .i64 e3), .pv (.lst e4), .pv (.lst e5), .pv (.int .i64 e6), .pv (.lst e7), .pv (.int .i64 e8), .pv (.bool e9), .pv (.bool e10)]]⟩) fun e σ' => (e = .exit 0 ∧ (e4.drop k).any (badL e3) = false ∧ ∃ (x0 x2 x4 x5 x6 x7 x8 x9 x10 x11 x12 x13 x14 x15 x16 x17 x18 x19 x20 x21 x22 x23 x24 x25 x26 x27 x28 x29 x30 x31 x32 x33 x34 x35 x36 x37 x38 x39 x40 x41 x42 x43 x44 x45 x46 x47 x48 x49 x50 x51 x52 x53 : V), σ' = ⟨(x0 :: .one (.ptr 0 0 0) :: x2 :: vint .i64 (e4.length : Nat) :: x4 :: x5 :: x6 :: x7 :: x8 :: x9 :: x10 :: x11 :: x12 :: x13 :: x14 :: x15 :: x16 :: x17 :: x18 :: x19 :: x20 :: x21 :: x22 :: x23 :: x24 :: x25 :: x26 :: x27 :: x28 :: x29 :: x30 :: x31 :: x32 :: x33 :: x34 :: x35 :: x36 :: x37 :: x38 :: x39 :: x40 :: x41 :: x42 :: x43 :: x44 :: x45 :: x46 :: x47 :: x48 :: x49 :: x50 :: x51 :: x52 :: x53 :: []), [.box [.pv (.int .i64 e0), .pv (.str e1), .pv (.str e2), .pv (.int .i64 e3), .pv (.lst e4), .pv (.lst e5), .pv (.int .i64 e6), .pv (.lst e7), .pv (.int .i64 e8), .pv (.bool e9), .pv (.bool e10)]]⟩) ∨ (e = .ret ∧ (e4.drop k).any (badL e3) = true ∧ σ'.t.length = 54 ∧ σ'.t[2]? = some (vbool false)) := by
  generalize hF : exec (callL Ph extF) loopL b_spec_IsPage_0 = F
  intro m
  induction m with
  | zero =>
    intro k i hi hk x0 x2 x4 x5 x6 x7 x8 x9 x10 x11 x12 x13 x14 x15 x16 x17 x18 x19 x20 x21 x22 x23 x24 x25 x26 x27 x28 x29 x30 x31 x32 x33 x34 x35 x36 x37 x38 x39 x40 x41 x42 x43 x44 x45 x46 x47 x48 x49 x50 x51 x52 x53
    subst hi
    have hk' : k = e4.length := by omega
    subst hk'
    rw [loopL_go0 hF]
    simp (maxSteps := 4000000) [b_spec_IsPage_0, start, execL, exec, execOps, stepO, wants, fop, eop, Opd.ev, put, V.cells, plain, loadV, cut, isInt, isStr, isBool, bin, binInt, binStr_neq, binStr_eql, un, asList, L.view, viewArgs, V.view, viewL, done, finish, resultsOf, resultOf, comps, comp, giveLs, giveL, arrsOf, V.flat, L.flat, setV, setL, storeV, putAt, thaw, thawL, freezeVs, freezeLs, freezeL, V.mut, L.mut, elemPtr, viewRows, findI, Runs_some]
  | succ m ih =>
    intro k i hi hk x0 x2 x4 x5 x6 x7 x8 x9 x10 x11 x12 x13 x14 x15 x16 x17 x18 x19 x20 x21 x22 x23 x24 x25 x26 x27 x28 x29 x30 x31 x32 x33 x34 x35 x36 x37 x38 x39 x40 x41 x42 x43 x44 x45 x46 x47 x48 x49 x50 x51 x52 x53
    subst hi
    have hlt : k < e4.length := by omega
    have hw := wrap_small (k := k) (by unfold maxLen at hl; omega)
    obtain ⟨a, n, hrk, ha⟩ := loaded_row (hr _ (List.getElem_mem hlt))
    have e1' := spec_IsName_ok ha
    have hp : badL e3 e4[k] = (!(isName a) || (n != e3)) := by rw [hrk]; rfl
    have key := ih (k + 1) ((k : Int) + 1) (by omega) (by omega)
    clear ih
    rw [List.drop_eq_getElem_cons hlt]
    rw [List.any_cons]
    generalize (e4.drop (k + 1)).any (badL e3) = B at key ⊢
    rw [loopL_go0 hF]
    rw [hp]; cases c1 : isName a <;> cases c2 : (n != e3) <;>
      first
      | omega
      | (simp [b_spec_IsPage_0, start, execL, exec, execOps, stepO, wants, fop, eop, Opd.ev, put, V.cells, plain, loadV, cut, isInt, isStr, isBool, bin, binInt, binStr_neq, binStr_eql, un, asList, L.view, viewArgs, V.view, viewL, done, finish, resultsOf, resultOf, comps, comp, giveLs, giveL, arrsOf, V.flat, L.flat, setV, setL, storeV, putAt, thaw, thawL, freezeVs, freezeLs, freezeL, V.mut, L.mut, elemPtr, viewRows, hlt, hw, hrk, e1', c1, c2]
         exact key _ _ _ _ _ _ _ _ _ _ _ _ _ _ _ _ _ _ _ _ _ _ _ _ _ _ _ _ _ _ _ _ _ _ _ _ _ _ _ _ _ _ _ _ _ _ _ _ _ _ _ _)
      | (simp [b_spec_IsPage_0, start, execL, exec, execOps, stepO, wants, fop, eop, Opd.ev, put, V.cells, plain, loadV, cut, isInt, isStr, isBool, bin, binInt, binStr_neq, binStr_eql, un, asList, L.view, viewArgs, V.view, viewL, done, finish, resultsOf, resultOf, comps, comp, giveLs, giveL, arrsOf, V.flat, L.flat, setV, setL, storeV, putAt, thaw, thawL, freezeVs, freezeLs, freezeL, V.mut, L.mut, elemPtr, viewRows, hlt, hw, hrk, e1', c1, c2, Runs_some]; done)
theorem sip_loop' {e0 : Int} {e1 e2 : List UInt8} {e3 : Int} {e4 e5 : List (List PV)} {e6 : Int} {e7 : List (List PV)} {e8 : Int} {e9 e10 : Bool} (hl : e4.length ≤ maxLen) (hr : ∀ r ∈ e4, HasL t_LoadedS r) : ∀ (m k : Nat) (i : Int), i = k → k + m = e4.length → ∀ (x0 x2 x4 x5 x6 x7 x8 x9 x10 x11 x12 x13 x14 x15 x16 x17 x18 x19 x20 x21 x22 x23 x24 x25 x26 x27 x28 x29 x30 x31 x32 x33 x34 x35 x36 x37 x38 x39 x40 x41 x42 x43 x44 x45 x46 x47 x48 x49 x50 x51 x52 x53 : V) (σ : St), σ = ⟨(x0 :: .one (.ptr 0 0 0) :: x2 :: vint .i64 i :: x4 :: x5 :: x6 :: x7 :: x8 :: x9 :: x10 :: x11 :: x12 :: x13 :: x14 :: x15 :: x16 :: x17 :: x18 :: x19 :: x20 :: x21 :: x22 :: x23 :: x24 :: x25 :: x26 :: x27 :: x28 :: x29 :: x30 :: x31 :: x32 :: x33 :: x34 :: x35 :: x36 :: x37 :: x38 :: x39 :: x40 :: x41 :: x42 :: x43 :: x44 :: x45 :: x46 :: x47 :: x48 :: x49 :: x50 :: x51 :: x52 :: x53 :: []), [.box [.pv (.int .i64 e0), .pv (.str e1), .pv (.str e2), .pv (.int .i64 e3), .pv (.lst e4), .pv (.lst e5), .pv (.int .i64 e6), .pv (.lst e7), .pv (.int .i64 e8), .pv (.bool e9), .pv (.bool e10)]]⟩ →
    Runs (loopL (exec (callL Ph extF) loopL b_spec_IsPage_0) σ) fun e σ' => (e = .exit 0 ∧ (e4.drop k).any (badL e3) = false ∧ ∃ (x0 x2 x4 x5 x6 x7 x8 x9 x10 x11 x12 x13 x14 x15 x16 x17 x18 x19 x20 x21 x22 x23 x24 x25 x26 x27 x28 x29 x30 x31 x32 x33 x34 x35 x36 x37 x38 x39 x40 x41 x42 x43 x44 x45 x46 x47 x48 x49 x50 x51 x52 x53 : V), σ' = ⟨(x0 :: .one (.ptr 0 0 0) :: x2 :: vint .i64 (e4.length : Nat) :: x4 :: x5 :: x6 :: x7 :: x8 :: x9 :: x10 :: x11 :: x12 :: x13 :: x14 :: x15 :: x16 :: x17 :: x18 :: x19 :: x20 :: x21 :: x22 :: x23 :: x24 :: x25 :: x26 :: x27 :: x28 :: x29 :: x30 :: x31 :: x32 :: x33 :: x34 :: x35 :: x36 :: x37 :: x38 :: x39 :: x40 :: x41 :: x42 :: x43 :: x44 :: x45 :: x46 :: x47 :: x48 :: x49 :: x50 :: x51 :: x52 :: x53 :: []), [.box [.pv (.int .i64 e0), .pv (.str e1), .pv (.str e2), .pv (.int .i64 e3), .pv (.lst e4), .pv (.lst e5), .pv (.int .i64 e6), .pv (.lst e7), .pv (.int .i64 e8), .pv (.bool e9), .pv (.bool e10)]]⟩) ∨ (e = .ret ∧ (e4.drop k).any (badL e3) = true ∧ σ'.t.length = 54 ∧ σ'.t[2]? = some (vbool false)) := by
  intro m k i hi hk x0 x2 x4 x5 x6 x7 x8 x9 x10 x11 x12 x13 x14 x15 x16 x17 x18 x19 x20 x21 x22 x23 x24 x25 x26 x27 x28 x29 x30 x31 x32 x33 x34 x35 x36 x37 x38 x39 x40 x41 x42 x43 x44 x45 x46 x47 x48 x49 x50 x51 x52 x53 σ hσ
  subst hσ
  exact sip_loop hl hr m k i hi hk x0 x2 x4 x5 x6 x7 x8 x9 x10 x11 x12 x13 x14 x15 x16 x17 x18 x19 x20 x21 x22 x23 x24 x25 x26 x27 x28 x29 x30 x31 x32 x33 x34 x35 x36 x37 x38 x39 x40 x41 x42 x43 x44 x45 x46 x47 x48 x49 x50 x51 x52 x53
theorem spec_IsPage_ok {e0 : Int} {e1 e2 : List UInt8} {e3 : Int} {e4 e5 : List (List PV)} {e6 : Int} {e7 : List (List PV)} {e8 : Int} {e9 e10 : Bool} (h1 : e1.length ≤ maxLen) (h2 : e2.length ≤ maxLen) (h4 : Has (.lst t_LoadedS) (.lst e4)) : callL Ph extF 149 [.agg [.pv (.int .i64 e0), .pv (.str e1), .pv (.str e2), .pv (.int .i64 e3), .pv (.lst e4), .pv (.lst e5), .pv (.int .i64 e6), .pv (.lst e7), .pv (.int .i64 e8), .pv (.bool e9), .pv (.bool e10)]] = some (vbool (isPage e0 e1 e2 e3 e4)) := by
  obtain ⟨hl, hr⟩ := Has_rows h4
  refine callL_fn (fn := f_spec_IsPage) rfl ?_
  obtain ⟨e, σ', q1, q3⟩ := (sip_loop (e0 := e0) (e1 := e1) (e2 := e2) (e3 := e3) (e5 := e5) (e6 := e6) (e7 := e7) (e8 := e8) (e9 := e9) (e10 := e10) hl hr e4.length 0 0 rfl (by omega) (.agg [.pv (.int .i64 e0), .pv (.str e1), .pv (.str e2), .pv (.int .i64 e3), .pv (.lst e4), .pv (.lst e5), .pv (.int .i64 e6), .pv (.lst e7), .pv (.int .i64 e8), .pv (.bool e9), .pv (.bool e10)]) (vbool false) (.tup []) (.tup []) (.tup []) (.tup []) (.tup []) (.tup []) (.tup []) (.tup []) (.tup []) (.tup []) (.tup []) (.tup []) (.tup []) (.tup []) (.tup []) (.tup []) (.tup []) (.tup []) (.tup []) (.tup []) (.tup []) (.tup []) (.tup []) (.tup []) (.tup []) (.tup []) (.tup []) (.tup []) (.tup []) (.tup []) (.tup []) (.tup []) (.tup []) (.tup []) (.tup []) (.tup []) (.tup []) (.tup []) (.tup []) (.tup []) (.tup []) (.tup []) (.tup []) (.tup []) (.tup []) (.tup []) (.tup []) (.tup []) (.tup []) (.tup [])).get
  simp only [List.drop_zero] at q3
  have q6 := spec_l1In_ok e0 1 1000000000000
  have q7 := spec_l1In_ok e3 1 1000000000000
  have q8 := spec_IsName_ok h1
  have q9 := spec_IsName_ok h2
  generalize hF : exec (callL Ph extF) loopL b_spec_IsPage_0 = F at q1
  rcases q3 with ⟨rfl, q4, x0, x2, x4, x5, x6, x7, x8, x9, x10, x11, x12, x13, x14, x15, x16, x17, x18, x19, x20, x21, x22, x23, x24, x25, x26, x27, x28, x29, x30, x31, x32, x33, x34, x35, x36, x37, x38, x39, x40, x41, x42, x43, x44, x45, x46, x47, x48, x49, x50, x51, x52, x53, rfl⟩ | ⟨rfl, q4, q5, q7⟩
  · simp only [isPage, q4]
    cases c1 : (decide (1 ≤ e0) && decide (e0 ≤ 1000000000000)) <;> cases c2 : isName e1 <;> cases c3 : isName e2 <;> cases c4 : (decide (1 ≤ e3) && decide (e3 ≤ 1000000000000)) <;> rw [c1] at q6 <;> rw [c4] at q7 <;> rw [c2] at q8 <;> rw [c3] at q9 <;> simp [f_spec_IsPage, start, execL, exec, execOps, stepO, wants, fop, eop, Opd.ev, put, V.cells, plain, loadV, cut, isInt, isStr, isBool, bin, binInt, binStr_neq, binStr_eql, un, asList, L.view, viewArgs, V.view, viewL, done, finish, resultsOf, resultOf, comps, comp, giveLs, giveL, arrsOf, V.flat, L.flat, setV, setL, storeV, putAt, thaw, thawL, freezeVs, freezeLs, freezeL, V.mut, L.mut, elemPtr, viewRows, hF, q1, q6, q7, q8, q9]
  · obtain ⟨_, q8⟩ := List.getElem?_eq_some_iff.1 q7
    simp [f_spec_IsPage, start, execL, exec, execOps, stepO, wants, fop, eop, Opd.ev, put, V.cells, plain, loadV, cut, isInt, isStr, isBool, bin, binInt, binStr_neq, binStr_eql, un, asList, L.view, viewArgs, V.view, viewL, done, finish, resultsOf, resultOf, comps, comp, giveLs, giveL, arrsOf, V.flat, L.flat, setV, setL, storeV, putAt, thaw, thawL, freezeVs, freezeLs, freezeL, V.mut, L.mut, elemPtr, viewRows, hF, q1, q5, q8, isPage, q4]

/-! ### Caches -/
def isC (v : Int) : List PV → Bool
  | .int _ n :: _ => n == v
  | _ => false
theorem cache_row {r : List PV} (h : HasL t_CacheS r) : ∃ n es, r = [.int .i64 n, .lst es] ∧ Has (.lst t_CachedS) (.lst es) := by
  obtain ⟨p0, r1, rfl, g0, k1⟩ := HasL_cons h
  obtain ⟨p1, r2, rfl, g1, k2⟩ := HasL_cons k1
  obtain rfl := HasL_nil k2
  obtain ⟨c0, rfl⟩ := Has_int g0
  obtain ⟨c1, rfl⟩ := Has_lst g1
  exact ⟨c0, c1, rfl, g1⟩
theorem impl_FindCache_ok {rows : List (List PV)} (h : Has (.lst t_CacheS) (.lst rows)) (v : Int) : callL Ph extF 152 [.agg [.pv (.lst rows)], vint .i64 v] = some (vint .i64 (findI (isC v) rows 0)) := by
  obtain ⟨hl, hr⟩ := Has_rows h
  have e1 : callL Ph extF 179 [vlst rows, .one (.fn 180 [[.int .i64 v]])] = some (vint .i64 (findI (isC v) rows 0)) :=
    ixF_ok (z := 2) rfl hl (fun r m => HasL_len (hr r m)) (fun r m => by
      obtain ⟨n, es, rfl, _⟩ := cache_row (hr r m)
      refine callL_fn (fn := f_impl_FindCache_1) rfl ?_
      simp [f_impl_FindCache_1, start, execL, exec, execOps, stepO, wants, fop, eop, Opd.ev, put, V.cells, plain, loadV, cut, isInt, isStr, isBool, bin, binInt, binStr_neq, binStr_eql, un, asList, L.view, viewArgs, V.view, viewL, done, finish, resultsOf, resultOf, comps, comp, giveLs, giveL, arrsOf, V.flat, L.flat, setV, setL, storeV, putAt, thaw, thawL, freezeVs, freezeLs, freezeL, V.mut, L.mut, elemPtr, viewRows, capV, isC])
  refine callL_fn (fn := f_impl_FindCache) rfl ?_
  simp [f_impl_FindCache, start, execL, exec, execOps, stepO, wants, fop, eop, Opd.ev, put, V.cells, plain, loadV, cut, isInt, isStr, isBool, bin, binInt, binStr_neq, binStr_eql, un, asList, L.view, viewArgs, V.view, viewL, done, finish, resultsOf, resultOf, comps, comp, giveLs, giveL, arrsOf, V.flat, L.flat, setV, setL, storeV, putAt, thaw, thawL, freezeVs, freezeLs, freezeL, V.mut, L.mut, elemPtr, viewRows, capsOf, capOf, e1]
theorem sfc_loop {rows : List (List PV)} {v : Int} (hl : rows.length ≤ maxLen) (hr : ∀ r ∈ rows, HasL t_CacheS r) : ∀ (m k : Nat) (i : Int), i = k → k + m = rows.length → ∀ (x0 x3 x4 x6 x7 x8 x9 x10 x11 x12 x13 x14 x15 x16 x17 x18 x19 x20 x21 : V),
    Runs (loopL (exec (callL Ph extF) loopL b_spec_FindCache_0) ⟨(x0 :: vint .i64 v :: .one (.ptr 0 0 0) :: x3 :: x4 :: vint .i64 i :: x6 :: x7 :: x8 :: x9 :: x10 :: x11 :: x12 :: x13 :: x14 :: x15 :: x16 :: x17 :: x18 :: x19 :: x20 :: x21 :: []), [.box [.pv (.lst rows)]]⟩) fun e σ' => (e = .exit 0 ∧ findI (isC v) (rows.drop k) k = -1 ∧ ∃ (x0 x3 x4 x6 x7 x8 x9 x10 x11 x12 x13 x14 x15 x16 x17 x18 x19 x20 x21 : V), σ' = ⟨(x0 :: vint .i64 v :: .one (.ptr 0 0 0) :: x3 :: x4 :: vint .i64 (rows.length : Nat) :: x6 :: x7 :: x8 :: x9 :: x10 :: x11 :: x12 :: x13 :: x14 :: x15 :: x16 :: x17 :: x18 :: x19 :: x20 :: x21 :: []), [.box [.pv (.lst rows)]]⟩) ∨ (e = .ret ∧ σ'.t.length = 22 ∧ σ'.t[4]? = some (vint .i64 (findI (isC v) (rows.drop k) k))) := by
  generalize hF : exec (callL Ph extF) loopL b_spec_FindCache_0 = F
  intro m
  induction m with
  | zero =>
    intro k i hi hk x0 x3 x4 x6 x7 x8 x9 x10 x11 x12 x13 x14 x15 x16 x17 x18 x19 x20 x21
    subst hi
    have hk' : k = rows.length := by omega
    subst hk'
    rw [loopL_go0 hF]
    simp (maxSteps := 4000000) [b_spec_FindCache_0, start, execL, exec, execOps, stepO, wants, fop, eop, Opd.ev, put, V.cells, plain, loadV, cut, isInt, isStr, isBool, bin, binInt, binStr_neq, binStr_eql, un, asList, L.view, viewArgs, V.view, viewL, done, finish, resultsOf, resultOf, comps, comp, giveLs, giveL, arrsOf, V.flat, L.flat, setV, setL, storeV, putAt, thaw, thawL, freezeVs, freezeLs, freezeL, V.mut, L.mut, elemPtr, viewRows, findI, Runs_some]
  | succ m ih =>
    intro k i hi hk x0 x3 x4 x6 x7 x8 x9 x10 x11 x12 x13 x14 x15 x16 x17 x18 x19 x20 x21
    subst hi
    have hlt : k < rows.length := by omega
    have hw := wrap_small (k := k) (by unfold maxLen at hl; omega)
    obtain ⟨n, es, hrk, _⟩ := cache_row (hr _ (List.getElem_mem hlt))
    have hp : isC v rows[k] = (n == v) := by rw [hrk]; rfl
    have key := ih (k + 1) ((k : Int) + 1) (by omega) (by omega)
    clear ih
    rw [List.drop_eq_getElem_cons hlt]
    simp only [findI]
    generalize findI (isC v) (rows.drop (k + 1)) (k + 1) = B at key ⊢
    rw [loopL_go0 hF]
    rw [hp]; cases c1 : (n == v) <;>
      first
      | omega
      | (simp [b_spec_FindCache_0, start, execL, exec, execOps, stepO, wants, fop, eop, Opd.ev, put, V.cells, plain, loadV, cut, isInt, isStr, isBool, bin, binInt, binStr_neq, binStr_eql, un, asList, L.view, viewArgs, V.view, viewL, done, finish, resultsOf, resultOf, comps, comp, giveLs, giveL, arrsOf, V.flat, L.flat, setV, setL, storeV, putAt, thaw, thawL, freezeVs, freezeLs, freezeL, V.mut, L.mut, elemPtr, viewRows, hlt, hw, hrk, c1]
         exact key _ _ _ _ _ _ _ _ _ _ _ _ _ _ _ _ _ _ _)
      | (simp [b_spec_FindCache_0, start, execL, exec, execOps, stepO, wants, fop, eop, Opd.ev, put, V.cells, plain, loadV, cut, isInt, isStr, isBool, bin, binInt, binStr_neq, binStr_eql, un, asList, L.view, viewArgs, V.view, viewL, done, finish, resultsOf, resultOf, comps, comp, giveLs, giveL, arrsOf, V.flat, L.flat, setV, setL, storeV, putAt, thaw, thawL, freezeVs, freezeLs, freezeL, V.mut, L.mut, elemPtr, viewRows, hlt, hw, hrk, c1, Runs_some]; done)
theorem sfc_loop' {rows : List (List PV)} {v : Int} (hl : rows.length ≤ maxLen) (hr : ∀ r ∈ rows, HasL t_CacheS r) : ∀ (m k : Nat) (i : Int), i = k → k + m = rows.length → ∀ (x0 x3 x4 x6 x7 x8 x9 x10 x11 x12 x13 x14 x15 x16 x17 x18 x19 x20 x21 : V) (σ : St), σ = ⟨(x0 :: vint .i64 v :: .one (.ptr 0 0 0) :: x3 :: x4 :: vint .i64 i :: x6 :: x7 :: x8 :: x9 :: x10 :: x11 :: x12 :: x13 :: x14 :: x15 :: x16 :: x17 :: x18 :: x19 :: x20 :: x21 :: []), [.box [.pv (.lst rows)]]⟩ →
    Runs (loopL (exec (callL Ph extF) loopL b_spec_FindCache_0) σ) fun e σ' => (e = .exit 0 ∧ findI (isC v) (rows.drop k) k = -1 ∧ ∃ (x0 x3 x4 x6 x7 x8 x9 x10 x11 x12 x13 x14 x15 x16 x17 x18 x19 x20 x21 : V), σ' = ⟨(x0 :: vint .i64 v :: .one (.ptr 0 0 0) :: x3 :: x4 :: vint .i64 (rows.length : Nat) :: x6 :: x7 :: x8 :: x9 :: x10 :: x11 :: x12 :: x13 :: x14 :: x15 :: x16 :: x17 :: x18 :: x19 :: x20 :: x21 :: []), [.box [.pv (.lst rows)]]⟩) ∨ (e = .ret ∧ σ'.t.length = 22 ∧ σ'.t[4]? = some (vint .i64 (findI (isC v) (rows.drop k) k))) := by
  intro m k i hi hk x0 x3 x4 x6 x7 x8 x9 x10 x11 x12 x13 x14 x15 x16 x17 x18 x19 x20 x21 σ hσ
  subst hσ
  exact sfc_loop hl hr m k i hi hk x0 x3 x4 x6 x7 x8 x9 x10 x11 x12 x13 x14 x15 x16 x17 x18 x19 x20 x21
theorem spec_FindCache_ok {rows : List (List PV)} (h : Has (.lst t_CacheS) (.lst rows)) (v : Int) : callL Ph extF 150 [.agg [.pv (.lst rows)], vint .i64 v] = some (vint .i64 (findI (isC v) rows 0)) := by
  obtain ⟨hl, hr⟩ := Has_rows h
  refine callL_fn (fn := f_spec_FindCache) rfl ?_
  obtain ⟨e, σ', q1, q3⟩ := (sfc_loop (v := v) hl hr rows.length 0 0 rfl (by omega) (.agg [.pv (.lst rows)]) (.tup []) (vint .i64 0) (.tup []) (.tup []) (.tup []) (.tup []) (.tup []) (.tup []) (.tup []) (.tup []) (.tup []) (.tup []) (.tup []) (.tup []) (.tup []) (.tup []) (.tup []) (.tup [])).get
  simp only [List.drop_zero] at q3
  generalize hF : exec (callL Ph extF) loopL b_spec_FindCache_0 = F at q1
  rcases q3 with ⟨rfl, q4, x0, x3, x4, x6, x7, x8, x9, x10, x11, x12, x13, x14, x15, x16, x17, x18, x19, x20, x21, rfl⟩ | ⟨rfl, q5, q7⟩
  · rw [q4]
    simp [f_spec_FindCache, start, execL, exec, execOps, stepO, wants, fop, eop, Opd.ev, put, V.cells, plain, loadV, cut, isInt, isStr, isBool, bin, binInt, binStr_neq, binStr_eql, un, asList, L.view, viewArgs, V.view, viewL, done, finish, resultsOf, resultOf, comps, comp, giveLs, giveL, arrsOf, V.flat, L.flat, setV, setL, storeV, putAt, thaw, thawL, freezeVs, freezeLs, freezeL, V.mut, L.mut, elemPtr, viewRows, hF, q1]
  · obtain ⟨_, q8⟩ := List.getElem?_eq_some_iff.1 q7
    simp [f_spec_FindCache, start, execL, exec, execOps, stepO, wants, fop, eop, Opd.ev, put, V.cells, plain, loadV, cut, isInt, isStr, isBool, bin, binInt, binStr_neq, binStr_eql, un, asList, L.view, viewArgs, V.view, viewL, done, finish, resultsOf, resultOf, comps, comp, giveLs, giveL, arrsOf, V.flat, L.flat, setV, setL, storeV, putAt, thaw, thawL, freezeVs, freezeLs, freezeL, V.mut, L.mut, elemPtr, viewRows, hF, q1, q5, q8]

end Gi
