/- What the formatting functions compute, I: numerals and keys. -/
import Derived.Test.YtldmjoillnhebaaGreatGtbs
import Derived.Lib.ItoaLen
import Derived.Lib.ItoaNum
import Derived.Lib.Join
import Derived.Lib.Bytealg
namespace Gi
open Go Go.RowKit
set_option linter.unusedVariables false
set_option linter.unusedSimpArgs false
attribute [local simp] start execL exec execOps stepO wants fop Opd.ev put bin binInt isBool V.cells done finish resultsOf resultOf comps comp giveLs giveL arrsOf

theorem loopL_go {f g : St → Option (Ex × St)} (h : g = f) (σ : St) : loopL f σ = (match g σ with
    | some (.normal, σ') => loopL f σ'
    | r => r) := by rw [h]; exact loopL_eq f σ

/-- texts alone -/
def strsOf : List (List PV) → Option (List (List UInt8))
  | [] => some []
  | [.str s] :: r => match strsOf r with
    | some xs => some (s :: xs)
    | none => none
  | _ => none
/-- the functions beside the table -/
def extF (k : Nat) (as : List V) : Option V :=
  match k, as with
  | 68, [.one (.pv (.int .i64 n))] => if -9223372036854775808 ≤ n ∧ n ≤ 9223372036854775807 then some (vstr (Lib.itoa n)) else none
  | 54, [.one (.pv (.lst es)), .one (.pv (.str sep))] => match strsOf es with
    | some xs => if xs.length ≤ 140737488355328 ∧ (Lib.join xs sep).length ≤ 140737488355328 then some (vstr (Lib.join xs sep)) else none
    | none => none
  | 363, [.one (.pv (.str a)), .one (.pv (.str b))] => some (vint .i64 (Lib.compareBytes a b))
  | _, _ => none

theorem binStr_neq {a b : List UInt8} : binStr .neq a b = some (vbool (!(a == b))) := rfl
theorem binStr_eql {a b : List UInt8} : binStr .eql a b = some (vbool (a == b)) := rfl

/-! ### Keys -/
theorem impl_InRange_ok (a b c : Int) : callL Ph extF 61 [vint .i64 a, vint .i64 b, vint .i64 c] = some (vbool (decide (b ≤ a) && decide (a ≤ c))) := by
  refine callL_fn (fn := f_impl_InRange) rfl ?_
  by_cases h : b ≤ a <;> simp [f_impl_InRange, h]
theorem spec_l1In_ok (a b c : Int) : callL Ph extF 58 [vint .i64 a, vint .i64 b, vint .i64 c] = some (vbool (decide (b ≤ a) && decide (a ≤ c))) := by
  refine callL_fn (fn := f_spec_l1In) rfl ?_
  by_cases h : b ≤ a <;> simp [f_spec_l1In, h]

/-- a letter or a digit -/
def okc (b : UInt8) : Bool := (decide ((97 : Int) ≤ b.toNat) && decide ((b.toNat : Int) ≤ 122)) || (decide ((48 : Int) ≤ b.toNat) && decide ((b.toNat : Int) ≤ 57))

theorem ikt_loop {s : List UInt8} (hl : s.length ≤ maxLen) : ∀ (m k : Nat) (i : Int), i = k → k + m = s.length → ∀ (x1 x2 x4 x5 x6 x7 x8 x9 x10 x11 x12 x13 x14 x15 x16 x17 x18 x19 x20 x21 x22 x23 x24 x25 x26 x27 x28 x29 x30 x31 x32 x33 x34 x35 : V) (h : List AObj), ∃ e t', loopL (exec (callL Ph extF) loopL b_impl_isKeyText_0) ⟨(vstr s :: x1 :: x2 :: vint .i64 i :: x4 :: x5 :: x6 :: x7 :: x8 :: x9 :: x10 :: x11 :: x12 :: x13 :: x14 :: x15 :: x16 :: x17 :: x18 :: x19 :: x20 :: x21 :: x22 :: x23 :: x24 :: x25 :: x26 :: x27 :: x28 :: x29 :: x30 :: x31 :: x32 :: x33 :: x34 :: x35 :: []), h⟩ = some (e, ⟨t', h⟩) ∧ t'.length = 36 ∧ ((e = .exit 0 ∧ (s.drop k).all okc = true ∧ t'[0]? = some (vstr s)) ∨ (e = .ret ∧ (s.drop k).all okc = false ∧ t'[2]? = some (vbool false))) := by
  generalize hF : exec (callL Ph extF) loopL b_impl_isKeyText_0 = F
  intro m
  induction m with
  | zero =>
    intro k i hi hk x1 x2 x4 x5 x6 x7 x8 x9 x10 x11 x12 x13 x14 x15 x16 x17 x18 x19 x20 x21 x22 x23 x24 x25 x26 x27 x28 x29 x30 x31 x32 x33 x34 x35 h
    subst hi
    have hk' : k = s.length := by omega
    subst hk'
    rw [loopL_go hF]
    simp [b_impl_isKeyText_0, exec, execOps, stepO, wants, fop, Opd.ev, put, bin, binInt, isBool, isStr]
    exact ⟨_, _, ⟨rfl, rfl⟩, rfl, rfl, rfl⟩
  | succ m ih =>
    intro k i hi hk x1 x2 x4 x5 x6 x7 x8 x9 x10 x11 x12 x13 x14 x15 x16 x17 x18 x19 x20 x21 x22 x23 x24 x25 x26 x27 x28 x29 x30 x31 x32 x33 x34 x35 h
    subst hi
    have hlt : k < s.length := by omega
    have hw := wrap_small (k := k) (by unfold maxLen at hl; omega)
    have hd : (s.drop k).all okc = (okc s[k] && (s.drop (k + 1)).all okc) := by rw [List.drop_eq_getElem_cons hlt, List.all_cons]
    have key := ih (k + 1) ((k : Int) + 1) (by omega) (by omega)
    rw [hd, loopL_go hF]
    generalize (s.drop (k + 1)).all okc = B at key ⊢
    clear ih hd
    by_cases c1 : (97 : Int) ≤ s[k].toNat <;> by_cases c2 : (s[k].toNat : Int) ≤ 122 <;> by_cases c3 : (48 : Int) ≤ s[k].toNat <;> by_cases c4 : (s[k].toNat : Int) ≤ 57 <;>
      first
      | omega
      | (have ho : okc s[k] = true := by simp [okc, c1, c2, c3, c4]
         simp only [ho, Bool.true_and]
         simp [b_impl_isKeyText_0, exec, execOps, stepO, wants, fop, Opd.ev, put, bin, binInt, isBool, isStr, isInt, un, hlt, hw, c1, c2, c3, c4]
         exact key _ _ _ _ _ _ _ _ _ _ _ _ _ _ _ _ _ _ _ _ _ _ _ _ _ _ _ _ _ _ _ _ _ _ _)
      | (have ho : okc s[k] = false := by simp [okc, c1, c2, c3, c4]
         simp only [ho, Bool.false_and]
         simp [b_impl_isKeyText_0, exec, execOps, stepO, wants, fop, Opd.ev, put, bin, binInt, isBool, isStr, isInt, un, hlt, hw, c1, c2, c3, c4]
         exact ⟨_, _, ⟨rfl, rfl⟩, rfl, rfl, rfl⟩)

def keyText (s : List UInt8) : Bool := s.all okc && decide (s.length ≤ 12)

theorem impl_isKeyText_ok {s : List UInt8} (hl : s.length ≤ maxLen) : callL Ph extF 90 [vstr s] = some (vbool (keyText s)) := by
  refine callL_fn (fn := f_impl_isKeyText) rfl ?_
  obtain ⟨e, t', e1, e2, e3⟩ := ikt_loop hl s.length 0 0 rfl (by omega) (.tup []) (vbool false) (.tup []) (.tup []) (.tup []) (.tup []) (.tup []) (.tup []) (.tup []) (.tup []) (.tup []) (.tup []) (.tup []) (.tup []) (.tup []) (.tup []) (.tup []) (.tup []) (.tup []) (.tup []) (.tup []) (.tup []) (.tup []) (.tup []) (.tup []) (.tup []) (.tup []) (.tup []) (.tup []) (.tup []) (.tup []) (.tup []) (.tup []) (.tup []) []
  rw [List.drop_zero] at e3
  have hc : (decide ((s.length : Int) ≤ 12)) = decide (s.length ≤ 12) := by congr 1; simp; omega
  rcases e3 with ⟨rfl, e4, e5⟩ | ⟨rfl, e4, e5⟩ <;> obtain ⟨_, e6⟩ := List.getElem?_eq_some_iff.1 e5 <;>
    simp [f_impl_isKeyText, isStr, e1, e2, e6, keyText, e4, hc]

theorem l4t_loop {s : List UInt8} (hl : s.length ≤ maxLen) : ∀ (m k : Nat) (i : Int), i = k → k + m = s.length → ∀ (x1 x2 x4 x5 x6 x7 x8 x9 x10 x11 x12 x13 x14 x15 x16 x17 x18 x19 x20 x21 x22 x23 x24 x25 x26 x27 x28 x29 x30 x31 x32 x33 x34 : V) (h : List AObj), ∃ e t', loopL (exec (callL Ph extF) loopL b_spec_l4Text_0) ⟨(vstr s :: x1 :: x2 :: vint .i64 i :: x4 :: x5 :: x6 :: x7 :: x8 :: x9 :: x10 :: x11 :: x12 :: x13 :: x14 :: x15 :: x16 :: x17 :: x18 :: x19 :: x20 :: x21 :: x22 :: x23 :: x24 :: x25 :: x26 :: x27 :: x28 :: x29 :: x30 :: x31 :: x32 :: x33 :: x34 :: []), h⟩ = some (e, ⟨t', h⟩) ∧ t'.length = 35 ∧ ((e = .exit 0 ∧ (s.drop k).all okc = true ∧ t'[0]? = some (vstr s)) ∨ (e = .ret ∧ (s.drop k).all okc = false ∧ t'[2]? = some (vbool false))) := by
  generalize hF : exec (callL Ph extF) loopL b_spec_l4Text_0 = F
  intro m
  induction m with
  | zero =>
    intro k i hi hk x1 x2 x4 x5 x6 x7 x8 x9 x10 x11 x12 x13 x14 x15 x16 x17 x18 x19 x20 x21 x22 x23 x24 x25 x26 x27 x28 x29 x30 x31 x32 x33 x34 h
    subst hi
    have hk' : k = s.length := by omega
    subst hk'
    rw [loopL_go hF]
    simp [b_spec_l4Text_0, exec, execOps, stepO, wants, fop, Opd.ev, put, bin, binInt, isBool, isStr]
    exact ⟨_, _, ⟨rfl, rfl⟩, rfl, rfl, rfl⟩
  | succ m ih =>
    intro k i hi hk x1 x2 x4 x5 x6 x7 x8 x9 x10 x11 x12 x13 x14 x15 x16 x17 x18 x19 x20 x21 x22 x23 x24 x25 x26 x27 x28 x29 x30 x31 x32 x33 x34 h
    subst hi
    have hlt : k < s.length := by omega
    have hw := wrap_small (k := k) (by unfold maxLen at hl; omega)
    have hd : (s.drop k).all okc = (okc s[k] && (s.drop (k + 1)).all okc) := by rw [List.drop_eq_getElem_cons hlt, List.all_cons]
    have key := ih (k + 1) ((k : Int) + 1) (by omega) (by omega)
    rw [hd, loopL_go hF]
    generalize (s.drop (k + 1)).all okc = B at key ⊢
    clear ih hd
    by_cases c1 : (s[k].toNat : Int) < 97 <;> by_cases c2 : 122 < (s[k].toNat : Int) <;> by_cases c3 : (s[k].toNat : Int) < 48 <;> by_cases c4 : 57 < (s[k].toNat : Int) <;>
      first
      | omega
      | (have ho : okc s[k] = true := by simp [okc]; omega
         simp only [ho, Bool.true_and]
         simp [b_spec_l4Text_0, exec, execOps, stepO, wants, fop, Opd.ev, put, bin, binInt, isBool, isStr, isInt, un, hlt, hw, c1, c2, c3, c4]
         exact key _ _ _ _ _ _ _ _ _ _ _ _ _ _ _ _ _ _ _ _ _ _ _ _ _ _ _ _ _ _ _ _ _ _)
      | (have ho : okc s[k] = false := by simp [okc]; omega
         simp only [ho, Bool.false_and]
         simp [b_spec_l4Text_0, exec, execOps, stepO, wants, fop, Opd.ev, put, bin, binInt, isBool, isStr, isInt, un, hlt, hw, c1, c2, c3, c4]
         exact ⟨_, _, ⟨rfl, rfl⟩, rfl, rfl, rfl⟩)

theorem spec_l4Text_ok {s : List UInt8} (hl : s.length ≤ maxLen) : callL Ph extF 88 [vstr s] = some (vbool (keyText s)) := by
  refine callL_fn (fn := f_spec_l4Text) rfl ?_
  obtain ⟨e, t', e1, e2, e3⟩ := l4t_loop hl s.length 0 0 rfl (by omega) (.tup []) (vbool false) (.tup []) (.tup []) (.tup []) (.tup []) (.tup []) (.tup []) (.tup []) (.tup []) (.tup []) (.tup []) (.tup []) (.tup []) (.tup []) (.tup []) (.tup []) (.tup []) (.tup []) (.tup []) (.tup []) (.tup []) (.tup []) (.tup []) (.tup []) (.tup []) (.tup []) (.tup []) (.tup []) (.tup []) (.tup []) (.tup []) (.tup []) []
  rw [List.drop_zero] at e3
  have hc : (decide ((s.length : Int) ≤ 12)) = decide (s.length ≤ 12) := by congr 1; simp; omega
  rcases e3 with ⟨rfl, e4, e5⟩ | ⟨rfl, e4, e5⟩ <;> obtain ⟨_, e6⟩ := List.getElem?_eq_some_iff.1 e5 <;>
    simp [f_spec_l4Text, isStr, e1, e2, e6, keyText, e4, hc]

end Gi
