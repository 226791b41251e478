/- What the formatting functions compute, I: numerals and keys. -/
import Derived.Test.YthhkaabllddhdaaGreatGtbs
import Derived.Lib.ItoaLen
import Derived.Lib.ItoaNum
import Derived.Lib.Join
namespace Gi
open Go Go.RowKit
set_option linter.unusedVariables false
set_option linter.unusedSimpArgs false

theorem loopL_go {f g : St → Option (Ex × St)} (h : g = f) (σ : St) : loopL f σ = (match g σ with
    | some (.normal, σ') => loopL f σ'
    | r => r) := by rw [h]; exact loopL_eq f σ

/-- texts alone -/
def strsOf : List (List PV) → Option (List (List UInt8))
  | [] => some []
  | [.str s] :: r => match strsOf r with
    | some xs => some (s :: xs)
    | none => none
  | _ => none
/-- the functions beside the table -/
def extF (k : Nat) (as : List V) : Option V :=
  match k, as with
  | 68, [.one (.pv (.int .i64 n))] => if -9223372036854775808 ≤ n ∧ n ≤ 9223372036854775807 then some (vstr (Lib.itoa n)) else none
  | 54, [.one (.pv (.lst es)), .one (.pv (.str sep))] => match strsOf es with
    | some xs => if xs.length ≤ 140737488355328 ∧ (Lib.join xs sep).length ≤ 140737488355328 then some (vstr (Lib.join xs sep)) else none
    | none => none
  | _, _ => none

theorem i64_range {n : Int} (h : Has (.int .i64) (.int .i64 n)) : -9223372036854775808 ≤ n ∧ n ≤ 9223372036854775807 := by
  have := (h.2 : (Lit.int .i64 n).wf = true)
  simp [Lit.wf, IntKind.min, IntKind.max, IntKind.signed, IntKind.bits] at this
  omega

theorem binStr_add {a b : List UInt8} (h : a.length + b.length ≤ 9223372036854775807) : binStr .add a b = some (vstr (a ++ b)) := by simp only [binStr, if_pos h]
theorem binStr_neq {a b : List UInt8} : binStr .neq a b = some (vbool (!(a == b))) := rfl
theorem binStr_eql {a b : List UInt8} : binStr .eql a b = some (vbool (a == b)) := rfl

theorem impl_FormatInt_ok {n : Int} (h : Has (.int .i64) (.int .i64 n)) : callL Ph extF 37 [vint .i64 n] = some (vstr (Lib.itoa n)) := by
  have e : callL Ph extF 68 [vint .i64 n] = some (vstr (Lib.itoa n)) := callL_ext rfl (by simp only [extF, if_pos (i64_range h)])
  refine callL_fn (fn := f_impl_FormatInt) rfl ?_
  simp [f_impl_FormatInt, start, execL, exec, execOps, stepO, wants, fop, eop, Opd.ev, put, V.cells, L.view, viewArgs, V.view, done, finish, resultsOf, resultOf, comps, comp, giveLs, giveL, arrsOf, V.flat, L.flat, setV, setL, e]

/-- the digits of a number, none for 0 -/
def dg10 (u : Nat) : List UInt8 := if u = 0 then [] else Lib.decDigits u
theorem dg10_step {u : Nat} (h : u ≠ 0) : dg10 u = dg10 (u / 10) ++ [UInt8.ofNat (48 + u % 10)] := by
  unfold dg10
  rw [if_neg h]
  by_cases hs : u < 10
  · rw [Lib.decDigits, dif_pos hs, if_pos (by omega), Nat.mod_eq_of_lt hs]; rfl
  · rw [Lib.decDigits, dif_neg hs, if_neg (by omega)]

theorem tq10 (m : Int) : m.tdiv 10 = if 0 ≤ m then m / 10 else -((-m) / 10) := by
  split
  · rw [Int.tdiv_eq_ediv_of_nonneg (by omega)]
  · obtain ⟨n, rfl⟩ : ∃ n, m = -n := ⟨-m, by omega⟩
    rw [Int.neg_tdiv, Int.tdiv_eq_ediv_of_nonneg (by omega), Int.neg_neg]
theorem tm10 (m : Int) : m.tmod 10 = if 0 ≤ m then m % 10 else -((-m) % 10) := by
  split
  · rw [Int.tmod_eq_emod_of_nonneg (by omega)]
  · obtain ⟨n, rfl⟩ : ∃ n, m = -n := ⟨-m, by omega⟩
    rw [Int.neg_tmod, Int.tmod_eq_emod_of_nonneg (by omega), Int.neg_neg]
theorem digit_byte {m : Int} (h0 : -9223372036854775808 ≤ m) (h1 : m ≤ 9223372036854775807) : (if m.tmod 10 < 0 then IntKind.i64.wrap (-m.tmod 10) else m.tmod 10) = ((m.natAbs % 10 : Nat) : Int) := by
  have := tm10 m
  split
  · rw [IntKind.wrap_i64]; omega
  · omega

theorem fi_loop : ∀ (u : Nat) (m : Int), m.natAbs = u → -9223372036854775808 ≤ m → m ≤ 9223372036854775807 → ∀ (s : List UInt8), s.length + (dg10 u).length ≤ 1000 →
    ∀ (x0 : V) (x1 x2 x5 x6 x7 x8 x9 x10 x11 x12 x13 x14 x15 x16 x17 x18 x19 x20 x21 x22 x23 x24 x25 x26 x27 x28 x29 x30 : V) (h : List AObj), ∃ σ', loopL (exec (callL Ph extF) loopL b_spec_FormatInt_0) ⟨(x0 :: x1 :: x2 :: vstr s :: vint .i64 m :: x5 :: x6 :: x7 :: x8 :: x9 :: x10 :: x11 :: x12 :: x13 :: x14 :: x15 :: x16 :: x17 :: x18 :: x19 :: x20 :: x21 :: x22 :: x23 :: x24 :: x25 :: x26 :: x27 :: x28 :: x29 :: x30 :: []), h⟩ = some (.exit 0, σ') ∧ σ'.t.length = 31 ∧ σ'.t[0]? = some x0 ∧ σ'.t[3]? = some (vstr (dg10 u ++ s)) := by
  generalize hF : exec (callL Ph extF) loopL b_spec_FormatInt_0 = F
  intro u
  induction u using Nat.strongRecOn with
  | _ u ih =>
    intro m hu h0 h1 s hs x0 x1 x2 x5 x6 x7 x8 x9 x10 x11 x12 x13 x14 x15 x16 x17 x18 x19 x20 x21 x22 x23 x24 x25 x26 x27 x28 x29 x30 h
    by_cases hz : m = 0
    · subst hz
      have : u = 0 := by omega
      subst this
      rw [loopL_go hF]
      simp [b_spec_FormatInt_0, exec, execOps, stepO, wants, fop, Opd.ev, put, bin, binInt, isBool, dg10]
    · have hu0 : u ≠ 0 := by omega
      have hd := dg10_step hu0
      rw [hd] at hs
      simp only [List.length_append, List.length_cons, List.length_nil] at hs
      have htq := tq10 m
      have hq : IntKind.i64.wrap (m.tdiv 10) = m.tdiv 10 := by rw [IntKind.wrap_i64]; omega
      have hqa : (m.tdiv 10).natAbs = u / 10 := by omega
      have hlt : u / 10 < u := by omega
      have hdb := digit_byte h0 h1
      rw [hu] at hdb
      rw [hd, List.append_assoc]
      have hd10 : u % 10 < 10 := Nat.mod_lt _ (by decide)
      generalize u % 10 = d at *
      obtain ⟨v, hv⟩ : ∃ v : Int, v = 48 + (d : Int) := ⟨_, rfl⟩
      have hw1 : IntKind.i64.wrap (48 + (d : Int)) = v := by rw [IntKind.wrap_i64]; omega
      have hw2 : IntKind.u8.wrap v = v := by rw [IntKind.wrap_u8]; omega
      obtain ⟨c, hc⟩ : ∃ c : UInt8, c = UInt8.ofNat (48 + d) := ⟨_, rfl⟩
      have hby : UInt8.ofNat v.toNat = c := by rw [hc]; congr 1; omega
      have hadd : binStr .add [c] s = some (vstr (c :: s)) := binStr_add (by simp only [List.length_cons, List.length_nil]; omega)
      have hdn : ¬ (d : Int) < 0 := by omega
      rw [← hc]
      clear hc hd
      rw [loopL_go hF]
      by_cases hneg : m.tmod 10 < 0
      · rw [if_pos hneg] at hdb
        simp [b_spec_FormatInt_0, exec, execOps, stepO, wants, fop, eop, Opd.ev, put, bin, binInt, isBool, isInt, un, hz, hneg, hq, hdb, hw1, hw2, V.cells, viewRows, viewL, L.view, asList, bytesOf, freezeVs, freezeLs, freezeL, hby, hadd]
        refine ih _ hlt _ hqa (by omega) (by omega) _ ?_ _ _ _ _ _ _ _ _ _ _ _ _ _ _ _ _ _ _ _ _ _ _ _ _ _ _ _ _ _ _
        simp only [List.length_cons]
        omega
      · rw [if_neg hneg] at hdb
        simp [b_spec_FormatInt_0, exec, execOps, stepO, wants, fop, eop, Opd.ev, put, bin, binInt, isBool, isInt, un, hz, hdn, hq, hdb, hw1, hw2, V.cells, viewRows, viewL, L.view, asList, bytesOf, freezeVs, freezeLs, freezeL, hby, hadd]
        refine ih _ hlt _ hqa (by omega) (by omega) _ ?_ _ _ _ _ _ _ _ _ _ _ _ _ _ _ _ _ _ _ _ _ _ _ _ _ _ _ _ _ _ _
        simp only [List.length_cons]
        omega

theorem dg10_len {u : Nat} (h : u ≤ 9223372036854775808) : (dg10 u).length ≤ 21 := by
  unfold dg10
  split
  · simp
  · by_cases h1 : u ≤ 9223372036854775807
    · have := Lib.itoa_length_le u (by omega) (by omega)
      rw [Lib.itoa, if_neg (by omega)] at this
      simpa using this
    · have : u = 9223372036854775808 := by omega
      subst this
      have := Lib.itoa_length_le (-9223372036854775808) (by omega) (by omega)
      rw [Lib.itoa, if_pos (by omega)] at this
      simp at this
      omega

theorem spec_FormatInt_ok {n : Int} (h : Has (.int .i64) (.int .i64 n)) : callL Ph extF 33 [vint .i64 n] = some (vstr (Lib.itoa n)) := by
  obtain ⟨r0, r1⟩ := i64_range h
  refine callL_fn (fn := f_spec_FormatInt) rfl ?_
  by_cases hz : n = 0
  · subst hz
    have : Lib.itoa 0 = [48] := by rw [Lib.itoa, if_neg (by omega), Lib.decDigits, dif_pos (by decide)]; rfl
    rw [this]
    simp [f_spec_FormatInt, start, execL, exec, execOps, stepO, wants, fop, Opd.ev, put, bin, binInt, isBool, V.cells, done, finish, resultsOf, resultOf, comps, comp, giveLs, giveL, arrsOf]
  · have hl := dg10_len (u := n.natAbs) (by omega)
    obtain ⟨⟨t', h'⟩, e1, e2, e3, e4⟩ := fi_loop n.natAbs n rfl r0 r1 [] (by simp only [List.length_nil]; omega) (vint .i64 n) (.tup []) (vstr []) (.tup []) (vint .i64 n) (vbool (n == 0)) (vint .i64 n) (.tup []) (.tup []) (.tup []) (.tup []) (.tup []) (.tup []) (.tup []) (.tup []) (.tup []) (.tup []) (.tup []) (.tup []) (.tup []) (.tup []) (.tup []) (.tup []) (.tup []) (.tup []) (.tup []) (.tup []) (.tup []) (.tup []) []
    simp only at e2 e3 e4
    obtain ⟨_, e5⟩ := List.getElem?_eq_some_iff.1 e3
    obtain ⟨_, e6⟩ := List.getElem?_eq_some_iff.1 e4
    rw [List.append_nil] at e6
    by_cases hneg : n < 0
    · have : Lib.itoa n = 45 :: dg10 n.natAbs := by rw [Lib.itoa, if_pos hneg, dg10, if_neg (by omega)]
      rw [this]
      have hadd : binStr .add [45] (dg10 n.natAbs) = some (vstr (45 :: dg10 n.natAbs)) := binStr_add (by simp; omega)
      simp [f_spec_FormatInt, start, execL, exec, execOps, stepO, wants, fop, Opd.ev, put, bin, binInt, isBool, V.cells, done, finish, resultsOf, resultOf, comps, comp, giveLs, giveL, arrsOf, hz, hneg, e1, e2, e5, e6, hadd]
    · have : Lib.itoa n = dg10 n.natAbs := by rw [Lib.itoa, if_neg hneg, dg10, if_neg (by omega)]; congr 1; omega
      rw [this]
      simp [f_spec_FormatInt, start, execL, exec, execOps, stepO, wants, fop, Opd.ev, put, bin, binInt, isBool, V.cells, done, finish, resultsOf, resultOf, comps, comp, giveLs, giveL, arrsOf, hz, hneg, e1, e2, e5, e6]

/-! ### Keys -/
theorem impl_InRange_ok (a b c : Int) : callL Ph extF 61 [vint .i64 a, vint .i64 b, vint .i64 c] = some (vbool (decide (b ≤ a) && decide (a ≤ c))) := by
  refine callL_fn (fn := f_impl_InRange) rfl ?_
  by_cases h : b ≤ a <;> simp [f_impl_InRange, start, execL, exec, execOps, stepO, wants, fop, Opd.ev, put, bin, binInt, isBool, V.cells, done, finish, resultsOf, resultOf, comps, comp, giveLs, giveL, arrsOf, h]
theorem spec_l1In_ok (a b c : Int) : callL Ph extF 58 [vint .i64 a, vint .i64 b, vint .i64 c] = some (vbool (decide (b ≤ a) && decide (a ≤ c))) := by
  refine callL_fn (fn := f_spec_l1In) rfl ?_
  by_cases h : b ≤ a <;> simp [f_spec_l1In, start, execL, exec, execOps, stepO, wants, fop, Opd.ev, put, bin, binInt, isBool, V.cells, done, finish, resultsOf, resultOf, comps, comp, giveLs, giveL, arrsOf, h]

/-- a letter or a digit -/
def okc (b : UInt8) : Bool := (decide ((97 : Int) ≤ b.toNat) && decide ((b.toNat : Int) ≤ 122)) || (decide ((48 : Int) ≤ b.toNat) && decide ((b.toNat : Int) ≤ 57))

theorem ikt_loop {s : List UInt8} (hl : s.length ≤ maxLen) : ∀ (m k : Nat) (i : Int), i = k → k + m = s.length → ∀ (x1 x2 x4 x5 x6 x7 x8 x9 x10 x11 x12 x13 x14 x15 x16 x17 x18 x19 x20 x21 x22 x23 x24 x25 x26 x27 x28 x29 x30 x31 x32 x33 x34 x35 : V) (h : List AObj), ∃ e t', loopL (exec (callL Ph extF) loopL b_impl_isKeyText_0) ⟨(vstr s :: x1 :: x2 :: vint .i64 i :: x4 :: x5 :: x6 :: x7 :: x8 :: x9 :: x10 :: x11 :: x12 :: x13 :: x14 :: x15 :: x16 :: x17 :: x18 :: x19 :: x20 :: x21 :: x22 :: x23 :: x24 :: x25 :: x26 :: x27 :: x28 :: x29 :: x30 :: x31 :: x32 :: x33 :: x34 :: x35 :: []), h⟩ = some (e, ⟨t', h⟩) ∧ t'.length = 36 ∧ ((e = .exit 0 ∧ (s.drop k).all okc = true ∧ t'[0]? = some (vstr s)) ∨ (e = .ret ∧ (s.drop k).all okc = false ∧ t'[2]? = some (vbool false))) := by
  generalize hF : exec (callL Ph extF) loopL b_impl_isKeyText_0 = F
  intro m
  induction m with
  | zero =>
    intro k i hi hk x1 x2 x4 x5 x6 x7 x8 x9 x10 x11 x12 x13 x14 x15 x16 x17 x18 x19 x20 x21 x22 x23 x24 x25 x26 x27 x28 x29 x30 x31 x32 x33 x34 x35 h
    subst hi
    have hk' : k = s.length := by omega
    subst hk'
    rw [loopL_go hF]
    simp [b_impl_isKeyText_0, exec, execOps, stepO, wants, fop, Opd.ev, put, bin, binInt, isBool, isStr]
    exact ⟨_, _, ⟨rfl, rfl⟩, rfl, rfl, rfl⟩
  | succ m ih =>
    intro k i hi hk x1 x2 x4 x5 x6 x7 x8 x9 x10 x11 x12 x13 x14 x15 x16 x17 x18 x19 x20 x21 x22 x23 x24 x25 x26 x27 x28 x29 x30 x31 x32 x33 x34 x35 h
    subst hi
    have hlt : k < s.length := by omega
    have hw := wrap_small (k := k) (by unfold maxLen at hl; omega)
    have hd : (s.drop k).all okc = (okc s[k] && (s.drop (k + 1)).all okc) := by rw [List.drop_eq_getElem_cons hlt, List.all_cons]
    have key := ih (k + 1) ((k : Int) + 1) (by omega) (by omega)
    rw [hd, loopL_go hF]
    generalize (s.drop (k + 1)).all okc = B at key ⊢
    clear ih hd
    by_cases c1 : (97 : Int) ≤ s[k].toNat <;> by_cases c2 : (s[k].toNat : Int) ≤ 122 <;> by_cases c3 : (48 : Int) ≤ s[k].toNat <;> by_cases c4 : (s[k].toNat : Int) ≤ 57 <;>
      first
      | omega
      | (have ho : okc s[k] = true := by simp [okc, c1, c2, c3, c4]
         simp only [ho, Bool.true_and]
         simp [b_impl_isKeyText_0, exec, execOps, stepO, wants, fop, Opd.ev, put, bin, binInt, isBool, isStr, isInt, un, hlt, hw, c1, c2, c3, c4]
         exact key _ _ _ _ _ _ _ _ _ _ _ _ _ _ _ _ _ _ _ _ _ _ _ _ _ _ _ _ _ _ _ _ _ _ _)
      | (have ho : okc s[k] = false := by simp [okc, c1, c2, c3, c4]
         simp only [ho, Bool.false_and]
         simp [b_impl_isKeyText_0, exec, execOps, stepO, wants, fop, Opd.ev, put, bin, binInt, isBool, isStr, isInt, un, hlt, hw, c1, c2, c3, c4]
         exact ⟨_, _, ⟨rfl, rfl⟩, rfl, rfl, rfl⟩)

def keyText (s : List UInt8) : Bool := s.all okc && decide (s.length ≤ 12)

theorem impl_isKeyText_ok {s : List UInt8} (hl : s.length ≤ maxLen) : callL Ph extF 90 [vstr s] = some (vbool (keyText s)) := by
  refine callL_fn (fn := f_impl_isKeyText) rfl ?_
  obtain ⟨e, t', e1, e2, e3⟩ := ikt_loop hl s.length 0 0 rfl (by omega) (.tup []) (vbool false) (.tup []) (.tup []) (.tup []) (.tup []) (.tup []) (.tup []) (.tup []) (.tup []) (.tup []) (.tup []) (.tup []) (.tup []) (.tup []) (.tup []) (.tup []) (.tup []) (.tup []) (.tup []) (.tup []) (.tup []) (.tup []) (.tup []) (.tup []) (.tup []) (.tup []) (.tup []) (.tup []) (.tup []) (.tup []) (.tup []) (.tup []) (.tup []) []
  rw [List.drop_zero] at e3
  have hc : (decide ((s.length : Int) ≤ 12)) = decide (s.length ≤ 12) := by congr 1; simp; omega
  rcases e3 with ⟨rfl, e4, e5⟩ | ⟨rfl, e4, e5⟩ <;> obtain ⟨_, e6⟩ := List.getElem?_eq_some_iff.1 e5 <;>
    simp [f_impl_isKeyText, start, execL, exec, execOps, stepO, wants, fop, Opd.ev, put, bin, binInt, isBool, isStr, V.cells, done, finish, resultsOf, resultOf, comps, comp, giveLs, giveL, arrsOf, e1, e2, e6, keyText, e4, hc]

theorem l4t_loop {s : List UInt8} (hl : s.length ≤ maxLen) : ∀ (m k : Nat) (i : Int), i = k → k + m = s.length → ∀ (x1 x2 x4 x5 x6 x7 x8 x9 x10 x11 x12 x13 x14 x15 x16 x17 x18 x19 x20 x21 x22 x23 x24 x25 x26 x27 x28 x29 x30 x31 x32 x33 x34 : V) (h : List AObj), ∃ e t', loopL (exec (callL Ph extF) loopL b_spec_l4Text_0) ⟨(vstr s :: x1 :: x2 :: vint .i64 i :: x4 :: x5 :: x6 :: x7 :: x8 :: x9 :: x10 :: x11 :: x12 :: x13 :: x14 :: x15 :: x16 :: x17 :: x18 :: x19 :: x20 :: x21 :: x22 :: x23 :: x24 :: x25 :: x26 :: x27 :: x28 :: x29 :: x30 :: x31 :: x32 :: x33 :: x34 :: []), h⟩ = some (e, ⟨t', h⟩) ∧ t'.length = 35 ∧ ((e = .exit 0 ∧ (s.drop k).all okc = true ∧ t'[0]? = some (vstr s)) ∨ (e = .ret ∧ (s.drop k).all okc = false ∧ t'[2]? = some (vbool false))) := by
  generalize hF : exec (callL Ph extF) loopL b_spec_l4Text_0 = F
  intro m
  induction m with
  | zero =>
    intro k i hi hk x1 x2 x4 x5 x6 x7 x8 x9 x10 x11 x12 x13 x14 x15 x16 x17 x18 x19 x20 x21 x22 x23 x24 x25 x26 x27 x28 x29 x30 x31 x32 x33 x34 h
    subst hi
    have hk' : k = s.length := by omega
    subst hk'
    rw [loopL_go hF]
    simp [b_spec_l4Text_0, exec, execOps, stepO, wants, fop, Opd.ev, put, bin, binInt, isBool, isStr]
    exact ⟨_, _, ⟨rfl, rfl⟩, rfl, rfl, rfl⟩
  | succ m ih =>
    intro k i hi hk x1 x2 x4 x5 x6 x7 x8 x9 x10 x11 x12 x13 x14 x15 x16 x17 x18 x19 x20 x21 x22 x23 x24 x25 x26 x27 x28 x29 x30 x31 x32 x33 x34 h
    subst hi
    have hlt : k < s.length := by omega
    have hw := wrap_small (k := k) (by unfold maxLen at hl; omega)
    have hd : (s.drop k).all okc = (okc s[k] && (s.drop (k + 1)).all okc) := by rw [List.drop_eq_getElem_cons hlt, List.all_cons]
    have key := ih (k + 1) ((k : Int) + 1) (by omega) (by omega)
    rw [hd, loopL_go hF]
    generalize (s.drop (k + 1)).all okc = B at key ⊢
    clear ih hd
    by_cases c1 : (s[k].toNat : Int) < 97 <;> by_cases c2 : 122 < (s[k].toNat : Int) <;> by_cases c3 : (s[k].toNat : Int) < 48 <;> by_cases c4 : 57 < (s[k].toNat : Int) <;>
      first
      | omega
      | (have ho : okc s[k] = true := by simp [okc]; omega
         simp only [ho, Bool.true_and]
         simp [b_spec_l4Text_0, exec, execOps, stepO, wants, fop, Opd.ev, put, bin, binInt, isBool, isStr, isInt, un, hlt, hw, c1, c2, c3, c4]
         exact key _ _ _ _ _ _ _ _ _ _ _ _ _ _ _ _ _ _ _ _ _ _ _ _ _ _ _ _ _ _ _ _ _ _)
      | (have ho : okc s[k] = false := by simp [okc]; omega
         simp only [ho, Bool.false_and]
         simp [b_spec_l4Text_0, exec, execOps, stepO, wants, fop, Opd.ev, put, bin, binInt, isBool, isStr, isInt, un, hlt, hw, c1, c2, c3, c4]
         exact ⟨_, _, ⟨rfl, rfl⟩, rfl, rfl, rfl⟩)

theorem spec_l4Text_ok {s : List UInt8} (hl : s.length ≤ maxLen) : callL Ph extF 88 [vstr s] = some (vbool (keyText s)) := by
  refine callL_fn (fn := f_spec_l4Text) rfl ?_
  obtain ⟨e, t', e1, e2, e3⟩ := l4t_loop hl s.length 0 0 rfl (by omega) (.tup []) (vbool false) (.tup []) (.tup []) (.tup []) (.tup []) (.tup []) (.tup []) (.tup []) (.tup []) (.tup []) (.tup []) (.tup []) (.tup []) (.tup []) (.tup []) (.tup []) (.tup []) (.tup []) (.tup []) (.tup []) (.tup []) (.tup []) (.tup []) (.tup []) (.tup []) (.tup []) (.tup []) (.tup []) (.tup []) (.tup []) (.tup []) (.tup []) []
  rw [List.drop_zero] at e3
  have hc : (decide ((s.length : Int) ≤ 12)) = decide (s.length ≤ 12) := by congr 1; simp; omega
  rcases e3 with ⟨rfl, e4, e5⟩ | ⟨rfl, e4, e5⟩ <;> obtain ⟨_, e6⟩ := List.getElem?_eq_some_iff.1 e5 <;>
    simp [f_spec_l4Text, start, execL, exec, execOps, stepO, wants, fop, Opd.ev, put, bin, binInt, isBool, isStr, V.cells, done, finish, resultsOf, resultOf, comps, comp, giveLs, giveL, arrsOf, e1, e2, e6, keyText, e4, hc]

end Gi
