/- Numbers as bytes: how many. -/
import Derived.Test.YtgpnnobfdcbgoaaGreatDoorGtx
namespace Gi
open Go Go.RowKit
set_option linter.unusedSimpArgs false
set_option linter.unusedVariables false
set_option maxHeartbeats 4000000
set_option maxRecDepth 4000

def ones (es : List (List PV)) : Bool := es.all fun e => e.length == 1
/-- how many bytes a number takes -/
def uvL : Nat → Int → Nat
  | 0, _ => 1
  | m + 1, n => if n < 128 then 1 else uvL m (n / 128) + 1
theorem get0 {α : Type} (g : List α) (a : α) (t : List α) : (g ++ a :: t)[g.length]? = some a := by simp
theorem get1 {α : Type} (g : List α) (a b : α) (t : List α) : (g ++ a :: b :: t)[g.length + 1]? = some b := by
  rw [List.getElem?_append_right (by omega)]
  simp
theorem set0 {α : Type} (g : List α) (a y : α) (t : List α) : (g ++ a :: t).set g.length y = g ++ y :: t := by simp
theorem iau_loop : ∀ (m : Nat) (n : Int), 0 ≤ n → n ≤ 1000000000000 → n < 128 ^ (m + 1) → ∀ (g : List AObj) (es : List (List PV)), es.length + m ≤ 1000000000 → ∀ (x0 x2 x3 x4 x6 x7 x8 x9 x10 x11 x12 x13 x14 x15 x16 x17 x18 x19 x20 x21 x22 x23 x24 x25 x26 x27 : V) (σ : St), σ = ⟨(x0 :: vint .i64 n :: x2 :: x3 :: x4 :: .one (.arr g.length) :: x6 :: x7 :: x8 :: x9 :: x10 :: x11 :: x12 :: x13 :: x14 :: x15 :: x16 :: x17 :: x18 :: x19 :: x20 :: x21 :: x22 :: x23 :: x24 :: x25 :: x26 :: x27 :: []), g ++ [.arr 1 es]⟩ →
    Runs (loopL (exec (callL Ph extF) loopL b_impl_AppendUvarint_0) σ) fun e σ' => e = .exit 0 ∧ ∃ (n' : Int) (g' : List AObj) (es' : List (List PV)), (es'.length + 1 = es.length + uvL m n ∧ (ones es = true → ones es' = true)) ∧ ∃ (x0 x2 x3 x4 x6 x7 x8 x9 x10 x11 x12 x13 x14 x15 x16 x17 x18 x19 x20 x21 x22 x23 x24 x25 x26 x27 : V), σ' = ⟨(x0 :: vint .i64 n' :: x2 :: x3 :: x4 :: .one (.arr g'.length) :: x6 :: x7 :: x8 :: x9 :: x10 :: x11 :: x12 :: x13 :: x14 :: x15 :: x16 :: x17 :: x18 :: x19 :: x20 :: x21 :: x22 :: x23 :: x24 :: x25 :: x26 :: x27 :: []), g' ++ [.arr 1 es']⟩ := by
  generalize hF : exec (callL Ph extF) loopL b_impl_AppendUvarint_0 = F
  intro m
  induction m with
  | zero =>
    intro n h0 h2 h1 g es he x0 x2 x3 x4 x6 x7 x8 x9 x10 x11 x12 x13 x14 x15 x16 x17 x18 x19 x20 x21 x22 x23 x24 x25 x26 x27 σ hσ
    subst hσ
    have hn : ¬ (128 : Int) ≤ n := by simp at h1; omega
    have hn' : ¬ (127 : Int) < n := by omega
    rw [loopL_go0 hF]
    simp [b_impl_AppendUvarint_0, start, execL, exec, execOps, stepO, wants, fop, eop, Opd.ev, put, V.cells, plain, loadV, cut, isInt, isStr, isBool, bin, binInt, binStr_neq, binStr_eql, un, asList, L.view, viewArgs, V.view, viewL, done, finish, resultsOf, resultOf, comps, comp, giveLs, giveL, arrsOf, V.flat, L.flat, setV, setL, storeV, putAt, thaw, thawL, freezeVs, freezeLs, freezeL, V.mut, L.mut, elemPtr, viewRows, hn, hn', Runs_some]
    refine ⟨n, g, es, ⟨by simp [uvL], fun h => h⟩, ?_⟩
    simp
  | succ m ih =>
    intro n h0 h2 h1 g es he x0 x2 x3 x4 x6 x7 x8 x9 x10 x11 x12 x13 x14 x15 x16 x17 x18 x19 x20 x21 x22 x23 x24 x25 x26 x27 σ hσ
    subst hσ
    by_cases hn : (128 : Int) ≤ n
    · have hn' : (127 : Int) < n := by omega
      have hq : n.tdiv 128 = n / 128 := Int.tdiv_eq_ediv_of_nonneg h0
      have hq2 : n.fdiv 128 = n / 128 := Int.fdiv_eq_ediv_of_nonneg n (by omega)
      have hw : IntKind.i64.wrap (n / 128) = n / 128 := by rw [IntKind.wrap_i64]; omega
      have h3 : n / 128 < 128 ^ (m + 1) := Int.ediv_lt_of_lt_mul (by omega) (by rw [← Int.pow_succ]; exact h1)
      have b1 : es.length + 1 ≤ 140737488355328 := by omega
      have b2 : es.length + 1 ≤ 9223372036854775807 := by omega
      have hu : uvL (m + 1) n = uvL m (n / 128) + 1 := by
        have : ¬ n < 128 := by omega
        simp [uvL, this]
      have hsh : binShift .shr .i64 n 7 = some (vint .i64 (n / 128)) := by
        have e : (min (Int.toNat 7) IntKind.i64.bits) = 7 := by decide
        simp only [binShift]
        rw [if_neg (by omega)]
        simp only [e]
        rw [show ((2 : Int) ^ 7) = 128 by decide, hq2]
      have key := fun B : Int => ih (n / 128) (by omega) (by omega) h3 (g ++ [.dead, .arr 1 [[.int .u8 B]]]) (es ++ [[.int .u8 B]]) (by simp; omega)
      clear ih
      simp only [List.length_append, List.length_cons, List.length_nil, Nat.zero_add, List.append_assoc, List.cons_append, List.nil_append] at key
      rw [loopL_go0 hF]
      simp [b_impl_AppendUvarint_0, start, execL, exec, execOps, stepO, wants, fop, eop, Opd.ev, put, V.cells, plain, loadV, cut, isInt, isStr, isBool, bin, binInt, binStr_neq, binStr_eql, un, asList, L.view, viewArgs, V.view, viewL, done, finish, resultsOf, resultOf, comps, comp, giveLs, giveL, arrsOf, V.flat, L.flat, setV, setL, storeV, putAt, thaw, thawL, freezeVs, freezeLs, freezeL, V.mut, L.mut, elemPtr, viewRows, hn, hn', hq, hq2, hw, hsh, get0, get1, set0, L.notArr, b1, b2]
      obtain ⟨e, σ', k1, k2, n', g', es', ⟨k3, k4⟩, k5⟩ := (key _ _ _ _ _ _ _ _ _ _ _ _ _ _ _ _ _ _ _ _ _ _ _ _ _ _ _ _ rfl).get
      rw [k1]
      refine ⟨k2, n', g', es', ⟨by rw [k3, hu]; omega, fun h => k4 ?_⟩, k5⟩
      simp only [ones, List.all_append, List.all_cons, List.all_nil] at h ⊢
      simp [h]
    · have hn' : ¬ (127 : Int) < n := by omega
      have hu : uvL (m + 1) n = 1 := by
        have : n < 128 := by omega
        simp [uvL, this]
      rw [loopL_go0 hF]
      simp [b_impl_AppendUvarint_0, start, execL, exec, execOps, stepO, wants, fop, eop, Opd.ev, put, V.cells, plain, loadV, cut, isInt, isStr, isBool, bin, binInt, binStr_neq, binStr_eql, un, asList, L.view, viewArgs, V.view, viewL, done, finish, resultsOf, resultOf, comps, comp, giveLs, giveL, arrsOf, V.flat, L.flat, setV, setL, storeV, putAt, thaw, thawL, freezeVs, freezeLs, freezeL, V.mut, L.mut, elemPtr, viewRows, hn, hn', Runs_some]
      refine ⟨n, g, es, ⟨by rw [hu], fun h => h⟩, ?_⟩
      simp
theorem sau_loop : ∀ (m : Nat) (n : Int), 0 ≤ n → n ≤ 1000000000000 → n < 128 ^ (m + 1) → ∀ (g : List AObj) (es : List (List PV)), es.length + m ≤ 1000000000 → ∀ (x0 x2 x3 x4 x6 x7 x8 x9 x10 x11 x12 x13 x14 x15 x16 x17 x18 x19 x20 x21 x22 x23 x24 x25 x26 x27 x28 : V) (σ : St), σ = ⟨(x0 :: vint .i64 n :: x2 :: x3 :: x4 :: .one (.arr g.length) :: x6 :: x7 :: x8 :: x9 :: x10 :: x11 :: x12 :: x13 :: x14 :: x15 :: x16 :: x17 :: x18 :: x19 :: x20 :: x21 :: x22 :: x23 :: x24 :: x25 :: x26 :: x27 :: x28 :: []), g ++ [.arr 1 es]⟩ →
    Runs (loopL (exec (callL Ph extF) loopL b_spec_AppendUvarint_0) σ) fun e σ' => e = .exit 0 ∧ ∃ (n' : Int) (g' : List AObj) (es' : List (List PV)), (es'.length + 1 = es.length + uvL m n ∧ (ones es = true → ones es' = true)) ∧ ∃ (x0 x2 x3 x4 x6 x7 x8 x9 x10 x11 x12 x13 x14 x15 x16 x17 x18 x19 x20 x21 x22 x23 x24 x25 x26 x27 x28 : V), σ' = ⟨(x0 :: vint .i64 n' :: x2 :: x3 :: x4 :: .one (.arr g'.length) :: x6 :: x7 :: x8 :: x9 :: x10 :: x11 :: x12 :: x13 :: x14 :: x15 :: x16 :: x17 :: x18 :: x19 :: x20 :: x21 :: x22 :: x23 :: x24 :: x25 :: x26 :: x27 :: x28 :: []), g' ++ [.arr 1 es']⟩ := by
  generalize hF : exec (callL Ph extF) loopL b_spec_AppendUvarint_0 = F
  intro m
  induction m with
  | zero =>
    intro n h0 h2 h1 g es he x0 x2 x3 x4 x6 x7 x8 x9 x10 x11 x12 x13 x14 x15 x16 x17 x18 x19 x20 x21 x22 x23 x24 x25 x26 x27 x28 σ hσ
    subst hσ
    have hn : ¬ (128 : Int) ≤ n := by simp at h1; omega
    have hn' : ¬ (127 : Int) < n := by omega
    rw [loopL_go0 hF]
    simp [b_spec_AppendUvarint_0, start, execL, exec, execOps, stepO, wants, fop, eop, Opd.ev, put, V.cells, plain, loadV, cut, isInt, isStr, isBool, bin, binInt, binStr_neq, binStr_eql, un, asList, L.view, viewArgs, V.view, viewL, done, finish, resultsOf, resultOf, comps, comp, giveLs, giveL, arrsOf, V.flat, L.flat, setV, setL, storeV, putAt, thaw, thawL, freezeVs, freezeLs, freezeL, V.mut, L.mut, elemPtr, viewRows, hn, hn', Runs_some]
    refine ⟨n, g, es, ⟨by simp [uvL], fun h => h⟩, ?_⟩
    simp
  | succ m ih =>
    intro n h0 h2 h1 g es he x0 x2 x3 x4 x6 x7 x8 x9 x10 x11 x12 x13 x14 x15 x16 x17 x18 x19 x20 x21 x22 x23 x24 x25 x26 x27 x28 σ hσ
    subst hσ
    by_cases hn : (128 : Int) ≤ n
    · have hn' : (127 : Int) < n := by omega
      have hq : n.tdiv 128 = n / 128 := Int.tdiv_eq_ediv_of_nonneg h0
      have hq2 : n.fdiv 128 = n / 128 := Int.fdiv_eq_ediv_of_nonneg n (by omega)
      have hw : IntKind.i64.wrap (n / 128) = n / 128 := by rw [IntKind.wrap_i64]; omega
      have h3 : n / 128 < 128 ^ (m + 1) := Int.ediv_lt_of_lt_mul (by omega) (by rw [← Int.pow_succ]; exact h1)
      have b1 : es.length + 1 ≤ 140737488355328 := by omega
      have b2 : es.length + 1 ≤ 9223372036854775807 := by omega
      have hu : uvL (m + 1) n = uvL m (n / 128) + 1 := by
        have : ¬ n < 128 := by omega
        simp [uvL, this]
      obtain ⟨A, hA⟩ : ∃ A, binInt .and .i64 n 127 = some (vint .i64 A) := ⟨_, rfl⟩
      obtain ⟨O, hO⟩ : ∃ O, binInt .or .i64 A 128 = some (vint .i64 O) := ⟨_, rfl⟩
      have hsh : binShift .shr .i64 n 7 = some (vint .i64 (n / 128)) := by
        have e : (min (Int.toNat 7) IntKind.i64.bits) = 7 := by decide
        simp only [binShift]
        rw [if_neg (by omega)]
        simp only [e]
        rw [show ((2 : Int) ^ 7) = 128 by decide, hq2]
      have key := fun B : Int => ih (n / 128) (by omega) (by omega) h3 (g ++ [.dead, .arr 1 [[.int .u8 B]]]) (es ++ [[.int .u8 B]]) (by simp; omega)
      clear ih
      simp only [List.length_append, List.length_cons, List.length_nil, Nat.zero_add, List.append_assoc, List.cons_append, List.nil_append] at key
      rw [loopL_go0 hF]
      simp [b_spec_AppendUvarint_0, start, execL, exec, execOps, stepO, wants, fop, eop, Opd.ev, put, V.cells, plain, loadV, cut, isInt, isStr, isBool, bin, binInt, binStr_neq, binStr_eql, un, asList, L.view, viewArgs, V.view, viewL, done, finish, resultsOf, resultOf, comps, comp, giveLs, giveL, arrsOf, V.flat, L.flat, setV, setL, storeV, putAt, thaw, thawL, freezeVs, freezeLs, freezeL, V.mut, L.mut, elemPtr, viewRows, ↓hA, ↓hO, hn, hn', hq, hq2, hw, hsh, get0, get1, set0, L.notArr, b1, b2]
      obtain ⟨e, σ', k1, k2, n', g', es', ⟨k3, k4⟩, k5⟩ := (key _ _ _ _ _ _ _ _ _ _ _ _ _ _ _ _ _ _ _ _ _ _ _ _ _ _ _ _ _ rfl).get
      rw [k1]
      refine ⟨k2, n', g', es', ⟨by rw [k3, hu]; omega, fun h => k4 ?_⟩, k5⟩
      simp only [ones, List.all_append, List.all_cons, List.all_nil] at h ⊢
      simp [h]
    · have hn' : ¬ (127 : Int) < n := by omega
      have hu : uvL (m + 1) n = 1 := by
        have : n < 128 := by omega
        simp [uvL, this]
      rw [loopL_go0 hF]
      simp [b_spec_AppendUvarint_0, start, execL, exec, execOps, stepO, wants, fop, eop, Opd.ev, put, V.cells, plain, loadV, cut, isInt, isStr, isBool, bin, binInt, binStr_neq, binStr_eql, un, asList, L.view, viewArgs, V.view, viewL, done, finish, resultsOf, resultOf, comps, comp, giveLs, giveL, arrsOf, V.flat, L.flat, setV, setL, storeV, putAt, thaw, thawL, freezeVs, freezeLs, freezeL, V.mut, L.mut, elemPtr, viewRows, hn, hn', Runs_some]
      refine ⟨n, g, es, ⟨by rw [hu], fun h => h⟩, ?_⟩
      simp
end Gi
