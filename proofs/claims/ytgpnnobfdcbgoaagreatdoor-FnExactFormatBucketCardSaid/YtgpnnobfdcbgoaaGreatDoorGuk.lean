/- Keys as bytes: how many. -/
import Derived.Test.YtgpnnobfdcbgoaaGreatDoorGuj
namespace Gi
open Go Go.RowKit
set_option linter.unusedSimpArgs false
set_option linter.unusedVariables false
set_option maxHeartbeats 4000000
set_option maxRecDepth 4000

theorem iek_loop {a b : Int} {s : List UInt8} : ∀ (m : Nat) (i : Int), m ≤ 6 → i = (m : Int) - 1 → ∀ (g : List AObj) (es : List (List PV)), es.length + m ≤ 1000000000 → ∀ (x0 x2 x5 x6 x7 x8 x9 x10 x11 x12 x13 x14 x15 x16 x17 x18 x19 x20 x21 x22 x23 x24 x25 x26 x27 x28 x29 x30 x31 x32 x33 : V) (σ : St), σ = ⟨(x0 :: .one (.ptr 0 0 0) :: x2 :: .one (.arr (g.length + 1)) :: vint .i64 i :: x5 :: x6 :: x7 :: x8 :: x9 :: x10 :: x11 :: x12 :: x13 :: x14 :: x15 :: x16 :: x17 :: x18 :: x19 :: x20 :: x21 :: x22 :: x23 :: x24 :: x25 :: x26 :: x27 :: x28 :: x29 :: x30 :: x31 :: x32 :: x33 :: []), .box [.pv (.int .i64 a), .pv (.int .i64 b), .pv (.str s)] :: (g ++ [.arr 1 es])⟩ →
    Runs (loopL (exec (callL Ph extF) loopL b_impl_EncodeKey_0) σ) fun e σ' => e = .exit 0 ∧ ∃ (g' : List AObj) (es' : List (List PV)), (es'.length = es.length + m ∧ (ones es = true → ones es' = true)) ∧ ∃ (x0 x2 x5 x6 x7 x8 x9 x10 x11 x12 x13 x14 x15 x16 x17 x18 x19 x20 x21 x22 x23 x24 x25 x26 x27 x28 x29 x30 x31 x32 x33 y : V), σ' = ⟨(x0 :: .one (.ptr 0 0 0) :: x2 :: .one (.arr (g'.length + 1)) :: y :: x5 :: x6 :: x7 :: x8 :: x9 :: x10 :: x11 :: x12 :: x13 :: x14 :: x15 :: x16 :: x17 :: x18 :: x19 :: x20 :: x21 :: x22 :: x23 :: x24 :: x25 :: x26 :: x27 :: x28 :: x29 :: x30 :: x31 :: x32 :: x33 :: []), .box [.pv (.int .i64 a), .pv (.int .i64 b), .pv (.str s)] :: (g' ++ [.arr 1 es'])⟩ := by
  generalize hF : exec (callL Ph extF) loopL b_impl_EncodeKey_0 = F
  intro m
  induction m with
  | zero =>
    intro i hm hi g es he x0 x2 x5 x6 x7 x8 x9 x10 x11 x12 x13 x14 x15 x16 x17 x18 x19 x20 x21 x22 x23 x24 x25 x26 x27 x28 x29 x30 x31 x32 x33 σ hσ
    subst hσ
    have hn : ¬ (0 : Int) ≤ i := by omega
    rw [loopL_go0 hF]
    simp [b_impl_EncodeKey_0, start, execL, exec, execOps, stepO, wants, fop, eop, Opd.ev, put, V.cells, plain, loadV, cut, isInt, isStr, isBool, bin, binInt, binStr_neq, binStr_eql, un, asList, L.view, viewArgs, V.view, viewL, done, finish, resultsOf, resultOf, comps, comp, giveLs, giveL, arrsOf, V.flat, L.flat, setV, setL, storeV, putAt, thaw, thawL, freezeVs, freezeLs, freezeL, V.mut, L.mut, elemPtr, viewRows, hn, Runs_some]
    refine ⟨g, es, ⟨rfl, fun h => h⟩, ?_⟩
    simp
  | succ m ih =>
    intro i hm hi g es he x0 x2 x5 x6 x7 x8 x9 x10 x11 x12 x13 x14 x15 x16 x17 x18 x19 x20 x21 x22 x23 x24 x25 x26 x27 x28 x29 x30 x31 x32 x33 σ hσ
    subst hσ
    have hn : (0 : Int) ≤ i := by omega
    have hw8 : IntKind.i64.wrap (8 * i) = 8 * i := by rw [IntKind.wrap_i64]; omega
    have hw1 : IntKind.i64.wrap (i - 1) = i - 1 := by rw [IntKind.wrap_i64]; omega
    have b1 : es.length + 1 ≤ 140737488355328 := by omega
    have b2 : es.length + 1 ≤ 9223372036854775807 := by omega
    obtain ⟨Z, hZ⟩ : ∃ Z, binShift .shr .i64 (IntKind.i64.wrap (b + 1000000000000)) (8 * i) = some (vint .i64 Z) := by
      unfold binShift
      rw [if_neg (by omega)]
      exact ⟨_, rfl⟩
    have key := fun B : Int => ih (i - 1) (by omega) (by omega) (g ++ [.dead, .arr 1 [[.int .u8 B]]]) (es ++ [[.int .u8 B]]) (by simp; omega)
    clear ih
    simp only [List.length_append, List.length_cons, List.length_nil, Nat.zero_add, List.append_assoc, List.cons_append, List.nil_append] at key
    rw [loopL_go0 hF]
    simp [b_impl_EncodeKey_0, start, execL, exec, execOps, stepO, wants, fop, eop, Opd.ev, put, V.cells, plain, loadV, cut, isInt, isStr, isBool, bin, binInt, binStr_neq, binStr_eql, un, asList, L.view, viewArgs, V.view, viewL, done, finish, resultsOf, resultOf, comps, comp, giveLs, giveL, arrsOf, V.flat, L.flat, setV, setL, storeV, putAt, thaw, thawL, freezeVs, freezeLs, freezeL, V.mut, L.mut, elemPtr, viewRows, hn, hw8, hw1, hZ, get0, get1, set0, L.notArr, b1, b2]
    obtain ⟨e, σ', k1, k2, g', es', ⟨k3, k4⟩, k5⟩ := (key _ _ _ _ _ _ _ _ _ _ _ _ _ _ _ _ _ _ _ _ _ _ _ _ _ _ _ _ _ _ _ _ _ rfl).get
    rw [k1]
    refine ⟨k2, g', es', ⟨by rw [k3]; omega, fun h => k4 ?_⟩, k5⟩
    simp only [ones, List.all_append, List.all_cons, List.all_nil] at h ⊢
    simp [h]
theorem sek_loop {a b : Int} {s : List UInt8} (ha : (a != 2) = true) : ∀ (m : Nat) (i : Int), m ≤ 6 → i = (m : Int) - 1 → ∀ (g : List AObj) (es : List (List PV)), es.length + m ≤ 1000000000 → ∀ (x0 x2 x5 x6 x7 x8 x9 x10 x11 x12 x13 x14 x15 x16 x17 x18 x19 x20 x21 x22 x23 x24 x25 x26 x27 x28 x29 x30 x31 x32 x33 x34 x35 x36 x37 : V) (σ : St), σ = ⟨(x0 :: .one (.ptr 0 0 0) :: x2 :: .one (.arr (g.length + 1)) :: vint .i64 i :: x5 :: x6 :: x7 :: x8 :: x9 :: x10 :: x11 :: x12 :: x13 :: x14 :: x15 :: x16 :: x17 :: x18 :: x19 :: x20 :: x21 :: x22 :: x23 :: x24 :: x25 :: x26 :: x27 :: x28 :: x29 :: x30 :: x31 :: x32 :: x33 :: x34 :: x35 :: x36 :: x37 :: []), .box [.pv (.int .i64 a), .pv (.int .i64 b), .pv (.str s)] :: (g ++ [.arr 1 es])⟩ →
    Runs (loopL (exec (callL Ph extF) loopL b_spec_EncodeKey_0) σ) fun e σ' => e = .exit 0 ∧ ∃ (g' : List AObj) (es' : List (List PV)), (es'.length = es.length + m ∧ (ones es = true → ones es' = true)) ∧ ∃ (x0 x2 x5 x6 x7 x8 x9 x10 x11 x12 x13 x14 x15 x16 x17 x18 x19 x20 x21 x22 x23 x24 x25 x26 x27 x28 x29 x30 x31 x32 x33 x34 x35 x36 x37 y : V), σ' = ⟨(x0 :: .one (.ptr 0 0 0) :: x2 :: .one (.arr (g'.length + 1)) :: y :: x5 :: x6 :: x7 :: x8 :: x9 :: x10 :: x11 :: x12 :: x13 :: x14 :: x15 :: x16 :: x17 :: x18 :: x19 :: x20 :: x21 :: x22 :: x23 :: x24 :: x25 :: x26 :: x27 :: x28 :: x29 :: x30 :: x31 :: x32 :: x33 :: x34 :: x35 :: x36 :: x37 :: []), .box [.pv (.int .i64 a), .pv (.int .i64 b), .pv (.str s)] :: (g' ++ [.arr 1 es'])⟩ := by
  generalize hF : exec (callL Ph extF) loopL b_spec_EncodeKey_0 = F
  intro m
  induction m with
  | zero =>
    intro i hm hi g es he x0 x2 x5 x6 x7 x8 x9 x10 x11 x12 x13 x14 x15 x16 x17 x18 x19 x20 x21 x22 x23 x24 x25 x26 x27 x28 x29 x30 x31 x32 x33 x34 x35 x36 x37 σ hσ
    subst hσ
    have hn : ¬ (0 : Int) ≤ i := by omega
    rw [loopL_go0 hF]
    simp [b_spec_EncodeKey_0, start, execL, exec, execOps, stepO, wants, fop, eop, Opd.ev, put, V.cells, plain, loadV, cut, isInt, isStr, isBool, bin, binInt, binStr_neq, binStr_eql, un, asList, L.view, viewArgs, V.view, viewL, done, finish, resultsOf, resultOf, comps, comp, giveLs, giveL, arrsOf, V.flat, L.flat, setV, setL, storeV, putAt, thaw, thawL, freezeVs, freezeLs, freezeL, V.mut, L.mut, elemPtr, viewRows, hn, ha, Runs_some]
    refine ⟨g, es, ⟨rfl, fun h => h⟩, ?_⟩
    simp
  | succ m ih =>
    intro i hm hi g es he x0 x2 x5 x6 x7 x8 x9 x10 x11 x12 x13 x14 x15 x16 x17 x18 x19 x20 x21 x22 x23 x24 x25 x26 x27 x28 x29 x30 x31 x32 x33 x34 x35 x36 x37 σ hσ
    subst hσ
    have hn : (0 : Int) ≤ i := by omega
    have hw8 : IntKind.i64.wrap (8 * i) = 8 * i := by rw [IntKind.wrap_i64]; omega
    have hw1 : IntKind.i64.wrap (i - 1) = i - 1 := by rw [IntKind.wrap_i64]; omega
    have b1 : es.length + 1 ≤ 140737488355328 := by omega
    have b2 : es.length + 1 ≤ 9223372036854775807 := by omega
    obtain ⟨Z, hZ⟩ : ∃ Z, binShift .shr .i64 (IntKind.i64.wrap (b + 1000000000000)) (8 * i) = some (vint .i64 Z) := by
      unfold binShift
      rw [if_neg (by omega)]
      exact ⟨_, rfl⟩
    obtain ⟨A, hA⟩ : ∃ A, binInt .and .i64 Z 255 = some (vint .i64 A) := ⟨_, rfl⟩
    have key := fun B : Int => ih (i - 1) (by omega) (by omega) (g ++ [.dead, .arr 1 [[.int .u8 B]]]) (es ++ [[.int .u8 B]]) (by simp; omega)
    clear ih
    simp only [List.length_append, List.length_cons, List.length_nil, Nat.zero_add, List.append_assoc, List.cons_append, List.nil_append] at key
    rw [loopL_go0 hF]
    simp [b_spec_EncodeKey_0, start, execL, exec, execOps, stepO, wants, fop, eop, Opd.ev, put, V.cells, plain, loadV, cut, isInt, isStr, isBool, bin, binInt, binStr_neq, binStr_eql, un, asList, L.view, viewArgs, V.view, viewL, done, finish, resultsOf, resultOf, comps, comp, giveLs, giveL, arrsOf, V.flat, L.flat, setV, setL, storeV, putAt, thaw, thawL, freezeVs, freezeLs, freezeL, V.mut, L.mut, elemPtr, viewRows, hn, hw8, hw1, hZ, ha, ↓hA, get0, get1, set0, L.notArr, b1, b2]
    obtain ⟨e, σ', k1, k2, g', es', ⟨k3, k4⟩, k5⟩ := (key _ _ _ _ _ _ _ _ _ _ _ _ _ _ _ _ _ _ _ _ _ _ _ _ _ _ _ _ _ _ _ _ _ _ _ _ _ rfl).get
    rw [k1]
    refine ⟨k2, g', es', ⟨by rw [k3]; omega, fun h => k4 ?_⟩, k5⟩
    simp only [ones, List.all_append, List.all_cons, List.all_nil] at h ⊢
    simp [h]
end Gi
