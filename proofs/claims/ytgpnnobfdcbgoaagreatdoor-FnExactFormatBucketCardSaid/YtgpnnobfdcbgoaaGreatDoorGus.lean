/- Sizes of stores, walked. -/
import Derived.Test.YtgpnnobfdcbgoaaGreatDoorGur
namespace Gi
open Go Go.RowKit
set_option linter.unusedSimpArgs false
set_option linter.unusedVariables false
set_option maxHeartbeats 4000000
set_option maxRecDepth 4000

theorem itemS_cells {r : List PV} (h : HasL t_ItemS r) : ∃ a b s fs, r = [.int .i64 a, .int .i64 b, .str s, .lst fs] ∧ s.length ≤ maxLen ∧ Has (.lst t_FieldS) (.lst fs) := by
  obtain ⟨p0, r1, rfl, g0, k1⟩ := HasL_cons h
  obtain ⟨p1, r2, rfl, g1, k2⟩ := HasL_cons k1
  obtain ⟨p2, r3, rfl, g2, k3⟩ := HasL_cons k2
  obtain ⟨p3, r4, rfl, g3, k4⟩ := HasL_cons k3
  obtain rfl := HasL_nil k4
  obtain ⟨c0, rfl⟩ := Has_int g0
  obtain ⟨c1, rfl⟩ := Has_int g1
  obtain ⟨c2, rfl⟩ := Has_str g2
  obtain ⟨c3, rfl⟩ := Has_lst g3
  exact ⟨c0, c1, c2, c3, rfl, g2, g3⟩
theorem iss_loop {rows : List (List PV)} (hl : rows.length ≤ maxLen) (hr : ∀ r ∈ rows, HasL t_ItemS r) : ∀ (m k : Nat) (i : Int), i = k → k + m = rows.length → ∀ (acc : Int) (x0 x1 x2 x4 x5 x6 x10 x11 x12 x13 x14 x15 x16 x17 x18 x19 x20 x21 x22 x23 x24 x25 : V) (h : List AObj) (σ : St), σ = ⟨(x0 :: x1 :: x2 :: vint .i64 acc :: x4 :: x5 :: x6 :: vlst rows :: vint .i64 rows.length :: vint .i64 i :: x10 :: x11 :: x12 :: x13 :: x14 :: x15 :: x16 :: x17 :: x18 :: x19 :: x20 :: x21 :: x22 :: x23 :: x24 :: x25 :: []), h⟩ →
    Runs (loopL (exec (callL Ph extF) loopL b_impl_SizeStore_0) σ) fun e σ' => e = .exit 0 ∧ ∃ (x0 x1 x2 x4 x5 x6 x10 x11 x12 x13 x14 x15 x16 x17 x18 x19 x20 x21 x22 x23 x24 x25 : V) (h' : List AObj), σ' = ⟨(x0 :: x1 :: x2 :: vint .i64 ((rows.drop k).foldl (itE) acc) :: x4 :: x5 :: x6 :: vlst rows :: vint .i64 rows.length :: vint .i64 (rows.length : Nat) :: x10 :: x11 :: x12 :: x13 :: x14 :: x15 :: x16 :: x17 :: x18 :: x19 :: x20 :: x21 :: x22 :: x23 :: x24 :: x25 :: []), h'⟩ := by
  generalize hF : exec (callL Ph extF) loopL b_impl_SizeStore_0 = F
  intro m
  induction m with
  | zero =>
    intro k i hi hk acc x0 x1 x2 x4 x5 x6 x10 x11 x12 x13 x14 x15 x16 x17 x18 x19 x20 x21 x22 x23 x24 x25 h σ hσ
    subst hi hσ
    have hk' : k = rows.length := by omega
    subst hk'
    rw [loopL_go0 hF]
    simp (maxSteps := 4000000) [b_impl_SizeStore_0, start, execL, exec, execOps, stepO, wants, fop, eop, Opd.ev, put, V.cells, plain, loadV, cut, isInt, isStr, isBool, bin, binInt, binStr_neq, binStr_eql, un, asList, L.view, viewArgs, V.view, viewL, done, finish, resultsOf, resultOf, comps, comp, giveLs, giveL, arrsOf, V.flat, L.flat, setV, setL, storeV, putAt, thaw, thawL, freezeVs, freezeLs, freezeL, V.mut, L.mut, elemPtr, viewRows, Runs_some]
  | succ m ih =>
    intro k i hi hk acc x0 x1 x2 x4 x5 x6 x10 x11 x12 x13 x14 x15 x16 x17 x18 x19 x20 x21 x22 x23 x24 x25 h σ hσ
    subst hi hσ
    have hlt : k < rows.length := by omega
    have hw := wrap_small (k := k) (by unfold maxLen at hl; omega)
    obtain ⟨a, b, s, fs, hrk, hsl, hfs⟩ := itemS_cells (hr _ (List.getElem_mem hlt))
    obtain ⟨es1, e1, o1, l1⟩ := impl_EncodeKey_ok (a := a) (b := b) hsl
    obtain ⟨r2, e2, es2, v2, o2, l2⟩ := impl_EncodeRecord_ok hfs
    have w1 := keyL_le (a := a) (b := b) (s := s)
    have w2 := recL_le hfs
    have hw2 : IntKind.i64.wrap ((keyL a b s : Int) + (recL fs : Int)) = (keyL a b s : Int) + (recL fs : Int) := by rw [IntKind.wrap_i64]; omega
    have hs : itE acc rows[k] = IntKind.i64.wrap (acc + ((keyL a b s : Int) + (recL fs : Int))) := by rw [hrk]; rfl
    have key := ih (k + 1) ((k : Int) + 1) (by omega) (by omega) (IntKind.i64.wrap (acc + ((keyL a b s : Int) + (recL fs : Int))))
    clear ih
    rw [List.drop_eq_getElem_cons hlt, List.foldl_cons, hs]
    generalize hB : (rows.drop (k + 1)).foldl (itE) (IntKind.i64.wrap (acc + ((keyL a b s : Int) + (recL fs : Int)))) = B at key ⊢
    rw [loopL_go0 hF]
    simp [b_impl_SizeStore_0, start, execL, exec, execOps, stepO, wants, fop, eop, Opd.ev, put, V.cells, plain, loadV, cut, isInt, isStr, isBool, bin, binInt, binStr_neq, binStr_eql, un, asList, L.view, viewArgs, V.view, viewL, done, finish, resultsOf, resultOf, comps, comp, giveLs, giveL, arrsOf, V.flat, L.flat, setV, setL, storeV, putAt, thaw, thawL, freezeVs, freezeLs, freezeL, V.mut, L.mut, elemPtr, viewRows, hlt, hw, hrk, e1, e2, ↓v2, l1, l2, hw2]
    exact key _ _ _ _ _ _ _ _ _ _ _ _ _ _ _ _ _ _ _ _ _ _ _ _ rfl
end Gi
