/- Sizes of databases, walked; the functions. -/
import Derived.Test.YtgpnnobfdcbgoaaGreatDoorGuu
namespace Gi
open Go Go.RowKit
set_option linter.unusedSimpArgs false
set_option linter.unusedVariables false
set_option maxHeartbeats 4000000
set_option maxRecDepth 4000

theorem storeS_cells {r : List PV} (h : HasL t_StoreS r) : ∃ s fs n, r = [.str s, .lst fs, .int .i64 n] ∧ Has (.lst t_ItemS) (.lst fs) := by
  obtain ⟨p0, r1, rfl, g0, k1⟩ := HasL_cons h
  obtain ⟨p1, r2, rfl, g1, k2⟩ := HasL_cons k1
  obtain ⟨p2, r3, rfl, g2, k3⟩ := HasL_cons k2
  obtain rfl := HasL_nil k3
  obtain ⟨c0, rfl⟩ := Has_str g0
  obtain ⟨c1, rfl⟩ := Has_lst g1
  obtain ⟨c2, rfl⟩ := Has_int g2
  exact ⟨c0, c1, c2, rfl, g1⟩
def dbE (acc : Int) : List PV → Int
  | [_, .lst its, _] => IntKind.i64.wrap (acc + its.foldl itE 0)
  | _ => acc
theorem isd_loop {rows : List (List PV)} (hl : rows.length ≤ maxLen) (hr : ∀ r ∈ rows, HasL t_StoreS r) : ∀ (m k : Nat) (i : Int), i = k → k + m = rows.length → ∀ (acc : Int) (x0 x1 x2 x4 x5 x6 x10 x11 x12 x13 x14 x15 x16 x17 x18 : V) (h : List AObj) (σ : St), σ = ⟨(x0 :: x1 :: x2 :: vint .i64 acc :: x4 :: x5 :: x6 :: vlst rows :: vint .i64 rows.length :: vint .i64 i :: x10 :: x11 :: x12 :: x13 :: x14 :: x15 :: x16 :: x17 :: x18 :: []), h⟩ →
    Runs (loopL (exec (callL Ph extF) loopL b_impl_SizeDatabase_0) σ) fun e σ' => e = .exit 0 ∧ ∃ (x0 x1 x2 x4 x5 x6 x10 x11 x12 x13 x14 x15 x16 x17 x18 : V) (h' : List AObj), σ' = ⟨(x0 :: x1 :: x2 :: vint .i64 ((rows.drop k).foldl (dbE) acc) :: x4 :: x5 :: x6 :: vlst rows :: vint .i64 rows.length :: vint .i64 (rows.length : Nat) :: x10 :: x11 :: x12 :: x13 :: x14 :: x15 :: x16 :: x17 :: x18 :: []), h'⟩ := by
  generalize hF : exec (callL Ph extF) loopL b_impl_SizeDatabase_0 = F
  intro m
  induction m with
  | zero =>
    intro k i hi hk acc x0 x1 x2 x4 x5 x6 x10 x11 x12 x13 x14 x15 x16 x17 x18 h σ hσ
    subst hi hσ
    have hk' : k = rows.length := by omega
    subst hk'
    rw [loopL_go0 hF]
    simp (maxSteps := 4000000) [b_impl_SizeDatabase_0, start, execL, exec, execOps, stepO, wants, fop, eop, Opd.ev, put, V.cells, plain, loadV, cut, isInt, isStr, isBool, bin, binInt, binStr_neq, binStr_eql, un, asList, L.view, viewArgs, V.view, viewL, done, finish, resultsOf, resultOf, comps, comp, giveLs, giveL, arrsOf, V.flat, L.flat, setV, setL, storeV, putAt, thaw, thawL, freezeVs, freezeLs, freezeL, V.mut, L.mut, elemPtr, viewRows, Runs_some]
  | succ m ih =>
    intro k i hi hk acc x0 x1 x2 x4 x5 x6 x10 x11 x12 x13 x14 x15 x16 x17 x18 h σ hσ
    subst hi hσ
    have hlt : k < rows.length := by omega
    have hw := wrap_small (k := k) (by unfold maxLen at hl; omega)
    obtain ⟨s, its, n, hrk, hfs⟩ := storeS_cells (hr _ (List.getElem_mem hlt))
    have e1 := impl_SizeStore_ok (nm := s) (nx := n) hfs
    have hs : dbE acc rows[k] = IntKind.i64.wrap (acc + its.foldl itE 0) := by rw [hrk]; rfl
    have key := ih (k + 1) ((k : Int) + 1) (by omega) (by omega) (IntKind.i64.wrap (acc + its.foldl itE 0))
    clear ih
    rw [List.drop_eq_getElem_cons hlt, List.foldl_cons, hs]
    generalize hB : (rows.drop (k + 1)).foldl (dbE) (IntKind.i64.wrap (acc + its.foldl itE 0)) = B at key ⊢
    rw [loopL_go0 hF]
    simp [b_impl_SizeDatabase_0, start, execL, exec, execOps, stepO, wants, fop, eop, Opd.ev, put, V.cells, plain, loadV, cut, isInt, isStr, isBool, bin, binInt, binStr_neq, binStr_eql, un, asList, L.view, viewArgs, V.view, viewL, done, finish, resultsOf, resultOf, comps, comp, giveLs, giveL, arrsOf, V.flat, L.flat, setV, setL, storeV, putAt, thaw, thawL, freezeVs, freezeLs, freezeL, V.mut, L.mut, elemPtr, viewRows, hlt, hw, hrk, e1]
    exact key _ _ _ _ _ _ _ _ _ _ _ _ _ _ _ _ _ rfl
end Gi
