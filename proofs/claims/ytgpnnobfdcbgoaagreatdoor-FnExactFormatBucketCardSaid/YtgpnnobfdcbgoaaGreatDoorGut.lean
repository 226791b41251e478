/- Sizes of stores, walked; the functions. -/
import Derived.Test.YtgpnnobfdcbgoaaGreatDoorGus
namespace Gi
open Go Go.RowKit
set_option linter.unusedSimpArgs false
set_option linter.unusedVariables false
set_option maxHeartbeats 4000000
set_option maxRecDepth 4000

theorem sss_loop {rows : List (List PV)} {nm : List UInt8} {nx : Int} (hl : rows.length ≤ maxLen) (hr : ∀ r ∈ rows, HasL t_ItemS r) : ∀ (m k : Nat) (i : Int), i = k → k + m = rows.length → ∀ (acc : Int) (x0 x2 x5 x6 x7 x8 x9 x10 x11 x12 x13 x14 x15 x16 x17 x18 x19 x20 x21 x22 x23 x24 x25 x26 x27 x28 x29 x30 x31 : V) (h : List AObj) (σ : St), σ = ⟨(x0 :: .one (.ptr 0 0 0) :: x2 :: vint .i64 acc :: vint .i64 i :: x5 :: x6 :: x7 :: x8 :: x9 :: x10 :: x11 :: x12 :: x13 :: x14 :: x15 :: x16 :: x17 :: x18 :: x19 :: x20 :: x21 :: x22 :: x23 :: x24 :: x25 :: x26 :: x27 :: x28 :: x29 :: x30 :: x31 :: []), .box [.pv (.str nm), .pv (.lst rows), .pv (.int .i64 nx)] :: h⟩ →
    Runs (loopL (exec (callL Ph extF) loopL b_spec_SizeStore_0) σ) fun e σ' => e = .exit 0 ∧ ∃ (x0 x2 x5 x6 x7 x8 x9 x10 x11 x12 x13 x14 x15 x16 x17 x18 x19 x20 x21 x22 x23 x24 x25 x26 x27 x28 x29 x30 x31 : V) (h' : List AObj), σ' = ⟨(x0 :: .one (.ptr 0 0 0) :: x2 :: vint .i64 ((rows.drop k).foldl (itE) acc) :: vint .i64 (rows.length : Nat) :: x5 :: x6 :: x7 :: x8 :: x9 :: x10 :: x11 :: x12 :: x13 :: x14 :: x15 :: x16 :: x17 :: x18 :: x19 :: x20 :: x21 :: x22 :: x23 :: x24 :: x25 :: x26 :: x27 :: x28 :: x29 :: x30 :: x31 :: []), .box [.pv (.str nm), .pv (.lst rows), .pv (.int .i64 nx)] :: h'⟩ := by
  generalize hF : exec (callL Ph extF) loopL b_spec_SizeStore_0 = F
  intro m
  induction m with
  | zero =>
    intro k i hi hk acc x0 x2 x5 x6 x7 x8 x9 x10 x11 x12 x13 x14 x15 x16 x17 x18 x19 x20 x21 x22 x23 x24 x25 x26 x27 x28 x29 x30 x31 h σ hσ
    subst hi hσ
    have hk' : k = rows.length := by omega
    subst hk'
    rw [loopL_go0 hF]
    simp (maxSteps := 4000000) [b_spec_SizeStore_0, start, execL, exec, execOps, stepO, wants, fop, eop, Opd.ev, put, V.cells, plain, loadV, cut, isInt, isStr, isBool, bin, binInt, binStr_neq, binStr_eql, un, asList, L.view, viewArgs, V.view, viewL, done, finish, resultsOf, resultOf, comps, comp, giveLs, giveL, arrsOf, V.flat, L.flat, setV, setL, storeV, putAt, thaw, thawL, freezeVs, freezeLs, freezeL, V.mut, L.mut, elemPtr, viewRows, Runs_some]
  | succ m ih =>
    intro k i hi hk acc x0 x2 x5 x6 x7 x8 x9 x10 x11 x12 x13 x14 x15 x16 x17 x18 x19 x20 x21 x22 x23 x24 x25 x26 x27 x28 x29 x30 x31 h σ hσ
    subst hi hσ
    have hlt : k < rows.length := by omega
    have hw := wrap_small (k := k) (by unfold maxLen at hl; omega)
    obtain ⟨a, b, s, fs, hrk, hsl, hfs⟩ := itemS_cells (hr _ (List.getElem_mem hlt))
    obtain ⟨es1, e1, o1, l1⟩ := spec_EncodeKey_ok (a := a) (b := b) hsl
    obtain ⟨r2, e2, es2, v2, o2, l2⟩ := spec_EncodeRecord_ok hfs
    have hw2 : IntKind.i64.wrap (IntKind.i64.wrap (acc + (keyL a b s : Int)) + (recL fs : Int)) = IntKind.i64.wrap (acc + ((keyL a b s : Int) + (recL fs : Int))) := by simp only [IntKind.wrap_i64]; omega
    have hs : itE acc rows[k] = IntKind.i64.wrap (acc + ((keyL a b s : Int) + (recL fs : Int))) := by rw [hrk]; rfl
    have key := ih (k + 1) ((k : Int) + 1) (by omega) (by omega) (IntKind.i64.wrap (acc + ((keyL a b s : Int) + (recL fs : Int))))
    clear ih
    rw [List.drop_eq_getElem_cons hlt, List.foldl_cons, hs]
    generalize hB : (rows.drop (k + 1)).foldl (itE) (IntKind.i64.wrap (acc + ((keyL a b s : Int) + (recL fs : Int)))) = B at key ⊢
    rw [loopL_go0 hF]
    simp [b_spec_SizeStore_0, start, execL, exec, execOps, stepO, wants, fop, eop, Opd.ev, put, V.cells, plain, loadV, cut, isInt, isStr, isBool, bin, binInt, binStr_neq, binStr_eql, un, asList, L.view, viewArgs, V.view, viewL, done, finish, resultsOf, resultOf, comps, comp, giveLs, giveL, arrsOf, V.flat, L.flat, setV, setL, storeV, putAt, thaw, thawL, freezeVs, freezeLs, freezeL, V.mut, L.mut, elemPtr, viewRows, hlt, hw, hrk, e1, e2, ↓v2, l1, l2, hw2]
    exact key _ _ _ _ _ _ _ _ _ _ _ _ _ _ _ _ _ _ _ _ _ _ _ _ _ _ _ _ _ _ _ rfl
end Gi
