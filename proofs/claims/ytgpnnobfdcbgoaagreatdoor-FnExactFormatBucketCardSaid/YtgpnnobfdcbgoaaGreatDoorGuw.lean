/- Sizes of databases, walked; the functions. -/
import Derived.Test.YtgpnnobfdcbgoaaGreatDoorGuv
namespace Gi
open Go Go.RowKit
set_option linter.unusedSimpArgs false
set_option linter.unusedVariables false
set_option maxHeartbeats 4000000
set_option maxRecDepth 4000

theorem ssd_loop {rows ix : List (List PV)} {nm : List UInt8} {nx : Int} (hl : rows.length ≤ maxLen) (hr : ∀ r ∈ rows, HasL t_StoreS r) : ∀ (m k : Nat) (i : Int), i = k → k + m = rows.length → ∀ (acc : Int) (x0 x2 x5 x6 x7 x8 x9 x10 x11 x12 x13 x14 x15 x16 x17 x18 x19 x20 : V) (h : List AObj) (σ : St), σ = ⟨(x0 :: .one (.ptr 0 0 0) :: x2 :: vint .i64 acc :: vint .i64 i :: x5 :: x6 :: x7 :: x8 :: x9 :: x10 :: x11 :: x12 :: x13 :: x14 :: x15 :: x16 :: x17 :: x18 :: x19 :: x20 :: []), .box [.pv (.str nm), .pv (.int .i64 nx), .pv (.lst rows), .pv (.lst ix)] :: h⟩ →
    Runs (loopL (exec (callL Ph extF) loopL b_spec_SizeDatabase_0) σ) fun e σ' => e = .exit 0 ∧ ∃ (x0 x2 x5 x6 x7 x8 x9 x10 x11 x12 x13 x14 x15 x16 x17 x18 x19 x20 : V) (h' : List AObj), σ' = ⟨(x0 :: .one (.ptr 0 0 0) :: x2 :: vint .i64 ((rows.drop k).foldl (dbE) acc) :: vint .i64 (rows.length : Nat) :: x5 :: x6 :: x7 :: x8 :: x9 :: x10 :: x11 :: x12 :: x13 :: x14 :: x15 :: x16 :: x17 :: x18 :: x19 :: x20 :: []), .box [.pv (.str nm), .pv (.int .i64 nx), .pv (.lst rows), .pv (.lst ix)] :: h'⟩ := by
  generalize hF : exec (callL Ph extF) loopL b_spec_SizeDatabase_0 = F
  intro m
  induction m with
  | zero =>
    intro k i hi hk acc x0 x2 x5 x6 x7 x8 x9 x10 x11 x12 x13 x14 x15 x16 x17 x18 x19 x20 h σ hσ
    subst hi hσ
    have hk' : k = rows.length := by omega
    subst hk'
    rw [loopL_go0 hF]
    simp (maxSteps := 4000000) [b_spec_SizeDatabase_0, start, execL, exec, execOps, stepO, wants, fop, eop, Opd.ev, put, V.cells, plain, loadV, cut, isInt, isStr, isBool, bin, binInt, binStr_neq, binStr_eql, un, asList, L.view, viewArgs, V.view, viewL, done, finish, resultsOf, resultOf, comps, comp, giveLs, giveL, arrsOf, V.flat, L.flat, setV, setL, storeV, putAt, thaw, thawL, freezeVs, freezeLs, freezeL, V.mut, L.mut, elemPtr, viewRows, Runs_some]
  | succ m ih =>
    intro k i hi hk acc x0 x2 x5 x6 x7 x8 x9 x10 x11 x12 x13 x14 x15 x16 x17 x18 x19 x20 h σ hσ
    subst hi hσ
    have hlt : k < rows.length := by omega
    have hw := wrap_small (k := k) (by unfold maxLen at hl; omega)
    obtain ⟨s, its, n, hrk, hfs⟩ := storeS_cells (hr _ (List.getElem_mem hlt))
    have e1 := spec_SizeStore_ok (nm := s) (nx := n) hfs
    have hs : dbE acc rows[k] = IntKind.i64.wrap (acc + its.foldl itE 0) := by rw [hrk]; rfl
    have key := ih (k + 1) ((k : Int) + 1) (by omega) (by omega) (IntKind.i64.wrap (acc + its.foldl itE 0))
    clear ih
    rw [List.drop_eq_getElem_cons hlt, List.foldl_cons, hs]
    generalize hB : (rows.drop (k + 1)).foldl (dbE) (IntKind.i64.wrap (acc + its.foldl itE 0)) = B at key ⊢
    rw [loopL_go0 hF]
    simp [b_spec_SizeDatabase_0, start, execL, exec, execOps, stepO, wants, fop, eop, Opd.ev, put, V.cells, plain, loadV, cut, isInt, isStr, isBool, bin, binInt, binStr_neq, binStr_eql, un, asList, L.view, viewArgs, V.view, viewL, done, finish, resultsOf, resultOf, comps, comp, giveLs, giveL, arrsOf, V.flat, L.flat, setV, setL, storeV, putAt, thaw, thawL, freezeVs, freezeLs, freezeL, V.mut, L.mut, elemPtr, viewRows, hlt, hw, hrk, e1]
    exact key _ _ _ _ _ _ _ _ _ _ _ _ _ _ _ _ _ _ _ _ rfl
theorem impl_SizeDatabase_ok {nm : List UInt8} {nx : Int} {rows ix : List (List PV)} (h : Has (.lst t_StoreS) (.lst rows)) : callL Ph extF 224 [.agg [.pv (.str nm), .pv (.int .i64 nx), .pv (.lst rows), .pv (.lst ix)]] = some (vint .i64 (rows.foldl dbE 0)) := by
  obtain ⟨hl, hr⟩ := Has_rows h
  refine callL_fn (fn := f_impl_SizeDatabase) rfl ?_
  have LP := isd_loop hl hr rows.length 0 0 rfl (by omega) 0
  simp only [List.drop_zero] at LP
  generalize hF : exec (callL Ph extF) loopL b_impl_SizeDatabase_0 = F at LP
  simp [f_impl_SizeDatabase, start, execL, exec, execOps, stepO, wants, fop, eop, Opd.ev, put, V.cells, plain, loadV, cut, isInt, isStr, isBool, bin, binInt, binStr_neq, binStr_eql, un, asList, L.view, viewArgs, V.view, viewL, done, finish, resultsOf, resultOf, comps, comp, giveLs, giveL, arrsOf, V.flat, L.flat, setV, setL, storeV, putAt, thaw, thawL, freezeVs, freezeLs, freezeL, V.mut, L.mut, elemPtr, viewRows, hF]
  generalize hσ : St.mk _ _ = σ0
  obtain ⟨e, σ', q1, rfl, x0, x1, x2, x4, x5, x6, x10, x11, x12, x13, x14, x15, x16, x17, x18, h', rfl⟩ := (LP _ _ _ _ _ _ _ _ _ _ _ _ _ _ _ _ σ0 hσ.symm).get
  rw [q1]
  simp [start, execL, exec, execOps, stepO, wants, fop, eop, Opd.ev, put, V.cells, plain, loadV, cut, isInt, isStr, isBool, bin, binInt, binStr_neq, binStr_eql, un, asList, L.view, viewArgs, V.view, viewL, done, finish, resultsOf, resultOf, comps, comp, giveLs, giveL, arrsOf, V.flat, L.flat, setV, setL, storeV, putAt, thaw, thawL, freezeVs, freezeLs, freezeL, V.mut, L.mut, elemPtr, viewRows]
theorem impl_SizeDisk_ok {nm : List UInt8} {nx sy : Int} {rows ix lg : List (List PV)} (h : Has (.lst t_StoreS) (.lst rows)) : callL Ph extF 196 [.agg [.pv (.str nm), .pv (.int .i64 nx), .pv (.lst rows), .pv (.lst ix), .pv (.lst lg), .pv (.int .i64 sy)]] = some (vint .i64 (IntKind.i64.wrap (rows.foldl dbE 0 + (lg.length : Int)))) := by
  have e1 := impl_SizeDatabase_ok (nm := nm) (nx := nx) (ix := ix) h
  refine callL_fn (fn := f_impl_SizeDisk) rfl ?_
  simp [f_impl_SizeDisk, start, execL, exec, execOps, stepO, wants, fop, eop, Opd.ev, put, V.cells, plain, loadV, cut, isInt, isStr, isBool, bin, binInt, binStr_neq, binStr_eql, un, asList, L.view, viewArgs, V.view, viewL, done, finish, resultsOf, resultOf, comps, comp, giveLs, giveL, arrsOf, V.flat, L.flat, setV, setL, storeV, putAt, thaw, thawL, freezeVs, freezeLs, freezeL, V.mut, L.mut, elemPtr, viewRows, e1]
theorem spec_SizeDatabase_ok {nm : List UInt8} {nx : Int} {rows ix : List (List PV)} (h : Has (.lst t_StoreS) (.lst rows)) : callL Ph extF 220 [.agg [.pv (.str nm), .pv (.int .i64 nx), .pv (.lst rows), .pv (.lst ix)]] = some (vint .i64 (rows.foldl dbE 0)) := by
  obtain ⟨hl, hr⟩ := Has_rows h
  refine callL_fn (fn := f_spec_SizeDatabase) rfl ?_
  have LP := ssd_loop (ix := ix) (nm := nm) (nx := nx) hl hr rows.length 0 0 rfl (by omega) 0
  simp only [List.drop_zero] at LP
  generalize hF : exec (callL Ph extF) loopL b_spec_SizeDatabase_0 = F at LP
  simp [f_spec_SizeDatabase, start, execL, exec, execOps, stepO, wants, fop, eop, Opd.ev, put, V.cells, plain, loadV, cut, isInt, isStr, isBool, bin, binInt, binStr_neq, binStr_eql, un, asList, L.view, viewArgs, V.view, viewL, done, finish, resultsOf, resultOf, comps, comp, giveLs, giveL, arrsOf, V.flat, L.flat, setV, setL, storeV, putAt, thaw, thawL, freezeVs, freezeLs, freezeL, V.mut, L.mut, elemPtr, viewRows, hF]
  generalize hσ : St.mk _ _ = σ0
  obtain ⟨e, σ', q1, rfl, x0, x2, x5, x6, x7, x8, x9, x10, x11, x12, x13, x14, x15, x16, x17, x18, x19, x20, h', rfl⟩ := (LP _ _ _ _ _ _ _ _ _ _ _ _ _ _ _ _ _ _ _ σ0 hσ.symm).get
  rw [q1]
  simp [start, execL, exec, execOps, stepO, wants, fop, eop, Opd.ev, put, V.cells, plain, loadV, cut, isInt, isStr, isBool, bin, binInt, binStr_neq, binStr_eql, un, asList, L.view, viewArgs, V.view, viewL, done, finish, resultsOf, resultOf, comps, comp, giveLs, giveL, arrsOf, V.flat, L.flat, setV, setL, storeV, putAt, thaw, thawL, freezeVs, freezeLs, freezeL, V.mut, L.mut, elemPtr, viewRows]
theorem spec_SizeDisk_ok {nm : List UInt8} {nx sy : Int} {rows ix lg : List (List PV)} (h : Has (.lst t_StoreS) (.lst rows)) : callL Ph extF 193 [.agg [.pv (.str nm), .pv (.int .i64 nx), .pv (.lst rows), .pv (.lst ix), .pv (.lst lg), .pv (.int .i64 sy)]] = some (vint .i64 (IntKind.i64.wrap (rows.foldl dbE 0 + (lg.length : Int)))) := by
  have e1 := spec_SizeDatabase_ok (nm := nm) (nx := nx) (ix := ix) h
  refine callL_fn (fn := f_spec_SizeDisk) rfl ?_
  simp [f_spec_SizeDisk, start, execL, exec, execOps, stepO, wants, fop, eop, Opd.ev, put, V.cells, plain, loadV, cut, isInt, isStr, isBool, bin, binInt, binStr_neq, binStr_eql, un, asList, L.view, viewArgs, V.view, viewL, done, finish, resultsOf, resultOf, comps, comp, giveLs, giveL, arrsOf, V.flat, L.flat, setV, setL, storeV, putAt, thaw, thawL, freezeVs, freezeLs, freezeL, V.mut, L.mut, elemPtr, viewRows, e1]
end Gi
