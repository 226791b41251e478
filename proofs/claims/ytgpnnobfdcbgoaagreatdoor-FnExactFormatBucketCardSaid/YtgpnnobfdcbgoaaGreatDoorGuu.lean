/- Sizes of stores, walked; the functions. -/
import Derived.Test.YtgpnnobfdcbgoaaGreatDoorGut
namespace Gi
open Go Go.RowKit
set_option linter.unusedSimpArgs false
set_option linter.unusedVariables false
set_option maxHeartbeats 4000000
set_option maxRecDepth 4000

theorem impl_SizeStore_ok {nm : List UInt8} {nx : Int} {rows : List (List PV)} (h : Has (.lst t_ItemS) (.lst rows)) : callL Ph extF 197 [.agg [.pv (.str nm), .pv (.lst rows), .pv (.int .i64 nx)]] = some (vint .i64 (rows.foldl itE 0)) := by
  obtain ⟨hl, hr⟩ := Has_rows h
  refine callL_fn (fn := f_impl_SizeStore) rfl ?_
  have LP := iss_loop hl hr rows.length 0 0 rfl (by omega) 0
  simp only [List.drop_zero] at LP
  generalize hF : exec (callL Ph extF) loopL b_impl_SizeStore_0 = F at LP
  simp [f_impl_SizeStore, start, execL, exec, execOps, stepO, wants, fop, eop, Opd.ev, put, V.cells, plain, loadV, cut, isInt, isStr, isBool, bin, binInt, binStr_neq, binStr_eql, un, asList, L.view, viewArgs, V.view, viewL, done, finish, resultsOf, resultOf, comps, comp, giveLs, giveL, arrsOf, V.flat, L.flat, setV, setL, storeV, putAt, thaw, thawL, freezeVs, freezeLs, freezeL, V.mut, L.mut, elemPtr, viewRows, hF]
  generalize hσ : St.mk _ _ = σ0
  obtain ⟨e, σ', q1, rfl, x0, x1, x2, x4, x5, x6, x10, x11, x12, x13, x14, x15, x16, x17, x18, x19, x20, x21, x22, x23, x24, x25, h', rfl⟩ := (LP _ _ _ _ _ _ _ _ _ _ _ _ _ _ _ _ _ _ _ _ _ _ _ σ0 hσ.symm).get
  rw [q1]
  simp [start, execL, exec, execOps, stepO, wants, fop, eop, Opd.ev, put, V.cells, plain, loadV, cut, isInt, isStr, isBool, bin, binInt, binStr_neq, binStr_eql, un, asList, L.view, viewArgs, V.view, viewL, done, finish, resultsOf, resultOf, comps, comp, giveLs, giveL, arrsOf, V.flat, L.flat, setV, setL, storeV, putAt, thaw, thawL, freezeVs, freezeLs, freezeL, V.mut, L.mut, elemPtr, viewRows]
theorem spec_SizeStore_ok {nm : List UInt8} {nx : Int} {rows : List (List PV)} (h : Has (.lst t_ItemS) (.lst rows)) : callL Ph extF 194 [.agg [.pv (.str nm), .pv (.lst rows), .pv (.int .i64 nx)]] = some (vint .i64 (rows.foldl itE 0)) := by
  obtain ⟨hl, hr⟩ := Has_rows h
  refine callL_fn (fn := f_spec_SizeStore) rfl ?_
  have LP := sss_loop (nm := nm) (nx := nx) hl hr rows.length 0 0 rfl (by omega) 0
  simp only [List.drop_zero] at LP
  generalize hF : exec (callL Ph extF) loopL b_spec_SizeStore_0 = F at LP
  simp [f_spec_SizeStore, start, execL, exec, execOps, stepO, wants, fop, eop, Opd.ev, put, V.cells, plain, loadV, cut, isInt, isStr, isBool, bin, binInt, binStr_neq, binStr_eql, un, asList, L.view, viewArgs, V.view, viewL, done, finish, resultsOf, resultOf, comps, comp, giveLs, giveL, arrsOf, V.flat, L.flat, setV, setL, storeV, putAt, thaw, thawL, freezeVs, freezeLs, freezeL, V.mut, L.mut, elemPtr, viewRows, hF]
  generalize hσ : St.mk _ _ = σ0
  obtain ⟨e, σ', q1, rfl, x0, x2, x5, x6, x7, x8, x9, x10, x11, x12, x13, x14, x15, x16, x17, x18, x19, x20, x21, x22, x23, x24, x25, x26, x27, x28, x29, x30, x31, h', rfl⟩ := (LP _ _ _ _ _ _ _ _ _ _ _ _ _ _ _ _ _ _ _ _ _ _ _ _ _ _ _ _ _ _ σ0 hσ.symm).get
  rw [q1]
  simp [start, execL, exec, execOps, stepO, wants, fop, eop, Opd.ev, put, V.cells, plain, loadV, cut, isInt, isStr, isBool, bin, binInt, binStr_neq, binStr_eql, un, asList, L.view, viewArgs, V.view, viewL, done, finish, resultsOf, resultOf, comps, comp, giveLs, giveL, arrsOf, V.flat, L.flat, setV, setL, storeV, putAt, thaw, thawL, freezeVs, freezeLs, freezeL, V.mut, L.mut, elemPtr, viewRows]
end Gi
