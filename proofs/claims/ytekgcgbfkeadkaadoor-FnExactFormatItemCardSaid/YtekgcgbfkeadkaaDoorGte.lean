/- The law of an item's text: the pure machine finds it true of every item. -/
import Derived.Test.YtekgcgbfkeadkaaDoorGtb
import Derived.Test.YtekgcgbfkeadkaaDoorGtd
namespace Gi
open Go Go.RowKit
set_option linter.unusedVariables false
set_option linter.unusedSimpArgs false

theorem law_Item {r : List PV} (h : HasL t_Item r) : callL Ph extF 0 [.agg (r.map .pv)] = some (vbool true) := by
  obtain ⟨p0, r1, rfl, g0, k1⟩ := HasL_cons h
  obtain ⟨p1, r2, rfl, g1, k2⟩ := HasL_cons k1
  obtain ⟨p2, r3, rfl, g2, k3⟩ := HasL_cons k2
  obtain ⟨p3, r4, rfl, g3, k4⟩ := HasL_cons k3
  obtain rfl := HasL_nil k4
  obtain ⟨c0, rfl⟩ := Has_int g0
  obtain ⟨c1, rfl⟩ := Has_int g1
  obtain ⟨c2, rfl⟩ := Has_str g2
  obtain ⟨c3, rfl⟩ := Has_lst g3
  show callL Ph extF 0 [.agg [.pv (.int .i64 c0), .pv (.int .i64 c1), .pv (.str c2), .pv (.lst c3)]] = _
  have m : callL Ph extF 5 [.agg [.pv (.int .i64 c0), .pv (.int .i64 c1), .pv (.str c2), .pv (.lst c3)], vint .i64 1048576] = some (vint .i64 (less 1048576 (szL [.int .i64 c0, .int .i64 c1, .str c2, .lst c3]))) := szItem_ok (ext := extF) h 1048576 (by omega) (by omega)
  generalize q : less 1048576 (szL [.int .i64 c0, .int .i64 c1, .str c2, .lst c3]) = l at m
  refine callL_fn (fn := f_laws_FnExactFormatItem) rfl ?_
  by_cases n : l < 0
  · simp [f_laws_FnExactFormatItem, start, execL, exec, execOps, stepO, wants, fop, eop, Opd.ev, put, V.cells, plain, loadV, cut, isInt, isStr, isBool, bin, binInt, binStr_neq, binStr_eql, un, asList, L.view, viewArgs, V.view, viewL, done, finish, resultsOf, resultOf, comps, comp, giveLs, giveL, arrsOf, V.flat, L.flat, setV, setL, storeV, putAt, thaw, thawL, freezeVs, freezeLs, freezeL, V.mut, L.mut, elemPtr, viewRows, m, n]
  · obtain ⟨_, hs⟩ := less_pos (by omega) q n
    have hs' : szL [.int .i64 c0, .int .i64 c1, .str c2, .lst c3] ≤ 1048576 := by omega
    have hz : sz (.lst c3) ≤ 1048576 := by simp only [szL] at hs'; omega
    have e1 := toItem_ok (ext := extF) g0 g1 g2 g3 hs'
    have e2 := spec_FormatItem_ok (a := c0) g1 g2 g3 hz
    have e3 := impl_FormatItem_ok (a := c0) g1 g2 g3 hz
    have e4 : callL Ph extF 9 [.agg [.pv (.int .i64 c0), .pv (.int .i64 c1), .pv (.str c2), .pv (.lst c3)], .agg [.pv (.int .i64 c0), .pv (.int .i64 c1), .pv (.str c2), .pv (.lst c3)]] = some (vbool true) := eqItem_ok (ext := extF) h
    simp [f_laws_FnExactFormatItem, start, execL, exec, execOps, stepO, wants, fop, eop, Opd.ev, put, V.cells, plain, loadV, cut, isInt, isStr, isBool, bin, binInt, binStr_neq, binStr_eql, un, asList, L.view, viewArgs, V.view, viewL, done, finish, resultsOf, resultOf, comps, comp, giveLs, giveL, arrsOf, V.flat, L.flat, setV, setL, storeV, putAt, thaw, thawL, freezeVs, freezeLs, freezeL, V.mut, L.mut, elemPtr, viewRows, m, n, e1, e2, e3, e4]

end Gi
