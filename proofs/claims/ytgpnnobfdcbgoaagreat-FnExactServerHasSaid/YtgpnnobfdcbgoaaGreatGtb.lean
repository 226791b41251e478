/- What the copying, measuring and comparing functions of the laws compute, written by program. -/
import Derived.Test.YtgpnnobfdcbgoaaGreatGtbp
namespace Gi
open Go Go.RowKit
set_option linter.unusedVariables false
set_option linter.unusedSimpArgs false
set_option maxHeartbeats 4000000
section
variable {ext : Nat → List V → Option V}
theorem toEvent_ok {c0 : Int} {c1 : List UInt8} {c2 : List UInt8} {c3 : Int} {c4 : Int} (h0 : Has (.int .i64) (.int .i64 c0)) (h1 : Has (.str) (.str c1)) (h2 : Has (.str) (.str c2)) (h3 : Has (.int .i64) (.int .i64 c3)) (h4 : Has (.int .i64) (.int .i64 c4)) (hs : szL [.int .i64 c0, .str c1, .str c2, .int .i64 c3, .int .i64 c4] ≤ 1048576) : callL Ph ext 113 [.agg [.pv (.int .i64 c0), .pv (.str c1), .pv (.str c2), .pv (.int .i64 c3), .pv (.int .i64 c4)]] = some (.agg [.pv (.int .i64 c0), .pv (.str c1), .pv (.str c2), .pv (.int .i64 c3), .pv (.int .i64 c4)]) := by
  refine callL_fn (fn := f_laws_toEvent) rfl ?_
  simp [f_laws_toEvent, start, execL, exec, execOps, stepO, wants, fop, eop, Opd.ev, put, V.cells, plain, loadV, cut, isInt, isStr, isBool, bin, binInt, binStr, un, asList, L.view, viewArgs, V.view, viewL, done, finish, resultsOf, resultOf, comps, comp, giveLs, giveL, arrsOf, V.flat, L.flat, setV, setL, storeV, putAt, thaw, thawL, freezeVs, freezeLs, freezeL, V.mut, L.mut]
theorem toEvent_copies {r : List PV} (h : HasL t_Event r) (hs : szL r ≤ 1048576) : Copies Ph ext 113 true r := by
  obtain ⟨p0, r1, rfl, g0, k1⟩ := HasL_cons h
  obtain ⟨p1, r2, rfl, g1, k2⟩ := HasL_cons k1
  obtain ⟨p2, r3, rfl, g2, k3⟩ := HasL_cons k2
  obtain ⟨p3, r4, rfl, g3, k4⟩ := HasL_cons k3
  obtain ⟨p4, r5, rfl, g4, k5⟩ := HasL_cons k4
  obtain rfl := HasL_nil k5
  obtain ⟨c0, rfl⟩ := Has_int g0
  obtain ⟨c1, rfl⟩ := Has_str g1
  obtain ⟨c2, rfl⟩ := Has_str g2
  obtain ⟨c3, rfl⟩ := Has_int g3
  obtain ⟨c4, rfl⟩ := Has_int g4
  exact ⟨_, toEvent_ok g0 g1 g2 g3 g4 hs, rfl, rfl, fun _ => ⟨rfl, rfl⟩⟩
theorem szEvent_ok {r : List PV} (h : HasL t_Event r) : Measures Ph ext 111 r := by
  obtain ⟨p0, r1, rfl, g0, k1⟩ := HasL_cons h
  obtain ⟨p1, r2, rfl, g1, k2⟩ := HasL_cons k1
  obtain ⟨p2, r3, rfl, g2, k3⟩ := HasL_cons k2
  obtain ⟨p3, r4, rfl, g3, k4⟩ := HasL_cons k3
  obtain ⟨p4, r5, rfl, g4, k5⟩ := HasL_cons k4
  obtain rfl := HasL_nil k5
  obtain ⟨c0, rfl⟩ := Has_int g0
  obtain ⟨c1, rfl⟩ := Has_str g1
  obtain ⟨c2, rfl⟩ := Has_str g2
  obtain ⟨c3, rfl⟩ := Has_int g3
  obtain ⟨c4, rfl⟩ := Has_int g4
  intro left h0 h1
  show callL Ph ext 111 [.agg [.pv (.int .i64 c0), .pv (.str c1), .pv (.str c2), .pv (.int .i64 c3), .pv (.int .i64 c4)], vint .i64 left] = _
  have tot : szL [.int .i64 c0, .str c1, .str c2, .int .i64 c3, .int .i64 c4] = c1.length + (c2.length) := by simp only [szL_nil0, szL_cons0, sz_int0, sz_bool0, sz_str0, Nat.add_zero, Nat.zero_add, Nat.add_assoc]
  generalize szL [.int .i64 c0, .str c1, .str c2, .int .i64 c3, .int .i64 c4] = T at tot ⊢
  have b0 : c1.length ≤ maxLen := g1
  unfold maxLen at b0
  obtain ⟨l0, q0⟩ : ∃ x : Int, x = left - c1.length := ⟨_, rfl⟩
  have e0 : IntKind.i64.wrap (left - (c1.length : Int)) = l0 := by rw [q0, IntKind.wrap_i64]; omega
  by_cases n0 : l0 < 0
  · rw [less_lt (by omega)]
    refine callL_fn (fn := f_laws_szEvent) rfl ?_
    simp [f_laws_szEvent, start, execL, exec, execOps, stepO, wants, fop, eop, Opd.ev, put, V.cells, plain, loadV, cut, isInt, isStr, isBool, bin, binInt, binStr, un, asList, L.view, viewArgs, V.view, viewL, done, finish, resultsOf, resultOf, comps, comp, giveLs, giveL, arrsOf, V.flat, L.flat, setV, setL, storeV, putAt, thaw, thawL, freezeVs, freezeLs, freezeL, V.mut, L.mut, e0, n0]
  have b1 : c2.length ≤ maxLen := g2
  unfold maxLen at b1
  obtain ⟨l1, q1⟩ : ∃ x : Int, x = l0 - c2.length := ⟨_, rfl⟩
  have e1 : IntKind.i64.wrap (l0 - (c2.length : Int)) = l1 := by rw [q1, IntKind.wrap_i64]; omega
  by_cases n1 : l1 < 0
  · rw [less_lt (by omega)]
    refine callL_fn (fn := f_laws_szEvent) rfl ?_
    simp [f_laws_szEvent, start, execL, exec, execOps, stepO, wants, fop, eop, Opd.ev, put, V.cells, plain, loadV, cut, isInt, isStr, isBool, bin, binInt, binStr, un, asList, L.view, viewArgs, V.view, viewL, done, finish, resultsOf, resultOf, comps, comp, giveLs, giveL, arrsOf, V.flat, L.flat, setV, setL, storeV, putAt, thaw, thawL, freezeVs, freezeLs, freezeL, V.mut, L.mut, e0, e1, n0, n1]
  rw [less_ge' (n := T) (l := l1) (by omega) (by omega)]
  refine callL_fn (fn := f_laws_szEvent) rfl ?_
  simp [f_laws_szEvent, start, execL, exec, execOps, stepO, wants, fop, eop, Opd.ev, put, V.cells, plain, loadV, cut, isInt, isStr, isBool, bin, binInt, binStr, un, asList, L.view, viewArgs, V.view, viewL, done, finish, resultsOf, resultOf, comps, comp, giveLs, giveL, arrsOf, V.flat, L.flat, setV, setL, storeV, putAt, thaw, thawL, freezeVs, freezeLs, freezeL, V.mut, L.mut, e0, e1, n0, n1]
end
end Gi
