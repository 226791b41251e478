/- The bucket of an event. -/
import Derived.Test.YtfnjohoekldfcaaGreatGtx
namespace Gi
open Go Go.RowKit
set_option linter.unusedSimpArgs false
set_option linter.unusedVariables false
set_option maxHeartbeats 4000000

/-! ### IsOfBucket -/
theorem isOf_page {c0 : Int} {c1 : Bool} {c2 : Int} {c3 c4 : List (List PV)} {c5 : Int} {c6 c7 c8 c9 : List (List PV)} (h4 : Has (.lst t_PageS) (.lst c4)) {k : Int} {e1 e2 : List UInt8} {p n : Int} (s t : List UInt8) (hk : k = 5 ∨ k = 6 ∨ k = 12 ∨ k = 13) :
    ∃ b, callL Ph extF 114 [.agg [.pv (.int .i64 c0), .pv (.bool c1), .pv (.int .i64 c2), .pv (.lst c3), .pv (.lst c4), .pv (.int .i64 c5), .pv (.lst c6), .pv (.lst c7), .pv (.lst c8), .pv (.lst c9)], .agg [.pv (.int .i64 k), .pv (.str e1), .pv (.str e2), .pv (.int .i64 p), .pv (.int .i64 n)], vstr s, vstr t] = some (vbool b) ∧ callL Ph extF 112 [.agg [.pv (.int .i64 c0), .pv (.bool c1), .pv (.int .i64 c2), .pv (.lst c3), .pv (.lst c4), .pv (.int .i64 c5), .pv (.lst c6), .pv (.lst c7), .pv (.lst c8), .pv (.lst c9)], .agg [.pv (.int .i64 k), .pv (.str e1), .pv (.str e2), .pv (.int .i64 p), .pv (.int .i64 n)], vstr s, vstr t] = some (vbool b) := by
  obtain ⟨hl, hr⟩ := Has_rows h4
  have hw : IntKind.i64.wrap ((c4.length : Int) - 1) = (c4.length : Int) - 1 := by unfold maxLen at hl; rw [IntKind.wrap_i64]; omega
  have q1 := impl_InRange_ok p 0 ((c4.length : Int) - 1)
  have q2 := spec_l1In_ok p 0 ((c4.length : Int) - 1)
  by_cases hp : 0 ≤ p ∧ p ≤ (c4.length : Int) - 1
  · obtain ⟨j, rfl⟩ := Int.eq_ofNat_of_zero_le hp.1
    have hj : j < c4.length := by omega
    obtain ⟨d0, d1, d2, d3, d4, d5, d6, d7, d8, d9, d10, hd, _⟩ := page_cells (hr _ (List.getElem_mem hj))
    have hb : (decide ((0 : Int) ≤ (j : Int)) && decide ((j : Int) ≤ (c4.length : Int) - 1)) = true := by simp; omega
    rw [hb] at q1 q2
    refine ⟨d1 == s && d2 == t, callL_fn (fn := f_impl_IsOfBucket) rfl ?_, callL_fn (fn := f_spec_IsOfBucket) rfl ?_⟩
    all_goals
      rcases hk with rfl | rfl | rfl | rfl <;> cases g1 : (d1 == s) <;> cases g2 : (d2 == t) <;> simp [f_impl_IsOfBucket, f_spec_IsOfBucket, start, execL, exec, execOps, stepO, wants, fop, eop, Opd.ev, put, V.cells, plain, loadV, cut, isInt, isStr, isBool, bin, binInt, binStr_neq, binStr_eql, un, asList, L.view, viewArgs, V.view, viewL, done, finish, resultsOf, resultOf, comps, comp, giveLs, giveL, arrsOf, V.flat, L.flat, setV, setL, storeV, putAt, thaw, thawL, freezeVs, freezeLs, freezeL, V.mut, L.mut, elemPtr, viewRows, hw, q1, q2, hj, hd, g1, g2]
  · have hb : (decide ((0 : Int) ≤ p) && decide (p ≤ (c4.length : Int) - 1)) = false := by
      by_cases a1 : (0 : Int) ≤ p <;> by_cases a2 : p ≤ (c4.length : Int) - 1 <;> simp [a1, a2]
      omega
    rw [hb] at q1 q2
    refine ⟨false, callL_fn (fn := f_impl_IsOfBucket) rfl ?_, callL_fn (fn := f_spec_IsOfBucket) rfl ?_⟩
    all_goals
      rcases hk with rfl | rfl | rfl | rfl <;> simp [f_impl_IsOfBucket, f_spec_IsOfBucket, start, execL, exec, execOps, stepO, wants, fop, eop, Opd.ev, put, V.cells, plain, loadV, cut, isInt, isStr, isBool, bin, binInt, binStr_neq, binStr_eql, un, asList, L.view, viewArgs, V.view, viewL, done, finish, resultsOf, resultOf, comps, comp, giveLs, giveL, arrsOf, V.flat, L.flat, setV, setL, storeV, putAt, thaw, thawL, freezeVs, freezeLs, freezeL, V.mut, L.mut, elemPtr, viewRows, hw, q1, q2]
theorem isOf_both {c0 : Int} {c1 : Bool} {c2 : Int} {c3 c4 : List (List PV)} {c5 : Int} {c6 c7 c8 c9 : List (List PV)} (h4 : Has (.lst t_PageS) (.lst c4)) {k : Int} {e1 e2 : List UInt8} {p n : Int} (s t : List UInt8) :
    ∃ b, callL Ph extF 114 [.agg [.pv (.int .i64 c0), .pv (.bool c1), .pv (.int .i64 c2), .pv (.lst c3), .pv (.lst c4), .pv (.int .i64 c5), .pv (.lst c6), .pv (.lst c7), .pv (.lst c8), .pv (.lst c9)], .agg [.pv (.int .i64 k), .pv (.str e1), .pv (.str e2), .pv (.int .i64 p), .pv (.int .i64 n)], vstr s, vstr t] = some (vbool b) ∧ callL Ph extF 112 [.agg [.pv (.int .i64 c0), .pv (.bool c1), .pv (.int .i64 c2), .pv (.lst c3), .pv (.lst c4), .pv (.int .i64 c5), .pv (.lst c6), .pv (.lst c7), .pv (.lst c8), .pv (.lst c9)], .agg [.pv (.int .i64 k), .pv (.str e1), .pv (.str e2), .pv (.int .i64 p), .pv (.int .i64 n)], vstr s, vstr t] = some (vbool b) := by
  by_cases hk : k = 5 ∨ k = 6 ∨ k = 12 ∨ k = 13
  · exact isOf_page h4 s t hk
  · by_cases h1 : k = 1 ∨ k = 2 ∨ k = 11
    · refine ⟨true, callL_fn (fn := f_impl_IsOfBucket) rfl ?_, callL_fn (fn := f_spec_IsOfBucket) rfl ?_⟩
      all_goals rcases h1 with rfl | rfl | rfl <;> simp [f_impl_IsOfBucket, f_spec_IsOfBucket, start, execL, exec, execOps, stepO, wants, fop, eop, Opd.ev, put, V.cells, plain, loadV, cut, isInt, isStr, isBool, bin, binInt, binStr_neq, binStr_eql, un, asList, L.view, viewArgs, V.view, viewL, done, finish, resultsOf, resultOf, comps, comp, giveLs, giveL, arrsOf, V.flat, L.flat, setV, setL, storeV, putAt, thaw, thawL, freezeVs, freezeLs, freezeL, V.mut, L.mut, elemPtr, viewRows]
    · by_cases h2 : k = 3
      · subst h2
        refine ⟨e1 == s, callL_fn (fn := f_impl_IsOfBucket) rfl ?_, callL_fn (fn := f_spec_IsOfBucket) rfl ?_⟩
        all_goals simp [f_impl_IsOfBucket, f_spec_IsOfBucket, start, execL, exec, execOps, stepO, wants, fop, eop, Opd.ev, put, V.cells, plain, loadV, cut, isInt, isStr, isBool, bin, binInt, binStr_neq, binStr_eql, un, asList, L.view, viewArgs, V.view, viewL, done, finish, resultsOf, resultOf, comps, comp, giveLs, giveL, arrsOf, V.flat, L.flat, setV, setL, storeV, putAt, thaw, thawL, freezeVs, freezeLs, freezeL, V.mut, L.mut, elemPtr, viewRows]
      · by_cases h3 : k = 4 ∨ k = 7 ∨ k = 8 ∨ k = 9 ∨ k = 10
        · refine ⟨e1 == s && e2 == t, callL_fn (fn := f_impl_IsOfBucket) rfl ?_, callL_fn (fn := f_spec_IsOfBucket) rfl ?_⟩
          all_goals rcases h3 with rfl | rfl | rfl | rfl | rfl <;> cases g1 : (e1 == s) <;> cases g2 : (e2 == t) <;> simp [f_impl_IsOfBucket, f_spec_IsOfBucket, start, execL, exec, execOps, stepO, wants, fop, eop, Opd.ev, put, V.cells, plain, loadV, cut, isInt, isStr, isBool, bin, binInt, binStr_neq, binStr_eql, un, asList, L.view, viewArgs, V.view, viewL, done, finish, resultsOf, resultOf, comps, comp, giveLs, giveL, arrsOf, V.flat, L.flat, setV, setL, storeV, putAt, thaw, thawL, freezeVs, freezeLs, freezeL, V.mut, L.mut, elemPtr, viewRows, g1, g2]
        · simp only [not_or] at hk h1 h3
          obtain ⟨a5, a6, a12, a13⟩ := hk
          obtain ⟨a1, a2, a11⟩ := h1
          obtain ⟨a4, a7, a8, a9, a10⟩ := h3
          refine ⟨false, callL_fn (fn := f_impl_IsOfBucket) rfl ?_, callL_fn (fn := f_spec_IsOfBucket) rfl ?_⟩
          all_goals simp [f_impl_IsOfBucket, f_spec_IsOfBucket, start, execL, exec, execOps, stepO, wants, fop, eop, Opd.ev, put, V.cells, plain, loadV, cut, isInt, isStr, isBool, bin, binInt, binStr_neq, binStr_eql, un, asList, L.view, viewArgs, V.view, viewL, done, finish, resultsOf, resultOf, comps, comp, giveLs, giveL, arrsOf, V.flat, L.flat, setV, setL, storeV, putAt, thaw, thawL, freezeVs, freezeLs, freezeL, V.mut, L.mut, elemPtr, viewRows, a1, a2, h2, a4, a5, a6, a7, a8, a9, a10, a11, a12, a13]
theorem law_IsOfBucket {r0 : List PV} (h0 : HasL t_World r0) {r1 : List PV} (h1 : HasL t_Event r1) {s2 : List UInt8} (h2 : Has (.str) (.str s2)) {s3 : List UInt8} (h3 : Has (.str) (.str s3)) : callL Ph extF 97 [.agg (r0.map .pv), .agg (r1.map .pv), vstr s2, vstr s3] = some (vbool true) := by
  obtain ⟨p0, r1, rfl, g0, k1⟩ := HasL_cons h0
  obtain ⟨p1, r2, rfl, g1, k2⟩ := HasL_cons k1
  obtain ⟨p2, r3, rfl, g2, k3⟩ := HasL_cons k2
  obtain ⟨p3, r4, rfl, g3, k4⟩ := HasL_cons k3
  obtain ⟨p4, r5, rfl, g4, k5⟩ := HasL_cons k4
  obtain ⟨p5, r6, rfl, g5, k6⟩ := HasL_cons k5
  obtain ⟨p6, r7, rfl, g6, k7⟩ := HasL_cons k6
  obtain ⟨p7, r8, rfl, g7, k8⟩ := HasL_cons k7
  obtain ⟨p8, r9, rfl, g8, k9⟩ := HasL_cons k8
  obtain ⟨p9, r10, rfl, g9, k10⟩ := HasL_cons k9
  obtain rfl := HasL_nil k10
  obtain ⟨c0, rfl⟩ := Has_int g0
  obtain ⟨c1, rfl⟩ := Has_bool g1
  obtain ⟨c2, rfl⟩ := Has_int g2
  obtain ⟨c3, rfl⟩ := Has_lst g3
  obtain ⟨c4, rfl⟩ := Has_lst g4
  obtain ⟨c5, rfl⟩ := Has_int g5
  obtain ⟨c6, rfl⟩ := Has_lst g6
  obtain ⟨c7, rfl⟩ := Has_lst g7
  obtain ⟨c8, rfl⟩ := Has_lst g8
  obtain ⟨c9, rfl⟩ := Has_lst g9
  obtain ⟨p1_0, r1_1, rfl, g1_0, k1_1⟩ := HasL_cons h1
  obtain ⟨p1_1, r1_2, rfl, g1_1, k1_2⟩ := HasL_cons k1_1
  obtain ⟨p1_2, r1_3, rfl, g1_2, k1_3⟩ := HasL_cons k1_2
  obtain ⟨p1_3, r1_4, rfl, g1_3, k1_4⟩ := HasL_cons k1_3
  obtain ⟨p1_4, r1_5, rfl, g1_4, k1_5⟩ := HasL_cons k1_4
  obtain rfl := HasL_nil k1_5
  obtain ⟨c1_0, rfl⟩ := Has_int g1_0
  obtain ⟨c1_1, rfl⟩ := Has_str g1_1
  obtain ⟨c1_2, rfl⟩ := Has_str g1_2
  obtain ⟨c1_3, rfl⟩ := Has_int g1_3
  obtain ⟨c1_4, rfl⟩ := Has_int g1_4
  show callL Ph extF 97 [.agg [.pv (.int .i64 c0), .pv (.bool c1), .pv (.int .i64 c2), .pv (.lst c3), .pv (.lst c4), .pv (.int .i64 c5), .pv (.lst c6), .pv (.lst c7), .pv (.lst c8), .pv (.lst c9)], .agg [.pv (.int .i64 c1_0), .pv (.str c1_1), .pv (.str c1_2), .pv (.int .i64 c1_3), .pv (.int .i64 c1_4)], vstr s2, vstr s3] = _
  refine callL_fn (fn := f_laws_FnExactIsOfBucket) rfl ?_
  by_cases b2 : (1048576 : Int) < s2.length
  · simp [f_laws_FnExactIsOfBucket, start, execL, exec, execOps, stepO, wants, fop, eop, Opd.ev, put, V.cells, plain, loadV, cut, isInt, isStr, isBool, bin, binInt, binStr_neq, binStr_eql, un, asList, L.view, viewArgs, V.view, viewL, done, finish, resultsOf, resultOf, comps, comp, giveLs, giveL, arrsOf, V.flat, L.flat, setV, setL, storeV, putAt, thaw, thawL, freezeVs, freezeLs, freezeL, V.mut, L.mut, elemPtr, viewRows, b2]
  by_cases b3 : (1048576 : Int) < s3.length
  · simp [f_laws_FnExactIsOfBucket, start, execL, exec, execOps, stepO, wants, fop, eop, Opd.ev, put, V.cells, plain, loadV, cut, isInt, isStr, isBool, bin, binInt, binStr_neq, binStr_eql, un, asList, L.view, viewArgs, V.view, viewL, done, finish, resultsOf, resultOf, comps, comp, giveLs, giveL, arrsOf, V.flat, L.flat, setV, setL, storeV, putAt, thaw, thawL, freezeVs, freezeLs, freezeL, V.mut, L.mut, elemPtr, viewRows, b3, b2]
  have m0 : callL Ph extF 104 [.agg [.pv (.int .i64 c0), .pv (.bool c1), .pv (.int .i64 c2), .pv (.lst c3), .pv (.lst c4), .pv (.int .i64 c5), .pv (.lst c6), .pv (.lst c7), .pv (.lst c8), .pv (.lst c9)], vint .i64 1048576] = some (vint .i64 (less 1048576 (szL [.int .i64 c0, .bool c1, .int .i64 c2, .lst c3, .lst c4, .int .i64 c5, .lst c6, .lst c7, .lst c8, .lst c9]))) := szWorld_ok (ext := extF) h0 1048576 (by omega) (by omega)
  generalize q0 : less 1048576 (szL [.int .i64 c0, .bool c1, .int .i64 c2, .lst c3, .lst c4, .int .i64 c5, .lst c6, .lst c7, .lst c8, .lst c9]) = l0 at m0
  by_cases n0 : l0 < 0
  · simp [f_laws_FnExactIsOfBucket, start, execL, exec, execOps, stepO, wants, fop, eop, Opd.ev, put, V.cells, plain, loadV, cut, isInt, isStr, isBool, bin, binInt, binStr_neq, binStr_eql, un, asList, L.view, viewArgs, V.view, viewL, done, finish, resultsOf, resultOf, comps, comp, giveLs, giveL, arrsOf, V.flat, L.flat, setV, setL, storeV, putAt, thaw, thawL, freezeVs, freezeLs, freezeL, V.mut, L.mut, elemPtr, viewRows, n0, b2, b3, m0]
  obtain ⟨le0, hz0⟩ := less_pos (by omega) q0 n0
  have hs0 : szL [.int .i64 c0, .bool c1, .int .i64 c2, .lst c3, .lst c4, .int .i64 c5, .lst c6, .lst c7, .lst c8, .lst c9] ≤ 1048576 := by omega
  have m1 : callL Ph extF 111 [.agg [.pv (.int .i64 c1_0), .pv (.str c1_1), .pv (.str c1_2), .pv (.int .i64 c1_3), .pv (.int .i64 c1_4)], vint .i64 l0] = some (vint .i64 (less l0 (szL [.int .i64 c1_0, .str c1_1, .str c1_2, .int .i64 c1_3, .int .i64 c1_4]))) := szEvent_ok (ext := extF) h1 l0 (by omega) (by omega)
  generalize q1 : less l0 (szL [.int .i64 c1_0, .str c1_1, .str c1_2, .int .i64 c1_3, .int .i64 c1_4]) = l1 at m1
  by_cases n1 : l1 < 0
  · simp [f_laws_FnExactIsOfBucket, start, execL, exec, execOps, stepO, wants, fop, eop, Opd.ev, put, V.cells, plain, loadV, cut, isInt, isStr, isBool, bin, binInt, binStr_neq, binStr_eql, un, asList, L.view, viewArgs, V.view, viewL, done, finish, resultsOf, resultOf, comps, comp, giveLs, giveL, arrsOf, V.flat, L.flat, setV, setL, storeV, putAt, thaw, thawL, freezeVs, freezeLs, freezeL, V.mut, L.mut, elemPtr, viewRows, n1, b2, b3, m0, n0, m1]
  obtain ⟨le1, hz1⟩ := less_pos (by omega) q1 n1
  have hs1 : szL [.int .i64 c1_0, .str c1_1, .str c1_2, .int .i64 c1_3, .int .i64 c1_4] ≤ 1048576 := by omega
  have to0 := toWorld_ok (ext := extF) g0 g1 g2 g3 g4 g5 g6 g7 g8 g9 hs0
  have eq0 : callL Ph extF 108 [.agg [.pv (.int .i64 c0), .pv (.bool c1), .pv (.int .i64 c2), .pv (.lst c3), .pv (.lst c4), .pv (.int .i64 c5), .pv (.lst c6), .pv (.lst c7), .pv (.lst c8), .pv (.lst c9)], .agg [.pv (.int .i64 c0), .pv (.bool c1), .pv (.int .i64 c2), .pv (.lst c3), .pv (.lst c4), .pv (.int .i64 c5), .pv (.lst c6), .pv (.lst c7), .pv (.lst c8), .pv (.lst c9)]] = some (vbool true) := eqWorld_ok (ext := extF) h0
  have to1 := toEvent_ok (ext := extF) g1_0 g1_1 g1_2 g1_3 g1_4 hs1
  obtain ⟨b, e3, e2⟩ := isOf_both (c0 := c0) (c1 := c1) (c2 := c2) (c3 := c3) (c5 := c5) (c6 := c6) (c7 := c7) (c8 := c8) (c9 := c9) (k := c1_0) (e1 := c1_1) (e2 := c1_2) (p := c1_3) (n := c1_4) g4 s2 s3
  simp [f_laws_FnExactIsOfBucket, start, execL, exec, execOps, stepO, wants, fop, eop, Opd.ev, put, V.cells, plain, loadV, cut, isInt, isStr, isBool, bin, binInt, binStr_neq, binStr_eql, un, asList, L.view, viewArgs, V.view, viewL, done, finish, resultsOf, resultOf, comps, comp, giveLs, giveL, arrsOf, V.flat, L.flat, setV, setL, storeV, putAt, thaw, thawL, freezeVs, freezeLs, freezeL, V.mut, L.mut, elemPtr, viewRows, b2, b3, m0, n0, m1, n1, to0, eq0, to1, e2, e3]
end Gi
