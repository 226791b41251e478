/- Writes that are lost: the law. -/
import Derived.Test.YtfnjohoekldfcaaGreatGud1
import Derived.Test.YtfnjohoekldfcaaGreatGud2
namespace Gi
open Go Go.RowKit
set_option linter.unusedSimpArgs false
set_option linter.unusedVariables false
set_option maxHeartbeats 4000000
set_option maxRecDepth 4000

theorem server_cells {r : List PV} (h : HasL t_ServerS r) : ∃ (c0 : List UInt8) (c1 : List (List PV)) (c2 : Int) (c3 : List (List PV)) (c4 : List (List PV)), r = [.str c0, .lst c1, .int .i64 c2, .lst c3, .lst c4] ∧ Has (.str) (.str c0) ∧ Has (.lst t_ItemS) (.lst c1) ∧ Has (.int .i64) (.int .i64 c2) ∧ Has (.lst t_AppliedS) (.lst c3) ∧ Has (.lst t_WriteS) (.lst c4) := by
  obtain ⟨p0, r1, rfl, g0, k1⟩ := HasL_cons h
  obtain ⟨p1, r2, rfl, g1, k2⟩ := HasL_cons k1
  obtain ⟨p2, r3, rfl, g2, k3⟩ := HasL_cons k2
  obtain ⟨p3, r4, rfl, g3, k4⟩ := HasL_cons k3
  obtain ⟨p4, r5, rfl, g4, k5⟩ := HasL_cons k4
  obtain rfl := HasL_nil k5
  obtain ⟨c0, rfl⟩ := Has_str g0
  obtain ⟨c1, rfl⟩ := Has_lst g1
  obtain ⟨c2, rfl⟩ := Has_int g2
  obtain ⟨c3, rfl⟩ := Has_lst g3
  obtain ⟨c4, rfl⟩ := Has_lst g4
  exact ⟨c0, c1, c2, c3, c4, rfl, g0, g1, g2, g3, g4⟩
theorem lw_both {c0 : Int} {c1 : Bool} {c2 : Int} {c3 c4 : List (List PV)} {c5 : Int} {c6 c7 c8 c9 : List (List PV)} (h3 : Has (.lst t_BucketS) (.lst c3)) (h9 : Has (.lst t_ServerS) (.lst c9)) (s t : List UInt8) :
    ∃ n, callL Ph extF 120 [.agg [.pv (.int .i64 c0), .pv (.bool c1), .pv (.int .i64 c2), .pv (.lst c3), .pv (.lst c4), .pv (.int .i64 c5), .pv (.lst c6), .pv (.lst c7), .pv (.lst c8), .pv (.lst c9)], vstr s, vstr t] = some (vint .i64 n) ∧ callL Ph extF 119 [.agg [.pv (.int .i64 c0), .pv (.bool c1), .pv (.int .i64 c2), .pv (.lst c3), .pv (.lst c4), .pv (.int .i64 c5), .pv (.lst c6), .pv (.lst c7), .pv (.lst c8), .pv (.lst c9)], vstr s, vstr t] = some (vint .i64 n) := by
  have f1 := spec_FindBucket_ok h3 s t
  have s1 := impl_SiteNumber_ok s
  have s2 := spec_SiteNumber_ok s
  obtain ⟨hl9, hr9⟩ := Has_rows h9
  have hw9 : IntKind.i64.wrap ((c9.length : Int) - 1) = (c9.length : Int) - 1 := by unfold maxLen at hl9; rw [IntKind.wrap_i64]; omega
  have r1 := spec_l1In_ok (siteNo s) 0 ((c9.length : Int) - 1)
  by_cases hn : findI (isB s t) c3 0 < 0
  · have e2' := impl_bucketOf_none (c0 := c0) (c1 := c1) (c2 := c2) (c4 := c4) (c5 := c5) (c6 := c6) (c7 := c7) (c8 := c8) (c9 := c9) h3 hn
    refine ⟨0, callL_fn (fn := f_impl_LostWrites) rfl ?_, callL_fn (fn := f_spec_LostWrites) rfl ?_⟩
    · simp [f_impl_LostWrites, start, execL, exec, execOps, stepO, wants, fop, eop, Opd.ev, put, V.cells, plain, loadV, cut, isInt, isStr, isBool, bin, binInt, binStr_neq, binStr_eql, un, asList, L.view, viewArgs, V.view, viewL, done, finish, resultsOf, resultOf, comps, comp, giveLs, giveL, arrsOf, V.flat, L.flat, setV, setL, storeV, putAt, thaw, thawL, freezeVs, freezeLs, freezeL, V.mut, L.mut, elemPtr, viewRows, e2', s1, zeroB, thawT]
    · simp [f_spec_LostWrites, start, execL, exec, execOps, stepO, wants, fop, eop, Opd.ev, put, V.cells, plain, loadV, cut, isInt, isStr, isBool, bin, binInt, binStr_neq, binStr_eql, un, asList, L.view, viewArgs, V.view, viewL, done, finish, resultsOf, resultOf, comps, comp, giveLs, giveL, arrsOf, V.flat, L.flat, setV, setL, storeV, putAt, thaw, thawL, freezeVs, freezeLs, freezeL, V.mut, L.mut, elemPtr, viewRows, f1, s2, hn]
  · obtain ⟨j, hj, hfi⟩ := findI_at hn
    have e2' := impl_bucketOf_some (c0 := c0) (c1 := c1) (c2 := c2) (c4 := c4) (c5 := c5) (c6 := c6) (c7 := c7) (c8 := c8) (c9 := c9) h3 hj hfi
    obtain ⟨d0, d1, d2, d3, d4, d5, d6, d7, d8, d9, d10, d11, d12, d13, d14, d15, d16, d17, d18, d19, d20, d21, d22, d23, hd, _, _, _, _, _, _, _, _, _, _, _, _, _, _, _, _, _, _, hd18, hd19, _⟩ := bucket_cells ((Has_rows h3).2 _ (List.getElem_mem hj))
    have hneg : ¬ (j : Int) < 0 := by omega
    rw [hfi] at f1
    rw [hd] at e2'
    by_cases hin : 0 ≤ siteNo s ∧ siteNo s ≤ (c9.length : Int) - 1
    · have hb : (decide ((0 : Int) ≤ siteNo s) && decide (siteNo s ≤ (c9.length : Int) - 1)) = true := by simp; omega
      rw [hb] at r1
      obtain ⟨i, hi⟩ := Int.eq_ofNat_of_zero_le hin.1
      have hi9 : i < c9.length := by omega
      rw [hi] at s1 s2 r1
      have n1 : ¬ (i : Int) < 0 := by omega
      have n2 : ¬ (c9.length : Int) ≤ (i : Int) := by omega
      have n2' : ¬ c9.length ≤ i := by omega
      obtain ⟨v0, v1, v2, v3, v4, hv, _, _, _, hv3, _⟩ := server_cells (hr9 _ (List.getElem_mem hi9))
      have l1 := impl_LastSeq_ok (s0 := v0) (s1 := v1) (s2 := v2) (s4 := v4) hv3 d17
      have l2 := spec_LastSeq_ok (s0 := v0) (s1 := v1) (s2 := v2) (s4 := v4) hv3 d17
      have r2 := impl_InRange_ok (lastV d17 v3) 0 999999999999
      generalize lastV d17 v3 = last at l1 l2 r2
      by_cases hr : 0 ≤ last ∧ last ≤ 999999999999
      · have hb2 : (decide ((0 : Int) ≤ last) && decide (last ≤ 999999999999)) = true := by simp; omega
        rw [hb2] at r2
        have hwl : IntKind.i64.wrap (last + 1) = last + 1 := by rw [IntKind.wrap_i64]; omega
        have hN := (i64_range hd18).2
        refine ⟨lostF d19 last (d18 - (last + 1)).toNat (last + 1) 0, callL_fn (fn := f_impl_LostWrites) rfl ?_, callL_fn (fn := f_spec_LostWrites) rfl ?_⟩
        · have LP := ilw_loop' (ws := d19) (dv := d17) (N := d18) (last := last) (a0 := .box [.pv (.int .i64 c0), .pv (.bool c1), .pv (.int .i64 c2), .pv (.lst c3), .pv (.lst c4), .pv (.int .i64 c5), .pv (.lst c6), .pv (.lst c7), .pv (.lst c8), .pv (.lst c9)]) (a1 := .box [.pv (.str d0), .pv (.str d1), .pv (.str d2), .pv (.int .i64 d3), .pv (.int .i64 d4), .pv (.int .i64 d5), .pv (.lst d6), .pv (.str d7), .pv (.int .i64 d8), .pv (.lst d9), .pv (.lst d10), .pv (.lst d11), .pv (.int .i64 d12), .pv (.str d13), .pv (.lst d14), .pv (.int .i64 d15), .pv (.int .i64 d16), .pv (.int .i64 d17), .pv (.int .i64 d18), .pv (.lst d19), .pv (.int .i64 d20), .pv (.int .i64 d21), .pv (.int .i64 d22), .pv (.bool d23)]) hd19 hN hr.1 hr.2 _ (last + 1) 0 (by omega) rfl []
          generalize hF : exec (callL Ph extF) loopL b_impl_LostWrites_0 = F at LP
          simp [f_impl_LostWrites, start, execL, exec, execOps, stepO, wants, fop, eop, Opd.ev, put, V.cells, plain, loadV, cut, isInt, isStr, isBool, bin, binInt, binStr_neq, binStr_eql, un, asList, L.view, viewArgs, V.view, viewL, done, finish, resultsOf, resultOf, comps, comp, giveLs, giveL, arrsOf, V.flat, L.flat, setV, setL, storeV, putAt, thaw, thawL, freezeVs, freezeLs, freezeL, V.mut, L.mut, elemPtr, viewRows, e2', s1, thawT, n1, n2, n2', hi9, hv, l1, r2, hwl, hF]
          generalize hσ : St.mk _ _ = σ0
          obtain ⟨e, σ', q1, rfl, x0, x1, x2, x3, x4, x5, x6, x7, x8, x9, x14, x15, x16, x17, x18, x19, x20, x21, x22, x23, x24, x25, x26, x27, x28, x29, x30, x31, x32, x33, x34, x35, x36, x37, x38, x39, x40, x41, x42, x43, x44, x45, x46, x47, x48, x49, x50, x51, x52, x53, x54, x55, x56, x57, x58, x59, x60, x61, x62, x63, x64, x65, x66, x67, x68, x69, x70, x71, x72, x73, x74, x75, x76, x77, y, h', rfl⟩ := (LP _ _ _ _ _ _ _ _ _ _ _ _ _ _ _ _ _ _ _ _ _ _ _ _ _ _ _ _ _ _ _ _ _ _ _ _ _ _ _ _ _ _ _ _ _ _ _ _ _ _ _ _ _ _ _ _ _ _ _ _ _ _ _ _ _ _ _ _ _ _ _ _ _ _ σ0 hσ.symm).get
          rw [q1]
          simp [start, execL, exec, execOps, stepO, wants, fop, eop, Opd.ev, put, V.cells, plain, loadV, cut, isInt, isStr, isBool, bin, binInt, binStr_neq, binStr_eql, un, asList, L.view, viewArgs, V.view, viewL, done, finish, resultsOf, resultOf, comps, comp, giveLs, giveL, arrsOf, V.flat, L.flat, setV, setL, storeV, putAt, thaw, thawL, freezeVs, freezeLs, freezeL, V.mut, L.mut, elemPtr, viewRows]
        · have LP := slo_loop (ws := d19) (dv := d17) (N := d18) (last := last) (a0 := .box [.pv (.int .i64 c0), .pv (.bool c1), .pv (.int .i64 c2), .pv (.lst c3), .pv (.lst c4), .pv (.int .i64 c5), .pv (.lst c6), .pv (.lst c7), .pv (.lst c8), .pv (.lst c9)]) hd19 hN hr.1 hr.2 _ (last + 1) 0 (by omega) rfl
          rw [lost_eq d19 last _ (last + 1) 0 (by omega) (.inr rfl)]
          generalize hF : exec (callL Ph extF) loopL b_spec_LostWrites_1 = F at LP
          simp [f_spec_LostWrites, start, execL, exec, execOps, stepO, wants, fop, eop, Opd.ev, put, V.cells, plain, loadV, cut, isInt, isStr, isBool, bin, binInt, binStr_neq, binStr_eql, un, asList, L.view, viewArgs, V.view, viewL, done, finish, resultsOf, resultOf, comps, comp, giveLs, giveL, arrsOf, V.flat, L.flat, setV, setL, storeV, putAt, thaw, thawL, freezeVs, freezeLs, freezeL, V.mut, L.mut, elemPtr, viewRows, f1, s2, hneg, hj, hd, hw9, r1, hi9, hv, l2, hwl, hF]
          generalize hσ : St.mk _ _ = σ0
          obtain ⟨e, σ', q1, q3⟩ := (LP _ _ _ _ _ _ _ _ _ _ _ _ _ _ _ _ _ _ _ _ _ _ _ _ _ _ _ _ _ _ _ _ _ _ _ _ _ _ _ _ _ _ _ _ _ _ _ _ _ _ _ _ _ _ _ _ _ _ _ _ _ _ _ _ _ _ _ _ _ _ _ _ _ _ _ _ _ _ _ _ _ _ _ _ _ _ _ _ σ0 hσ.symm).get
          rw [q1]
          rcases q3 with ⟨rfl, x0, x1, x2, x3, x4, x5, x6, x7, x8, x13, x14, x15, x16, x17, x18, x19, x20, x21, x22, x23, x24, x25, x26, x27, x28, x29, x30, x31, x32, x33, x34, x35, x36, x37, x38, x39, x40, x41, x42, x43, x44, x45, x46, x47, x48, x49, x50, x51, x52, x53, x54, x55, x56, x57, x58, x59, x60, x61, x62, x63, x64, x65, x66, x67, x68, x69, x70, x71, x72, x73, x74, x75, x76, x77, x78, x79, x80, x81, x82, x83, x84, x85, x86, x87, x88, x89, x90, x91, y, h', rfl⟩ | ⟨rfl, q5, q7⟩
          · simp [start, execL, exec, execOps, stepO, wants, fop, eop, Opd.ev, put, V.cells, plain, loadV, cut, isInt, isStr, isBool, bin, binInt, binStr_neq, binStr_eql, un, asList, L.view, viewArgs, V.view, viewL, done, finish, resultsOf, resultOf, comps, comp, giveLs, giveL, arrsOf, V.flat, L.flat, setV, setL, storeV, putAt, thaw, thawL, freezeVs, freezeLs, freezeL, V.mut, L.mut, elemPtr, viewRows]
          · obtain ⟨_, q8⟩ := List.getElem?_eq_some_iff.1 q7
            simp [start, execL, exec, execOps, stepO, wants, fop, eop, Opd.ev, put, V.cells, plain, loadV, cut, isInt, isStr, isBool, bin, binInt, binStr_neq, binStr_eql, un, asList, L.view, viewArgs, V.view, viewL, done, finish, resultsOf, resultOf, comps, comp, giveLs, giveL, arrsOf, V.flat, L.flat, setV, setL, storeV, putAt, thaw, thawL, freezeVs, freezeLs, freezeL, V.mut, L.mut, elemPtr, viewRows, q5, q8]
      · have hb2 : (decide ((0 : Int) ≤ last) && decide (last ≤ 999999999999)) = false := by
          by_cases a1 : (0 : Int) ≤ last <;> by_cases a2 : last ≤ 999999999999 <;> simp [a1, a2]
          omega
        rw [hb2] at r2
        refine ⟨0, callL_fn (fn := f_impl_LostWrites) rfl ?_, callL_fn (fn := f_spec_LostWrites) rfl ?_⟩
        · generalize hF : exec (callL Ph extF) loopL b_impl_LostWrites_0 = F
          simp [f_impl_LostWrites, start, execL, exec, execOps, stepO, wants, fop, eop, Opd.ev, put, V.cells, plain, loadV, cut, isInt, isStr, isBool, bin, binInt, binStr_neq, binStr_eql, un, asList, L.view, viewArgs, V.view, viewL, done, finish, resultsOf, resultOf, comps, comp, giveLs, giveL, arrsOf, V.flat, L.flat, setV, setL, storeV, putAt, thaw, thawL, freezeVs, freezeLs, freezeL, V.mut, L.mut, elemPtr, viewRows, e2', s1, thawT, n1, n2, n2', hi9, hv, l1, r2, hF]
        · generalize hF : exec (callL Ph extF) loopL b_spec_LostWrites_1 = F
          generalize hq : IntKind.i64.wrap (last + 1) = q
          simp [f_spec_LostWrites, start, execL, exec, execOps, stepO, wants, fop, eop, Opd.ev, put, V.cells, plain, loadV, cut, isInt, isStr, isBool, bin, binInt, binStr_neq, binStr_eql, un, asList, L.view, viewArgs, V.view, viewL, done, finish, resultsOf, resultOf, comps, comp, giveLs, giveL, arrsOf, V.flat, L.flat, setV, setL, storeV, putAt, thaw, thawL, freezeVs, freezeLs, freezeL, V.mut, L.mut, elemPtr, viewRows, f1, s2, hneg, hj, hd, hw9, r1, hi9, hv, l2, hq, hF]
          rw [loopL_go0 hF]
          by_cases a0 : q < d18
          · by_cases a1 : (0 : Int) ≤ last
            · have a2 : ¬ last < 1000000000000 := by omega
              simp [b_spec_LostWrites_1, start, execL, exec, execOps, stepO, wants, fop, eop, Opd.ev, put, V.cells, plain, loadV, cut, isInt, isStr, isBool, bin, binInt, binStr_neq, binStr_eql, un, asList, L.view, viewArgs, V.view, viewL, done, finish, resultsOf, resultOf, comps, comp, giveLs, giveL, arrsOf, V.flat, L.flat, setV, setL, storeV, putAt, thaw, thawL, freezeVs, freezeLs, freezeL, V.mut, L.mut, elemPtr, viewRows, a0, a1, a2]
            · simp [b_spec_LostWrites_1, start, execL, exec, execOps, stepO, wants, fop, eop, Opd.ev, put, V.cells, plain, loadV, cut, isInt, isStr, isBool, bin, binInt, binStr_neq, binStr_eql, un, asList, L.view, viewArgs, V.view, viewL, done, finish, resultsOf, resultOf, comps, comp, giveLs, giveL, arrsOf, V.flat, L.flat, setV, setL, storeV, putAt, thaw, thawL, freezeVs, freezeLs, freezeL, V.mut, L.mut, elemPtr, viewRows, a0, a1]
          · simp [b_spec_LostWrites_1, start, execL, exec, execOps, stepO, wants, fop, eop, Opd.ev, put, V.cells, plain, loadV, cut, isInt, isStr, isBool, bin, binInt, binStr_neq, binStr_eql, un, asList, L.view, viewArgs, V.view, viewL, done, finish, resultsOf, resultOf, comps, comp, giveLs, giveL, arrsOf, V.flat, L.flat, setV, setL, storeV, putAt, thaw, thawL, freezeVs, freezeLs, freezeL, V.mut, L.mut, elemPtr, viewRows, a0]
    · have hb : (decide ((0 : Int) ≤ siteNo s) && decide (siteNo s ≤ (c9.length : Int) - 1)) = false := by
        by_cases a1 : (0 : Int) ≤ siteNo s <;> by_cases a2 : siteNo s ≤ (c9.length : Int) - 1 <;> simp [a1, a2]
        exact hin ⟨a1, a2⟩
      rw [hb] at r1
      generalize siteNo s = z at s1 s2 r1 hin
      refine ⟨0, callL_fn (fn := f_impl_LostWrites) rfl ?_, callL_fn (fn := f_spec_LostWrites) rfl ?_⟩
      · generalize hF : exec (callL Ph extF) loopL b_impl_LostWrites_0 = F
        by_cases a1 : z < 0
        · simp [f_impl_LostWrites, start, execL, exec, execOps, stepO, wants, fop, eop, Opd.ev, put, V.cells, plain, loadV, cut, isInt, isStr, isBool, bin, binInt, binStr_neq, binStr_eql, un, asList, L.view, viewArgs, V.view, viewL, done, finish, resultsOf, resultOf, comps, comp, giveLs, giveL, arrsOf, V.flat, L.flat, setV, setL, storeV, putAt, thaw, thawL, freezeVs, freezeLs, freezeL, V.mut, L.mut, elemPtr, viewRows, e2', s1, thawT, a1, hF]
        · have a2 : (c9.length : Int) ≤ z := by omega
          simp [f_impl_LostWrites, start, execL, exec, execOps, stepO, wants, fop, eop, Opd.ev, put, V.cells, plain, loadV, cut, isInt, isStr, isBool, bin, binInt, binStr_neq, binStr_eql, un, asList, L.view, viewArgs, V.view, viewL, done, finish, resultsOf, resultOf, comps, comp, giveLs, giveL, arrsOf, V.flat, L.flat, setV, setL, storeV, putAt, thaw, thawL, freezeVs, freezeLs, freezeL, V.mut, L.mut, elemPtr, viewRows, e2', s1, thawT, a1, a2, hF]
      · generalize hF : exec (callL Ph extF) loopL b_spec_LostWrites_1 = F
        simp [f_spec_LostWrites, start, execL, exec, execOps, stepO, wants, fop, eop, Opd.ev, put, V.cells, plain, loadV, cut, isInt, isStr, isBool, bin, binInt, binStr_neq, binStr_eql, un, asList, L.view, viewArgs, V.view, viewL, done, finish, resultsOf, resultOf, comps, comp, giveLs, giveL, arrsOf, V.flat, L.flat, setV, setL, storeV, putAt, thaw, thawL, freezeVs, freezeLs, freezeL, V.mut, L.mut, elemPtr, viewRows, f1, s2, hneg, hw9, r1, hF]
theorem law_LostWrites {r0 : List PV} (h0 : HasL t_World r0) {s1 : List UInt8} (h1 : Has (.str) (.str s1)) {s2 : List UInt8} (h2 : Has (.str) (.str s2)) : callL Ph extF 100 [.agg (r0.map .pv), vstr s1, vstr s2] = some (vbool true) := by
  obtain ⟨p0, r1, rfl, g0, k1⟩ := HasL_cons h0
  obtain ⟨p1, r2, rfl, g1, k2⟩ := HasL_cons k1
  obtain ⟨p2, r3, rfl, g2, k3⟩ := HasL_cons k2
  obtain ⟨p3, r4, rfl, g3, k4⟩ := HasL_cons k3
  obtain ⟨p4, r5, rfl, g4, k5⟩ := HasL_cons k4
  obtain ⟨p5, r6, rfl, g5, k6⟩ := HasL_cons k5
  obtain ⟨p6, r7, rfl, g6, k7⟩ := HasL_cons k6
  obtain ⟨p7, r8, rfl, g7, k8⟩ := HasL_cons k7
  obtain ⟨p8, r9, rfl, g8, k9⟩ := HasL_cons k8
  obtain ⟨p9, r10, rfl, g9, k10⟩ := HasL_cons k9
  obtain rfl := HasL_nil k10
  obtain ⟨c0, rfl⟩ := Has_int g0
  obtain ⟨c1, rfl⟩ := Has_bool g1
  obtain ⟨c2, rfl⟩ := Has_int g2
  obtain ⟨c3, rfl⟩ := Has_lst g3
  obtain ⟨c4, rfl⟩ := Has_lst g4
  obtain ⟨c5, rfl⟩ := Has_int g5
  obtain ⟨c6, rfl⟩ := Has_lst g6
  obtain ⟨c7, rfl⟩ := Has_lst g7
  obtain ⟨c8, rfl⟩ := Has_lst g8
  obtain ⟨c9, rfl⟩ := Has_lst g9
  show callL Ph extF 100 [.agg [.pv (.int .i64 c0), .pv (.bool c1), .pv (.int .i64 c2), .pv (.lst c3), .pv (.lst c4), .pv (.int .i64 c5), .pv (.lst c6), .pv (.lst c7), .pv (.lst c8), .pv (.lst c9)], vstr s1, vstr s2] = _
  refine callL_fn (fn := f_laws_FnExactLostWrites) rfl ?_
  by_cases b1 : (1048576 : Int) < s1.length
  · simp [f_laws_FnExactLostWrites, start, execL, exec, execOps, stepO, wants, fop, eop, Opd.ev, put, V.cells, plain, loadV, cut, isInt, isStr, isBool, bin, binInt, binStr_neq, binStr_eql, un, asList, L.view, viewArgs, V.view, viewL, done, finish, resultsOf, resultOf, comps, comp, giveLs, giveL, arrsOf, V.flat, L.flat, setV, setL, storeV, putAt, thaw, thawL, freezeVs, freezeLs, freezeL, V.mut, L.mut, elemPtr, viewRows, b1]
  by_cases b2 : (1048576 : Int) < s2.length
  · simp [f_laws_FnExactLostWrites, start, execL, exec, execOps, stepO, wants, fop, eop, Opd.ev, put, V.cells, plain, loadV, cut, isInt, isStr, isBool, bin, binInt, binStr_neq, binStr_eql, un, asList, L.view, viewArgs, V.view, viewL, done, finish, resultsOf, resultOf, comps, comp, giveLs, giveL, arrsOf, V.flat, L.flat, setV, setL, storeV, putAt, thaw, thawL, freezeVs, freezeLs, freezeL, V.mut, L.mut, elemPtr, viewRows, b2, b1]
  have m0 : callL Ph extF 104 [.agg [.pv (.int .i64 c0), .pv (.bool c1), .pv (.int .i64 c2), .pv (.lst c3), .pv (.lst c4), .pv (.int .i64 c5), .pv (.lst c6), .pv (.lst c7), .pv (.lst c8), .pv (.lst c9)], vint .i64 1048576] = some (vint .i64 (less 1048576 (szL [.int .i64 c0, .bool c1, .int .i64 c2, .lst c3, .lst c4, .int .i64 c5, .lst c6, .lst c7, .lst c8, .lst c9]))) := szWorld_ok (ext := extF) h0 1048576 (by omega) (by omega)
  generalize q0 : less 1048576 (szL [.int .i64 c0, .bool c1, .int .i64 c2, .lst c3, .lst c4, .int .i64 c5, .lst c6, .lst c7, .lst c8, .lst c9]) = l0 at m0
  by_cases n0 : l0 < 0
  · simp [f_laws_FnExactLostWrites, start, execL, exec, execOps, stepO, wants, fop, eop, Opd.ev, put, V.cells, plain, loadV, cut, isInt, isStr, isBool, bin, binInt, binStr_neq, binStr_eql, un, asList, L.view, viewArgs, V.view, viewL, done, finish, resultsOf, resultOf, comps, comp, giveLs, giveL, arrsOf, V.flat, L.flat, setV, setL, storeV, putAt, thaw, thawL, freezeVs, freezeLs, freezeL, V.mut, L.mut, elemPtr, viewRows, n0, b1, b2, m0]
  obtain ⟨le0, hz0⟩ := less_pos (by omega) q0 n0
  have hs0 : szL [.int .i64 c0, .bool c1, .int .i64 c2, .lst c3, .lst c4, .int .i64 c5, .lst c6, .lst c7, .lst c8, .lst c9] ≤ 1048576 := by omega
  have to0 := toWorld_ok (ext := extF) g0 g1 g2 g3 g4 g5 g6 g7 g8 g9 hs0
  have eq0 : callL Ph extF 108 [.agg [.pv (.int .i64 c0), .pv (.bool c1), .pv (.int .i64 c2), .pv (.lst c3), .pv (.lst c4), .pv (.int .i64 c5), .pv (.lst c6), .pv (.lst c7), .pv (.lst c8), .pv (.lst c9)], .agg [.pv (.int .i64 c0), .pv (.bool c1), .pv (.int .i64 c2), .pv (.lst c3), .pv (.lst c4), .pv (.int .i64 c5), .pv (.lst c6), .pv (.lst c7), .pv (.lst c8), .pv (.lst c9)]] = some (vbool true) := eqWorld_ok (ext := extF) h0
  obtain ⟨n, e3, e2⟩ := lw_both (c0 := c0) (c1 := c1) (c2 := c2) (c4 := c4) (c5 := c5) (c6 := c6) (c7 := c7) (c8 := c8) g3 g9 s1 s2
  simp [f_laws_FnExactLostWrites, start, execL, exec, execOps, stepO, wants, fop, eop, Opd.ev, put, V.cells, plain, loadV, cut, isInt, isStr, isBool, bin, binInt, binStr_neq, binStr_eql, un, asList, L.view, viewArgs, V.view, viewL, done, finish, resultsOf, resultOf, comps, comp, giveLs, giveL, arrsOf, V.flat, L.flat, setV, setL, storeV, putAt, thaw, thawL, freezeVs, freezeLs, freezeL, V.mut, L.mut, elemPtr, viewRows, b1, b2, m0, n0, to0, eq0, e2, e3]
end Gi
