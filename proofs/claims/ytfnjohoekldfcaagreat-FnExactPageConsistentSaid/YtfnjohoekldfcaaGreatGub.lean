/- A page of one version: the law. -/
import Derived.Test.YtfnjohoekldfcaaGreatGua2
namespace Gi
open Go Go.RowKit
set_option linter.unusedSimpArgs false
set_option linter.unusedVariables false
set_option maxHeartbeats 4000000
set_option maxRecDepth 4000

theorem pc_both {c0 : Int} {c1 : Bool} {c2 : Int} {c3 c4 : List (List PV)} {c5 : Int} {c6 c7 c8 c9 : List (List PV)} (h3 : Has (.lst t_BucketS) (.lst c3)) {e0 : Int} {e1 e2 : List UInt8} {e3 : Int} {e4 e5 : List (List PV)} {e6 : Int} {e7 : List (List PV)} {e8 : Int} {e9 e10 : Bool} (h1 : e1.length ≤ maxLen) (h2 : e2.length ≤ maxLen) (h4 : Has (.lst t_LoadedS) (.lst e4)) :
    ∃ b, callL Ph extF 118 [.agg [.pv (.int .i64 c0), .pv (.bool c1), .pv (.int .i64 c2), .pv (.lst c3), .pv (.lst c4), .pv (.int .i64 c5), .pv (.lst c6), .pv (.lst c7), .pv (.lst c8), .pv (.lst c9)], .agg [.pv (.int .i64 e0), .pv (.str e1), .pv (.str e2), .pv (.int .i64 e3), .pv (.lst e4), .pv (.lst e5), .pv (.int .i64 e6), .pv (.lst e7), .pv (.int .i64 e8), .pv (.bool e9), .pv (.bool e10)]] = some (vbool b) ∧ callL Ph extF 117 [.agg [.pv (.int .i64 c0), .pv (.bool c1), .pv (.int .i64 c2), .pv (.lst c3), .pv (.lst c4), .pv (.int .i64 c5), .pv (.lst c6), .pv (.lst c7), .pv (.lst c8), .pv (.lst c9)], .agg [.pv (.int .i64 e0), .pv (.str e1), .pv (.str e2), .pv (.int .i64 e3), .pv (.lst e4), .pv (.lst e5), .pv (.int .i64 e6), .pv (.lst e7), .pv (.int .i64 e8), .pv (.bool e9), .pv (.bool e10)]] = some (vbool b) := by
  have f1 := spec_FindBucket_ok h3 e1 e2
  have i1 := impl_IsPage_ok (e0 := e0) (e3 := e3) (e5 := e5) (e6 := e6) (e7 := e7) (e8 := e8) (e9 := e9) (e10 := e10) h1 h2 h4
  have i2 := spec_IsPage_ok (e0 := e0) (e3 := e3) (e5 := e5) (e6 := e6) (e7 := e7) (e8 := e8) (e9 := e9) (e10 := e10) h1 h2 h4
  generalize isPage e0 e1 e2 e3 e4 = ip at i1 i2
  by_cases hn : findI (isB e1 e2) c3 0 < 0
  · have e2' := impl_bucketOf_none (c0 := c0) (c1 := c1) (c2 := c2) (c4 := c4) (c5 := c5) (c6 := c6) (c7 := c7) (c8 := c8) (c9 := c9) h3 hn
    refine ⟨false, callL_fn (fn := f_impl_PageConsistent) rfl ?_, callL_fn (fn := f_spec_PageConsistent) rfl ?_⟩
    · cases ip <;> simp [f_impl_PageConsistent, start, execL, exec, execOps, stepO, wants, fop, eop, Opd.ev, put, V.cells, plain, loadV, cut, isInt, isStr, isBool, bin, binInt, binStr_neq, binStr_eql, un, asList, L.view, viewArgs, V.view, viewL, done, finish, resultsOf, resultOf, comps, comp, giveLs, giveL, arrsOf, V.flat, L.flat, setV, setL, storeV, putAt, thaw, thawL, freezeVs, freezeLs, freezeL, V.mut, L.mut, elemPtr, viewRows, e2', i1, zeroB, thawT]
    · cases ip <;> simp [f_spec_PageConsistent, start, execL, exec, execOps, stepO, wants, fop, eop, Opd.ev, put, V.cells, plain, loadV, cut, isInt, isStr, isBool, bin, binInt, binStr_neq, binStr_eql, un, asList, L.view, viewArgs, V.view, viewL, done, finish, resultsOf, resultOf, comps, comp, giveLs, giveL, arrsOf, V.flat, L.flat, setV, setL, storeV, putAt, thaw, thawL, freezeVs, freezeLs, freezeL, V.mut, L.mut, elemPtr, viewRows, f1, i2, hn]
  · obtain ⟨j, hj, hfi⟩ := findI_at hn
    have e2' := impl_bucketOf_some (c0 := c0) (c1 := c1) (c2 := c2) (c4 := c4) (c5 := c5) (c6 := c6) (c7 := c7) (c8 := c8) (c9 := c9) h3 hj hfi
    obtain ⟨d0, d1, d2, d3, d4, d5, d6, d7, d8, d9, d10, d11, d12, d13, d14, d15, d16, d17, d18, d19, d20, d21, d22, d23, hd, _, _, _, _, _, _, hd6, _⟩ := bucket_cells ((Has_rows h3).2 _ (List.getElem_mem hj))
    have hneg : ¬ (j : Int) < 0 := by omega
    rw [hfi] at f1
    rw [hd] at e2'
    cases ip with
    | false =>
      refine ⟨false, callL_fn (fn := f_impl_PageConsistent) rfl ?_, callL_fn (fn := f_spec_PageConsistent) rfl ?_⟩
      · simp [f_impl_PageConsistent, start, execL, exec, execOps, stepO, wants, fop, eop, Opd.ev, put, V.cells, plain, loadV, cut, isInt, isStr, isBool, bin, binInt, binStr_neq, binStr_eql, un, asList, L.view, viewArgs, V.view, viewL, done, finish, resultsOf, resultOf, comps, comp, giveLs, giveL, arrsOf, V.flat, L.flat, setV, setL, storeV, putAt, thaw, thawL, freezeVs, freezeLs, freezeL, V.mut, L.mut, elemPtr, viewRows, e2', i1, thawT]
      · simp [f_spec_PageConsistent, start, execL, exec, execOps, stepO, wants, fop, eop, Opd.ev, put, V.cells, plain, loadV, cut, isInt, isStr, isBool, bin, binInt, binStr_neq, binStr_eql, un, asList, L.view, viewArgs, V.view, viewL, done, finish, resultsOf, resultOf, comps, comp, giveLs, giveL, arrsOf, V.flat, L.flat, setV, setL, storeV, putAt, thaw, thawL, freezeVs, freezeLs, freezeL, V.mut, L.mut, elemPtr, viewRows, f1, i2, hneg]
    | true =>
      have g1 := impl_FindCache_ok hd6 e3
      have g2 := spec_FindCache_ok hd6 e3
      by_cases hm : findI (isC e3) d6 0 < 0
      · refine ⟨true, callL_fn (fn := f_impl_PageConsistent) rfl ?_, callL_fn (fn := f_spec_PageConsistent) rfl ?_⟩
        · simp [f_impl_PageConsistent, start, execL, exec, execOps, stepO, wants, fop, eop, Opd.ev, put, V.cells, plain, loadV, cut, isInt, isStr, isBool, bin, binInt, binStr_neq, binStr_eql, un, asList, L.view, viewArgs, V.view, viewL, done, finish, resultsOf, resultOf, comps, comp, giveLs, giveL, arrsOf, V.flat, L.flat, setV, setL, storeV, putAt, thaw, thawL, freezeVs, freezeLs, freezeL, V.mut, L.mut, elemPtr, viewRows, e2', i1, thawT, g1, hm]
        · simp [f_spec_PageConsistent, start, execL, exec, execOps, stepO, wants, fop, eop, Opd.ev, put, V.cells, plain, loadV, cut, isInt, isStr, isBool, bin, binInt, binStr_neq, binStr_eql, un, asList, L.view, viewArgs, V.view, viewL, done, finish, resultsOf, resultOf, comps, comp, giveLs, giveL, arrsOf, V.flat, L.flat, setV, setL, storeV, putAt, thaw, thawL, freezeVs, freezeLs, freezeL, V.mut, L.mut, elemPtr, viewRows, f1, i2, hneg, hj, hd, g2, hm]
      · obtain ⟨q, hq, hfq⟩ := findI_at hm
        have hneq : ¬ (q : Int) < 0 := by omega
        rw [hfq] at g1 g2
        obtain ⟨n, es, hce, hes⟩ := cache_row ((Has_rows hd6).2 _ (List.getElem_mem hq))
        obtain ⟨hl, hr⟩ := Has_rows hes
        refine ⟨!(es.any (badE e1 e3)), callL_fn (fn := f_impl_PageConsistent) rfl ?_, callL_fn (fn := f_spec_PageConsistent) rfl ?_⟩
        · have LP := ipc_loop' (e0 := e0) (e1 := e1) (e2 := e2) (e3 := e3) (e4 := e4) (e5 := e5) (e6 := e6) (e7 := e7) (e8 := e8) (e9 := e9) (e10 := e10) (a0 := .box [.pv (.int .i64 c0), .pv (.bool c1), .pv (.int .i64 c2), .pv (.lst c3), .pv (.lst c4), .pv (.int .i64 c5), .pv (.lst c6), .pv (.lst c7), .pv (.lst c8), .pv (.lst c9)]) (a2 := .box [.pv (.str d0), .pv (.str d1), .pv (.str d2), .pv (.int .i64 d3), .pv (.int .i64 d4), .pv (.int .i64 d5), .pv (.lst d6), .pv (.str d7), .pv (.int .i64 d8), .pv (.lst d9), .pv (.lst d10), .pv (.lst d11), .pv (.int .i64 d12), .pv (.str d13), .pv (.lst d14), .pv (.int .i64 d15), .pv (.int .i64 d16), .pv (.int .i64 d17), .pv (.int .i64 d18), .pv (.lst d19), .pv (.int .i64 d20), .pv (.int .i64 d21), .pv (.int .i64 d22), .pv (.bool d23)]) hl hr es.length 0 0 rfl (by omega)
          simp only [List.drop_zero] at LP
          generalize hF : exec (callL Ph extF) loopL b_impl_PageConsistent_0 = F at LP
          simp [f_impl_PageConsistent, start, execL, exec, execOps, stepO, wants, fop, eop, Opd.ev, put, V.cells, plain, loadV, cut, isInt, isStr, isBool, bin, binInt, binStr_neq, binStr_eql, un, asList, L.view, viewArgs, V.view, viewL, done, finish, resultsOf, resultOf, comps, comp, giveLs, giveL, arrsOf, V.flat, L.flat, setV, setL, storeV, putAt, thaw, thawL, freezeVs, freezeLs, freezeL, V.mut, L.mut, elemPtr, viewRows, e2', i1, thawT, g1, hneq, hq, hce, hF]
          generalize hσ : St.mk _ _ = σ0
          obtain ⟨e, σ', q1, q3⟩ := (LP _ _ _ _ _ _ _ _ _ _ _ _ _ _ _ _ _ _ _ _ _ _ _ _ _ _ _ _ _ _ _ _ _ _ _ _ _ _ _ _ _ _ _ _ _ _ _ _ _ _ _ _ _ _ _ _ _ _ _ _ _ _ σ0 hσ.symm).get
          rw [q1]
          rcases q3 with ⟨rfl, q4, x0, x1, x2, x4, x5, x6, x7, x8, x9, x10, x11, x12, x13, x14, x15, x16, x17, x18, x19, x20, x21, x22, x23, x24, x25, x26, x27, x28, x29, x30, x31, x32, x33, x34, x35, x36, x37, x38, x42, x43, x44, x45, x46, x47, x48, x49, x50, x51, x52, x53, x54, x55, x56, x57, x58, x59, x60, x61, x62, x63, x64, h', rfl⟩ | ⟨rfl, q4, q5, q7⟩
          · simp [start, execL, exec, execOps, stepO, wants, fop, eop, Opd.ev, put, V.cells, plain, loadV, cut, isInt, isStr, isBool, bin, binInt, binStr_neq, binStr_eql, un, asList, L.view, viewArgs, V.view, viewL, done, finish, resultsOf, resultOf, comps, comp, giveLs, giveL, arrsOf, V.flat, L.flat, setV, setL, storeV, putAt, thaw, thawL, freezeVs, freezeLs, freezeL, V.mut, L.mut, elemPtr, viewRows, q4]
          · obtain ⟨_, q8⟩ := List.getElem?_eq_some_iff.1 q7
            simp [start, execL, exec, execOps, stepO, wants, fop, eop, Opd.ev, put, V.cells, plain, loadV, cut, isInt, isStr, isBool, bin, binInt, binStr_neq, binStr_eql, un, asList, L.view, viewArgs, V.view, viewL, done, finish, resultsOf, resultOf, comps, comp, giveLs, giveL, arrsOf, V.flat, L.flat, setV, setL, storeV, putAt, thaw, thawL, freezeVs, freezeLs, freezeL, V.mut, L.mut, elemPtr, viewRows, q5, q8, q4]
        · have LP := spc_loop' (e0 := e0) (e1 := e1) (e2 := e2) (e3 := e3) (e4 := e4) (e5 := e5) (e6 := e6) (e7 := e7) (e8 := e8) (e9 := e9) (e10 := e10) (a0 := .box [.pv (.int .i64 c0), .pv (.bool c1), .pv (.int .i64 c2), .pv (.lst c3), .pv (.lst c4), .pv (.int .i64 c5), .pv (.lst c6), .pv (.lst c7), .pv (.lst c8), .pv (.lst c9)]) hl hr es.length 0 0 rfl (by omega)
          simp only [List.drop_zero] at LP
          generalize hF : exec (callL Ph extF) loopL b_spec_PageConsistent_0 = F at LP
          simp [f_spec_PageConsistent, start, execL, exec, execOps, stepO, wants, fop, eop, Opd.ev, put, V.cells, plain, loadV, cut, isInt, isStr, isBool, bin, binInt, binStr_neq, binStr_eql, un, asList, L.view, viewArgs, V.view, viewL, done, finish, resultsOf, resultOf, comps, comp, giveLs, giveL, arrsOf, V.flat, L.flat, setV, setL, storeV, putAt, thaw, thawL, freezeVs, freezeLs, freezeL, V.mut, L.mut, elemPtr, viewRows, f1, i2, hneg, hj, hd, g2, hneq, hq, hce, hF]
          generalize hσ : St.mk _ _ = σ0
          obtain ⟨e, σ', q1, q3⟩ := (LP _ _ _ _ _ _ _ _ _ _ _ _ _ _ _ _ _ _ _ _ _ _ _ _ _ _ _ _ _ _ _ _ _ _ _ _ _ _ _ _ _ _ _ _ _ _ _ _ _ _ _ _ _ _ _ _ _ _ _ _ _ _ _ _ _ _ _ _ _ _ _ _ _ _ _ _ _ _ σ0 hσ.symm).get
          rw [q1]
          rcases q3 with ⟨rfl, q4, x0, x1, x2, x4, x5, x6, x9, x10, x11, x12, x13, x14, x15, x16, x17, x18, x19, x20, x21, x22, x23, x24, x25, x26, x27, x28, x29, x30, x31, x32, x33, x34, x35, x36, x37, x38, x39, x40, x41, x42, x43, x44, x45, x46, x47, x48, x49, x50, x51, x52, x53, x54, x55, x56, x57, x58, x59, x60, x61, x62, x63, x64, x65, x66, x67, x68, x69, x70, x71, x72, x73, x74, x75, x76, x77, x78, x79, x80, rfl⟩ | ⟨rfl, q4, q5, q7⟩
          · simp [start, execL, exec, execOps, stepO, wants, fop, eop, Opd.ev, put, V.cells, plain, loadV, cut, isInt, isStr, isBool, bin, binInt, binStr_neq, binStr_eql, un, asList, L.view, viewArgs, V.view, viewL, done, finish, resultsOf, resultOf, comps, comp, giveLs, giveL, arrsOf, V.flat, L.flat, setV, setL, storeV, putAt, thaw, thawL, freezeVs, freezeLs, freezeL, V.mut, L.mut, elemPtr, viewRows, q4]
          · obtain ⟨_, q8⟩ := List.getElem?_eq_some_iff.1 q7
            simp [start, execL, exec, execOps, stepO, wants, fop, eop, Opd.ev, put, V.cells, plain, loadV, cut, isInt, isStr, isBool, bin, binInt, binStr_neq, binStr_eql, un, asList, L.view, viewArgs, V.view, viewL, done, finish, resultsOf, resultOf, comps, comp, giveLs, giveL, arrsOf, V.flat, L.flat, setV, setL, storeV, putAt, thaw, thawL, freezeVs, freezeLs, freezeL, V.mut, L.mut, elemPtr, viewRows, q5, q8, q4]
theorem law_PageConsistent {r0 : List PV} (h0 : HasL t_World r0) {r1 : List PV} (h1 : HasL t_Page r1) : callL Ph extF 99 [.agg (r0.map .pv), .agg (r1.map .pv)] = some (vbool true) := by
  obtain ⟨p0, r1, rfl, g0, k1⟩ := HasL_cons h0
  obtain ⟨p1, r2, rfl, g1, k2⟩ := HasL_cons k1
  obtain ⟨p2, r3, rfl, g2, k3⟩ := HasL_cons k2
  obtain ⟨p3, r4, rfl, g3, k4⟩ := HasL_cons k3
  obtain ⟨p4, r5, rfl, g4, k5⟩ := HasL_cons k4
  obtain ⟨p5, r6, rfl, g5, k6⟩ := HasL_cons k5
  obtain ⟨p6, r7, rfl, g6, k7⟩ := HasL_cons k6
  obtain ⟨p7, r8, rfl, g7, k8⟩ := HasL_cons k7
  obtain ⟨p8, r9, rfl, g8, k9⟩ := HasL_cons k8
  obtain ⟨p9, r10, rfl, g9, k10⟩ := HasL_cons k9
  obtain rfl := HasL_nil k10
  obtain ⟨c0, rfl⟩ := Has_int g0
  obtain ⟨c1, rfl⟩ := Has_bool g1
  obtain ⟨c2, rfl⟩ := Has_int g2
  obtain ⟨c3, rfl⟩ := Has_lst g3
  obtain ⟨c4, rfl⟩ := Has_lst g4
  obtain ⟨c5, rfl⟩ := Has_int g5
  obtain ⟨c6, rfl⟩ := Has_lst g6
  obtain ⟨c7, rfl⟩ := Has_lst g7
  obtain ⟨c8, rfl⟩ := Has_lst g8
  obtain ⟨c9, rfl⟩ := Has_lst g9
  obtain ⟨p1_0, r1_1, rfl, g1_0, k1_1⟩ := HasL_cons h1
  obtain ⟨p1_1, r1_2, rfl, g1_1, k1_2⟩ := HasL_cons k1_1
  obtain ⟨p1_2, r1_3, rfl, g1_2, k1_3⟩ := HasL_cons k1_2
  obtain ⟨p1_3, r1_4, rfl, g1_3, k1_4⟩ := HasL_cons k1_3
  obtain ⟨p1_4, r1_5, rfl, g1_4, k1_5⟩ := HasL_cons k1_4
  obtain ⟨p1_5, r1_6, rfl, g1_5, k1_6⟩ := HasL_cons k1_5
  obtain ⟨p1_6, r1_7, rfl, g1_6, k1_7⟩ := HasL_cons k1_6
  obtain ⟨p1_7, r1_8, rfl, g1_7, k1_8⟩ := HasL_cons k1_7
  obtain ⟨p1_8, r1_9, rfl, g1_8, k1_9⟩ := HasL_cons k1_8
  obtain ⟨p1_9, r1_10, rfl, g1_9, k1_10⟩ := HasL_cons k1_9
  obtain ⟨p1_10, r1_11, rfl, g1_10, k1_11⟩ := HasL_cons k1_10
  obtain rfl := HasL_nil k1_11
  obtain ⟨c1_0, rfl⟩ := Has_int g1_0
  obtain ⟨c1_1, rfl⟩ := Has_str g1_1
  obtain ⟨c1_2, rfl⟩ := Has_str g1_2
  obtain ⟨c1_3, rfl⟩ := Has_int g1_3
  obtain ⟨c1_4, rfl⟩ := Has_lst g1_4
  obtain ⟨c1_5, rfl⟩ := Has_lst g1_5
  obtain ⟨c1_6, rfl⟩ := Has_int g1_6
  obtain ⟨c1_7, rfl⟩ := Has_lst g1_7
  obtain ⟨c1_8, rfl⟩ := Has_int g1_8
  obtain ⟨c1_9, rfl⟩ := Has_bool g1_9
  obtain ⟨c1_10, rfl⟩ := Has_bool g1_10
  show callL Ph extF 99 [.agg [.pv (.int .i64 c0), .pv (.bool c1), .pv (.int .i64 c2), .pv (.lst c3), .pv (.lst c4), .pv (.int .i64 c5), .pv (.lst c6), .pv (.lst c7), .pv (.lst c8), .pv (.lst c9)], .agg [.pv (.int .i64 c1_0), .pv (.str c1_1), .pv (.str c1_2), .pv (.int .i64 c1_3), .pv (.lst c1_4), .pv (.lst c1_5), .pv (.int .i64 c1_6), .pv (.lst c1_7), .pv (.int .i64 c1_8), .pv (.bool c1_9), .pv (.bool c1_10)]] = _
  refine callL_fn (fn := f_laws_FnExactPageConsistent) rfl ?_
  have m0 : callL Ph extF 104 [.agg [.pv (.int .i64 c0), .pv (.bool c1), .pv (.int .i64 c2), .pv (.lst c3), .pv (.lst c4), .pv (.int .i64 c5), .pv (.lst c6), .pv (.lst c7), .pv (.lst c8), .pv (.lst c9)], vint .i64 1048576] = some (vint .i64 (less 1048576 (szL [.int .i64 c0, .bool c1, .int .i64 c2, .lst c3, .lst c4, .int .i64 c5, .lst c6, .lst c7, .lst c8, .lst c9]))) := szWorld_ok (ext := extF) h0 1048576 (by omega) (by omega)
  generalize q0 : less 1048576 (szL [.int .i64 c0, .bool c1, .int .i64 c2, .lst c3, .lst c4, .int .i64 c5, .lst c6, .lst c7, .lst c8, .lst c9]) = l0 at m0
  by_cases n0 : l0 < 0
  · simp [f_laws_FnExactPageConsistent, start, execL, exec, execOps, stepO, wants, fop, eop, Opd.ev, put, V.cells, plain, loadV, cut, isInt, isStr, isBool, bin, binInt, binStr_neq, binStr_eql, un, asList, L.view, viewArgs, V.view, viewL, done, finish, resultsOf, resultOf, comps, comp, giveLs, giveL, arrsOf, V.flat, L.flat, setV, setL, storeV, putAt, thaw, thawL, freezeVs, freezeLs, freezeL, V.mut, L.mut, elemPtr, viewRows, n0, m0]
  obtain ⟨le0, hz0⟩ := less_pos (by omega) q0 n0
  have hs0 : szL [.int .i64 c0, .bool c1, .int .i64 c2, .lst c3, .lst c4, .int .i64 c5, .lst c6, .lst c7, .lst c8, .lst c9] ≤ 1048576 := by omega
  have m1 : callL Ph extF 10 [.agg [.pv (.int .i64 c1_0), .pv (.str c1_1), .pv (.str c1_2), .pv (.int .i64 c1_3), .pv (.lst c1_4), .pv (.lst c1_5), .pv (.int .i64 c1_6), .pv (.lst c1_7), .pv (.int .i64 c1_8), .pv (.bool c1_9), .pv (.bool c1_10)], vint .i64 l0] = some (vint .i64 (less l0 (szL [.int .i64 c1_0, .str c1_1, .str c1_2, .int .i64 c1_3, .lst c1_4, .lst c1_5, .int .i64 c1_6, .lst c1_7, .int .i64 c1_8, .bool c1_9, .bool c1_10]))) := szPage_ok (ext := extF) h1 l0 (by omega) (by omega)
  generalize q1 : less l0 (szL [.int .i64 c1_0, .str c1_1, .str c1_2, .int .i64 c1_3, .lst c1_4, .lst c1_5, .int .i64 c1_6, .lst c1_7, .int .i64 c1_8, .bool c1_9, .bool c1_10]) = l1 at m1
  by_cases n1 : l1 < 0
  · simp [f_laws_FnExactPageConsistent, start, execL, exec, execOps, stepO, wants, fop, eop, Opd.ev, put, V.cells, plain, loadV, cut, isInt, isStr, isBool, bin, binInt, binStr_neq, binStr_eql, un, asList, L.view, viewArgs, V.view, viewL, done, finish, resultsOf, resultOf, comps, comp, giveLs, giveL, arrsOf, V.flat, L.flat, setV, setL, storeV, putAt, thaw, thawL, freezeVs, freezeLs, freezeL, V.mut, L.mut, elemPtr, viewRows, n1, m0, n0, m1]
  obtain ⟨le1, hz1⟩ := less_pos (by omega) q1 n1
  have hs1 : szL [.int .i64 c1_0, .str c1_1, .str c1_2, .int .i64 c1_3, .lst c1_4, .lst c1_5, .int .i64 c1_6, .lst c1_7, .int .i64 c1_8, .bool c1_9, .bool c1_10] ≤ 1048576 := by omega
  have to0 := toWorld_ok (ext := extF) g0 g1 g2 g3 g4 g5 g6 g7 g8 g9 hs0
  have eq0 : callL Ph extF 108 [.agg [.pv (.int .i64 c0), .pv (.bool c1), .pv (.int .i64 c2), .pv (.lst c3), .pv (.lst c4), .pv (.int .i64 c5), .pv (.lst c6), .pv (.lst c7), .pv (.lst c8), .pv (.lst c9)], .agg [.pv (.int .i64 c0), .pv (.bool c1), .pv (.int .i64 c2), .pv (.lst c3), .pv (.lst c4), .pv (.int .i64 c5), .pv (.lst c6), .pv (.lst c7), .pv (.lst c8), .pv (.lst c9)]] = some (vbool true) := eqWorld_ok (ext := extF) h0
  have to1 := toPage_ok (ext := extF) g1_0 g1_1 g1_2 g1_3 g1_4 g1_5 g1_6 g1_7 g1_8 g1_9 g1_10 hs1
  have eq1 : callL Ph extF 14 [.agg [.pv (.int .i64 c1_0), .pv (.str c1_1), .pv (.str c1_2), .pv (.int .i64 c1_3), .pv (.lst c1_4), .pv (.lst c1_5), .pv (.int .i64 c1_6), .pv (.lst c1_7), .pv (.int .i64 c1_8), .pv (.bool c1_9), .pv (.bool c1_10)], .agg [.pv (.int .i64 c1_0), .pv (.str c1_1), .pv (.str c1_2), .pv (.int .i64 c1_3), .pv (.lst c1_4), .pv (.lst c1_5), .pv (.int .i64 c1_6), .pv (.lst c1_7), .pv (.int .i64 c1_8), .pv (.bool c1_9), .pv (.bool c1_10)]] = some (vbool true) := eqPage_ok (ext := extF) h1
  obtain ⟨b, e3, e2⟩ := pc_both (c0 := c0) (c1 := c1) (c2 := c2) (c4 := c4) (c5 := c5) (c6 := c6) (c7 := c7) (c8 := c8) (c9 := c9) g3 (e0 := c1_0) (e1 := c1_1) (e2 := c1_2) (e3 := c1_3) (e4 := c1_4) (e5 := c1_5) (e6 := c1_6) (e7 := c1_7) (e8 := c1_8) (e9 := c1_9) (e10 := c1_10) g1_1 g1_2 g1_4
  simp [f_laws_FnExactPageConsistent, start, execL, exec, execOps, stepO, wants, fop, eop, Opd.ev, put, V.cells, plain, loadV, cut, isInt, isStr, isBool, bin, binInt, binStr_neq, binStr_eql, un, asList, L.view, viewArgs, V.view, viewL, done, finish, resultsOf, resultOf, comps, comp, giveLs, giveL, arrsOf, V.flat, L.flat, setV, setL, storeV, putAt, thaw, thawL, freezeVs, freezeLs, freezeL, V.mut, L.mut, elemPtr, viewRows, m0, n0, m1, n1, to0, eq0, to1, eq1, e2, e3]
end Gi
