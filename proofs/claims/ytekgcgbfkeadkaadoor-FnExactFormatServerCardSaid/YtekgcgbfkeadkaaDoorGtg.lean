/- Pages, servers, transactions: what their formatting functions compute; their laws. -/
import Derived.Test.YtekgcgbfkeadkaaDoorGtb
import Derived.Test.YtekgcgbfkeadkaaDoorGtd
namespace Gi
open Go Go.RowKit
set_option linter.unusedSimpArgs false
set_option linter.unusedVariables false

theorem len_has {n : Nat} (h : n ≤ maxLen) : Has (.int .i64) (.int .i64 (n : Int)) := by
  unfold maxLen at h
  refine ⟨rfl, ?_⟩
  simp [Lit.wf, IntKind.min, IntKind.max, IntKind.signed, IntKind.bits]
  omega

/-! ### Pages -/
def fmtPage (c0 : Int) (c1 c2 : List UInt8) (c3 : Int) (n : Nat) (b : Bool) : List UInt8 := Lib.itoa c0 ++ 32 :: (c1 ++ 47 :: (c2 ++ 32 :: 118 :: (Lib.itoa c3 ++ 32 :: (Lib.itoa n ++ (if b then [32, 100, 111, 110, 101] else [])))))

theorem impl_FormatPage_ok {c0 : Int} {c1 : List UInt8} {c2 : List UInt8} {c3 : Int} {c4 : List (List PV)} {c5 : List (List PV)} {c6 : Int} {c7 : List (List PV)} {c8 : Int} {c9 : Bool} {c10 : Bool} (g0 : Has (.int .i64) (.int .i64 c0)) (g1 : Has (.str) (.str c1)) (g2 : Has (.str) (.str c2)) (g3 : Has (.int .i64) (.int .i64 c3)) (g4 : Has (.lst t_LoadedS) (.lst c4)) (g5 : Has (.lst t_InstrS) (.lst c5)) (g6 : Has (.int .i64) (.int .i64 c6)) (g7 : Has (.lst t_IntS) (.lst c7)) (g8 : Has (.int .i64) (.int .i64 c8)) (g9 : Has (.bool) (.bool c9)) (g10 : Has (.bool) (.bool c10)) (hs : szL [.int .i64 c0, .str c1, .str c2, .int .i64 c3, .lst c4, .lst c5, .int .i64 c6, .lst c7, .int .i64 c8, .bool c9, .bool c10] ≤ 1048576) : callL Ph extF 13 [.agg [.pv (.int .i64 c0), .pv (.str c1), .pv (.str c2), .pv (.int .i64 c3), .pv (.lst c4), .pv (.lst c5), .pv (.int .i64 c6), .pv (.lst c7), .pv (.int .i64 c8), .pv (.bool c9), .pv (.bool c10)]] = some (vstr (fmtPage c0 c1 c2 c3 c4.length c9)) := by
  have e0 := impl_FormatInt_ok g0
  have e3 := impl_FormatInt_ok g3
  have e4 := impl_FormatInt_ok (len_has (Has_rows g4).1)
  have l0 := itoa_le g0
  have l3 := itoa_le g3
  have l4 := itoa_le (len_has (Has_rows g4).1)
  simp only [szL, sz] at hs
  refine callL_fn (fn := f_impl_FormatPage) rfl ?_
  cases c9 <;> simp (disch := (try simp only [List.length_append, List.length_cons, List.length_nil]); omega) [f_impl_FormatPage, start, execL, exec, execOps, stepO, wants, fop, eop, Opd.ev, put, V.cells, plain, loadV, cut, isInt, isStr, isBool, bin, binInt, binStr_neq, binStr_eql, un, asList, L.view, viewArgs, V.view, viewL, done, finish, resultsOf, resultOf, comps, comp, giveLs, giveL, arrsOf_one, arrsOf_nil, V.flat, L.flat, setV, setL, storeV, putAt, thaw, thawL, freezeVs, freezeLs, freezeL, V.mut, L.mut, elemPtr, viewRows, e0, e3, e4, binStr_add, fmtPage]

theorem spec_FormatPage_ok {c0 : Int} {c1 : List UInt8} {c2 : List UInt8} {c3 : Int} {c4 : List (List PV)} {c5 : List (List PV)} {c6 : Int} {c7 : List (List PV)} {c8 : Int} {c9 : Bool} {c10 : Bool} (g0 : Has (.int .i64) (.int .i64 c0)) (g1 : Has (.str) (.str c1)) (g2 : Has (.str) (.str c2)) (g3 : Has (.int .i64) (.int .i64 c3)) (g4 : Has (.lst t_LoadedS) (.lst c4)) (g5 : Has (.lst t_InstrS) (.lst c5)) (g6 : Has (.int .i64) (.int .i64 c6)) (g7 : Has (.lst t_IntS) (.lst c7)) (g8 : Has (.int .i64) (.int .i64 c8)) (g9 : Has (.bool) (.bool c9)) (g10 : Has (.bool) (.bool c10)) (hs : szL [.int .i64 c0, .str c1, .str c2, .int .i64 c3, .lst c4, .lst c5, .int .i64 c6, .lst c7, .int .i64 c8, .bool c9, .bool c10] ≤ 1048576) : callL Ph extF 11 [.agg [.pv (.int .i64 c0), .pv (.str c1), .pv (.str c2), .pv (.int .i64 c3), .pv (.lst c4), .pv (.lst c5), .pv (.int .i64 c6), .pv (.lst c7), .pv (.int .i64 c8), .pv (.bool c9), .pv (.bool c10)]] = some (vstr (fmtPage c0 c1 c2 c3 c4.length c9)) := by
  have e0 := spec_FormatInt_ok g0
  have e3 := spec_FormatInt_ok g3
  have e4 := spec_FormatInt_ok (len_has (Has_rows g4).1)
  have l0 := itoa_le g0
  have l3 := itoa_le g3
  have l4 := itoa_le (len_has (Has_rows g4).1)
  simp only [szL, sz] at hs
  refine callL_fn (fn := f_spec_FormatPage) rfl ?_
  cases c9 <;> simp (disch := (try simp only [List.length_append, List.length_cons, List.length_nil]); omega) [f_spec_FormatPage, start, execL, exec, execOps, stepO, wants, fop, eop, Opd.ev, put, V.cells, plain, loadV, cut, isInt, isStr, isBool, bin, binInt, binStr_neq, binStr_eql, un, asList, L.view, viewArgs, V.view, viewL, done, finish, resultsOf, resultOf, comps, comp, giveLs, giveL, arrsOf_one, arrsOf_nil, V.flat, L.flat, setV, setL, storeV, putAt, thaw, thawL, freezeVs, freezeLs, freezeL, V.mut, L.mut, elemPtr, viewRows, e0, e3, e4, binStr_add, fmtPage]

theorem law_Page {r : List PV} (h : HasL t_Page r) : callL Ph extF 1 [.agg (r.map .pv)] = some (vbool true) := by
  obtain ⟨p0, r1, rfl, g0, k1⟩ := HasL_cons h
  obtain ⟨p1, r2, rfl, g1, k2⟩ := HasL_cons k1
  obtain ⟨p2, r3, rfl, g2, k3⟩ := HasL_cons k2
  obtain ⟨p3, r4, rfl, g3, k4⟩ := HasL_cons k3
  obtain ⟨p4, r5, rfl, g4, k5⟩ := HasL_cons k4
  obtain ⟨p5, r6, rfl, g5, k6⟩ := HasL_cons k5
  obtain ⟨p6, r7, rfl, g6, k7⟩ := HasL_cons k6
  obtain ⟨p7, r8, rfl, g7, k8⟩ := HasL_cons k7
  obtain ⟨p8, r9, rfl, g8, k9⟩ := HasL_cons k8
  obtain ⟨p9, r10, rfl, g9, k10⟩ := HasL_cons k9
  obtain ⟨p10, r11, rfl, g10, k11⟩ := HasL_cons k10
  obtain rfl := HasL_nil k11
  obtain ⟨c0, rfl⟩ := Has_int g0
  obtain ⟨c1, rfl⟩ := Has_str g1
  obtain ⟨c2, rfl⟩ := Has_str g2
  obtain ⟨c3, rfl⟩ := Has_int g3
  obtain ⟨c4, rfl⟩ := Has_lst g4
  obtain ⟨c5, rfl⟩ := Has_lst g5
  obtain ⟨c6, rfl⟩ := Has_int g6
  obtain ⟨c7, rfl⟩ := Has_lst g7
  obtain ⟨c8, rfl⟩ := Has_int g8
  obtain ⟨c9, rfl⟩ := Has_bool g9
  obtain ⟨c10, rfl⟩ := Has_bool g10
  show callL Ph extF 1 [.agg [.pv (.int .i64 c0), .pv (.str c1), .pv (.str c2), .pv (.int .i64 c3), .pv (.lst c4), .pv (.lst c5), .pv (.int .i64 c6), .pv (.lst c7), .pv (.int .i64 c8), .pv (.bool c9), .pv (.bool c10)]] = _
  have m : callL Ph extF 10 [.agg [.pv (.int .i64 c0), .pv (.str c1), .pv (.str c2), .pv (.int .i64 c3), .pv (.lst c4), .pv (.lst c5), .pv (.int .i64 c6), .pv (.lst c7), .pv (.int .i64 c8), .pv (.bool c9), .pv (.bool c10)], vint .i64 1048576] = some (vint .i64 (less 1048576 (szL [.int .i64 c0, .str c1, .str c2, .int .i64 c3, .lst c4, .lst c5, .int .i64 c6, .lst c7, .int .i64 c8, .bool c9, .bool c10]))) := szPage_ok (ext := extF) h 1048576 (by omega) (by omega)
  generalize q : less 1048576 (szL [.int .i64 c0, .str c1, .str c2, .int .i64 c3, .lst c4, .lst c5, .int .i64 c6, .lst c7, .int .i64 c8, .bool c9, .bool c10]) = l at m
  refine callL_fn (fn := f_laws_FnExactFormatPage) rfl ?_
  by_cases n : l < 0
  · simp [f_laws_FnExactFormatPage, start, execL, exec, execOps, stepO, wants, fop, eop, Opd.ev, put, V.cells, plain, loadV, cut, isInt, isStr, isBool, bin, binInt, binStr_neq, binStr_eql, un, asList, L.view, viewArgs, V.view, viewL, done, finish, resultsOf, resultOf, comps, comp, giveLs, giveL, arrsOf, V.flat, L.flat, setV, setL, storeV, putAt, thaw, thawL, freezeVs, freezeLs, freezeL, V.mut, L.mut, elemPtr, viewRows, m, n]
  · obtain ⟨_, hs⟩ := less_pos (by omega) q n
    have hs' : szL [.int .i64 c0, .str c1, .str c2, .int .i64 c3, .lst c4, .lst c5, .int .i64 c6, .lst c7, .int .i64 c8, .bool c9, .bool c10] ≤ 1048576 := by omega
    have e1 := toPage_ok (ext := extF) g0 g1 g2 g3 g4 g5 g6 g7 g8 g9 g10 hs'
    have e2 := spec_FormatPage_ok g0 g1 g2 g3 g4 g5 g6 g7 g8 g9 g10 hs'
    have e3 := impl_FormatPage_ok g0 g1 g2 g3 g4 g5 g6 g7 g8 g9 g10 hs'
    have e4 : callL Ph extF 14 [.agg [.pv (.int .i64 c0), .pv (.str c1), .pv (.str c2), .pv (.int .i64 c3), .pv (.lst c4), .pv (.lst c5), .pv (.int .i64 c6), .pv (.lst c7), .pv (.int .i64 c8), .pv (.bool c9), .pv (.bool c10)], .agg [.pv (.int .i64 c0), .pv (.str c1), .pv (.str c2), .pv (.int .i64 c3), .pv (.lst c4), .pv (.lst c5), .pv (.int .i64 c6), .pv (.lst c7), .pv (.int .i64 c8), .pv (.bool c9), .pv (.bool c10)]] = some (vbool true) := eqPage_ok (ext := extF) h
    simp [f_laws_FnExactFormatPage, start, execL, exec, execOps, stepO, wants, fop, eop, Opd.ev, put, V.cells, plain, loadV, cut, isInt, isStr, isBool, bin, binInt, binStr_neq, binStr_eql, un, asList, L.view, viewArgs, V.view, viewL, done, finish, resultsOf, resultOf, comps, comp, giveLs, giveL, arrsOf, V.flat, L.flat, setV, setL, storeV, putAt, thaw, thawL, freezeVs, freezeLs, freezeL, V.mut, L.mut, elemPtr, viewRows, m, n, e1, e2, e3, e4]

/-! ### Transactions -/
def txName (c : Int) : List UInt8 := if c = 0 then [119, 97, 105, 116, 105, 110, 103] else if c = 1 then [114, 117, 110, 110, 105, 110, 103] else if c = 2 then [100, 111, 110, 101] else if c = 3 then [97, 98, 111, 114, 116, 101, 100] else [63]
def fmtTx (c0 : Int) (n : Nat) (c2 c3 : Int) : List UInt8 := Lib.itoa c0 ++ 32 :: (txName c3 ++ 32 :: (Lib.itoa c2 ++ 47 :: Lib.itoa n))

theorem impl_FormatTx_ok {c0 : Int} {c1 : List (List PV)} {c2 : Int} {c3 : Int} {c4 : List (List PV)} (g0 : Has (.int .i64) (.int .i64 c0)) (g1 : Has (.lst t_OpS) (.lst c1)) (g2 : Has (.int .i64) (.int .i64 c2)) (g3 : Has (.int .i64) (.int .i64 c3)) (g4 : Has (.lst t_StoreS) (.lst c4)) (hs : szL [.int .i64 c0, .lst c1, .int .i64 c2, .int .i64 c3, .lst c4] ≤ 1048576) : callL Ph extF 28 [.agg [.pv (.int .i64 c0), .pv (.lst c1), .pv (.int .i64 c2), .pv (.int .i64 c3), .pv (.lst c4)]] = some (vstr (fmtTx c0 c1.length c2 c3)) := by
  have e0 := impl_FormatInt_ok g0
  have e2 := impl_FormatInt_ok g2
  have e1 := impl_FormatInt_ok (len_has (Has_rows g1).1)
  have e3 := impl_InRange_ok c3 0 3
  have l0 := itoa_le g0
  have l2 := itoa_le g2
  have l1 := itoa_le (len_has (Has_rows g1).1)
  refine callL_fn (fn := f_impl_FormatTx) rfl ?_
  have hc : c3 = 0 ∨ c3 = 1 ∨ c3 = 2 ∨ c3 = 3 ∨ (c3 ≠ 0 ∧ c3 ≠ 1 ∧ c3 ≠ 2 ∧ c3 ≠ 3 ∧ ((decide (0 ≤ c3) && decide (c3 ≤ 3)) = false)) := by
    by_cases a0 : 0 ≤ c3 <;> by_cases a3 : c3 ≤ 3 <;> simp [a0, a3] <;> omega
  rcases hc with rfl | rfl | rfl | rfl | ⟨n0, n1, n2, n3, n4⟩
  · simp (disch := (try simp only [List.length_append, List.length_cons, List.length_nil]); omega) [f_impl_FormatTx, start, execL, exec, execOps, stepO, wants, fop, eop, Opd.ev, put, V.cells, plain, loadV, cut, isInt, isStr, isBool, bin, binInt, binStr_neq, binStr_eql, un, asList, L.view, viewArgs, V.view, viewL, done, finish, resultsOf, resultOf, comps, comp, giveLs, giveL, arrsOf_one, arrsOf_nil, V.flat, L.flat, setV, setL, storeV, putAt, thaw, thawL, freezeVs, freezeLs, freezeL, V.mut, L.mut, elemPtr, viewRows, e0, e1, e2, e3, binStr_add, fmtTx, txName, IntKind.wrap_i64]
  · simp (disch := (try simp only [List.length_append, List.length_cons, List.length_nil]); omega) [f_impl_FormatTx, start, execL, exec, execOps, stepO, wants, fop, eop, Opd.ev, put, V.cells, plain, loadV, cut, isInt, isStr, isBool, bin, binInt, binStr_neq, binStr_eql, un, asList, L.view, viewArgs, V.view, viewL, done, finish, resultsOf, resultOf, comps, comp, giveLs, giveL, arrsOf_one, arrsOf_nil, V.flat, L.flat, setV, setL, storeV, putAt, thaw, thawL, freezeVs, freezeLs, freezeL, V.mut, L.mut, elemPtr, viewRows, e0, e1, e2, e3, binStr_add, fmtTx, txName, IntKind.wrap_i64]
  · simp (disch := (try simp only [List.length_append, List.length_cons, List.length_nil]); omega) [f_impl_FormatTx, start, execL, exec, execOps, stepO, wants, fop, eop, Opd.ev, put, V.cells, plain, loadV, cut, isInt, isStr, isBool, bin, binInt, binStr_neq, binStr_eql, un, asList, L.view, viewArgs, V.view, viewL, done, finish, resultsOf, resultOf, comps, comp, giveLs, giveL, arrsOf_one, arrsOf_nil, V.flat, L.flat, setV, setL, storeV, putAt, thaw, thawL, freezeVs, freezeLs, freezeL, V.mut, L.mut, elemPtr, viewRows, e0, e1, e2, e3, binStr_add, fmtTx, txName, IntKind.wrap_i64]
  · simp (disch := (try simp only [List.length_append, List.length_cons, List.length_nil]); omega) [f_impl_FormatTx, start, execL, exec, execOps, stepO, wants, fop, eop, Opd.ev, put, V.cells, plain, loadV, cut, isInt, isStr, isBool, bin, binInt, binStr_neq, binStr_eql, un, asList, L.view, viewArgs, V.view, viewL, done, finish, resultsOf, resultOf, comps, comp, giveLs, giveL, arrsOf_one, arrsOf_nil, V.flat, L.flat, setV, setL, storeV, putAt, thaw, thawL, freezeVs, freezeLs, freezeL, V.mut, L.mut, elemPtr, viewRows, e0, e1, e2, e3, binStr_add, fmtTx, txName, IntKind.wrap_i64]
  · rw [n4] at e3
    simp (disch := (try simp only [List.length_append, List.length_cons, List.length_nil]); omega) [f_impl_FormatTx, start, execL, exec, execOps, stepO, wants, fop, eop, Opd.ev, put, V.cells, plain, loadV, cut, isInt, isStr, isBool, bin, binInt, binStr_neq, binStr_eql, un, asList, L.view, viewArgs, V.view, viewL, done, finish, resultsOf, resultOf, comps, comp, giveLs, giveL, arrsOf_one, arrsOf_nil, V.flat, L.flat, setV, setL, storeV, putAt, thaw, thawL, freezeVs, freezeLs, freezeL, V.mut, L.mut, elemPtr, viewRows, e0, e1, e2, e3, binStr_add, fmtTx, txName, n0, n1, n2, n3]

theorem spec_FormatTx_ok {c0 : Int} {c1 : List (List PV)} {c2 : Int} {c3 : Int} {c4 : List (List PV)} (g0 : Has (.int .i64) (.int .i64 c0)) (g1 : Has (.lst t_OpS) (.lst c1)) (g2 : Has (.int .i64) (.int .i64 c2)) (g3 : Has (.int .i64) (.int .i64 c3)) (g4 : Has (.lst t_StoreS) (.lst c4)) (hs : szL [.int .i64 c0, .lst c1, .int .i64 c2, .int .i64 c3, .lst c4] ≤ 1048576) : callL Ph extF 26 [.agg [.pv (.int .i64 c0), .pv (.lst c1), .pv (.int .i64 c2), .pv (.int .i64 c3), .pv (.lst c4)]] = some (vstr (fmtTx c0 c1.length c2 c3)) := by
  have e0 := spec_FormatInt_ok g0
  have e2 := spec_FormatInt_ok g2
  have e1 := spec_FormatInt_ok (len_has (Has_rows g1).1)
  have e3 := spec_l1In_ok c3 0 3
  have l0 := itoa_le g0
  have l2 := itoa_le g2
  have l1 := itoa_le (len_has (Has_rows g1).1)
  refine callL_fn (fn := f_spec_FormatTx) rfl ?_
  have hc : c3 = 0 ∨ c3 = 1 ∨ c3 = 2 ∨ c3 = 3 ∨ (c3 ≠ 0 ∧ c3 ≠ 1 ∧ c3 ≠ 2 ∧ c3 ≠ 3 ∧ ((decide (0 ≤ c3) && decide (c3 ≤ 3)) = false)) := by
    by_cases a0 : 0 ≤ c3 <;> by_cases a3 : c3 ≤ 3 <;> simp [a0, a3] <;> omega
  rcases hc with rfl | rfl | rfl | rfl | ⟨n0, n1, n2, n3, n4⟩
  · simp (disch := (try simp only [List.length_append, List.length_cons, List.length_nil]); omega) [f_spec_FormatTx, start, execL, exec, execOps, stepO, wants, fop, eop, Opd.ev, put, V.cells, plain, loadV, cut, isInt, isStr, isBool, bin, binInt, binStr_neq, binStr_eql, un, asList, L.view, viewArgs, V.view, viewL, done, finish, resultsOf, resultOf, comps, comp, giveLs, giveL, arrsOf_one, arrsOf_nil, V.flat, L.flat, setV, setL, storeV, putAt, thaw, thawL, freezeVs, freezeLs, freezeL, V.mut, L.mut, elemPtr, viewRows, e0, e1, e2, e3, binStr_add, fmtTx, txName]
  · simp (disch := (try simp only [List.length_append, List.length_cons, List.length_nil]); omega) [f_spec_FormatTx, start, execL, exec, execOps, stepO, wants, fop, eop, Opd.ev, put, V.cells, plain, loadV, cut, isInt, isStr, isBool, bin, binInt, binStr_neq, binStr_eql, un, asList, L.view, viewArgs, V.view, viewL, done, finish, resultsOf, resultOf, comps, comp, giveLs, giveL, arrsOf_one, arrsOf_nil, V.flat, L.flat, setV, setL, storeV, putAt, thaw, thawL, freezeVs, freezeLs, freezeL, V.mut, L.mut, elemPtr, viewRows, e0, e1, e2, e3, binStr_add, fmtTx, txName]
  · simp (disch := (try simp only [List.length_append, List.length_cons, List.length_nil]); omega) [f_spec_FormatTx, start, execL, exec, execOps, stepO, wants, fop, eop, Opd.ev, put, V.cells, plain, loadV, cut, isInt, isStr, isBool, bin, binInt, binStr_neq, binStr_eql, un, asList, L.view, viewArgs, V.view, viewL, done, finish, resultsOf, resultOf, comps, comp, giveLs, giveL, arrsOf_one, arrsOf_nil, V.flat, L.flat, setV, setL, storeV, putAt, thaw, thawL, freezeVs, freezeLs, freezeL, V.mut, L.mut, elemPtr, viewRows, e0, e1, e2, e3, binStr_add, fmtTx, txName]
  · simp (disch := (try simp only [List.length_append, List.length_cons, List.length_nil]); omega) [f_spec_FormatTx, start, execL, exec, execOps, stepO, wants, fop, eop, Opd.ev, put, V.cells, plain, loadV, cut, isInt, isStr, isBool, bin, binInt, binStr_neq, binStr_eql, un, asList, L.view, viewArgs, V.view, viewL, done, finish, resultsOf, resultOf, comps, comp, giveLs, giveL, arrsOf_one, arrsOf_nil, V.flat, L.flat, setV, setL, storeV, putAt, thaw, thawL, freezeVs, freezeLs, freezeL, V.mut, L.mut, elemPtr, viewRows, e0, e1, e2, e3, binStr_add, fmtTx, txName]
  · rw [n4] at e3
    simp (disch := (try simp only [List.length_append, List.length_cons, List.length_nil]); omega) [f_spec_FormatTx, start, execL, exec, execOps, stepO, wants, fop, eop, Opd.ev, put, V.cells, plain, loadV, cut, isInt, isStr, isBool, bin, binInt, binStr_neq, binStr_eql, un, asList, L.view, viewArgs, V.view, viewL, done, finish, resultsOf, resultOf, comps, comp, giveLs, giveL, arrsOf_one, arrsOf_nil, V.flat, L.flat, setV, setL, storeV, putAt, thaw, thawL, freezeVs, freezeLs, freezeL, V.mut, L.mut, elemPtr, viewRows, e0, e1, e2, e3, binStr_add, fmtTx, txName, n0, n1, n2, n3]

theorem law_Tx {r : List PV} (h : HasL t_Tx r) : callL Ph extF 4 [.agg (r.map .pv)] = some (vbool true) := by
  obtain ⟨p0, r1, rfl, g0, k1⟩ := HasL_cons h
  obtain ⟨p1, r2, rfl, g1, k2⟩ := HasL_cons k1
  obtain ⟨p2, r3, rfl, g2, k3⟩ := HasL_cons k2
  obtain ⟨p3, r4, rfl, g3, k4⟩ := HasL_cons k3
  obtain ⟨p4, r5, rfl, g4, k5⟩ := HasL_cons k4
  obtain rfl := HasL_nil k5
  obtain ⟨c0, rfl⟩ := Has_int g0
  obtain ⟨c1, rfl⟩ := Has_lst g1
  obtain ⟨c2, rfl⟩ := Has_int g2
  obtain ⟨c3, rfl⟩ := Has_int g3
  obtain ⟨c4, rfl⟩ := Has_lst g4
  show callL Ph extF 4 [.agg [.pv (.int .i64 c0), .pv (.lst c1), .pv (.int .i64 c2), .pv (.int .i64 c3), .pv (.lst c4)]] = _
  have m : callL Ph extF 25 [.agg [.pv (.int .i64 c0), .pv (.lst c1), .pv (.int .i64 c2), .pv (.int .i64 c3), .pv (.lst c4)], vint .i64 1048576] = some (vint .i64 (less 1048576 (szL [.int .i64 c0, .lst c1, .int .i64 c2, .int .i64 c3, .lst c4]))) := szTx_ok (ext := extF) h 1048576 (by omega) (by omega)
  generalize q : less 1048576 (szL [.int .i64 c0, .lst c1, .int .i64 c2, .int .i64 c3, .lst c4]) = l at m
  refine callL_fn (fn := f_laws_FnExactFormatTx) rfl ?_
  by_cases n : l < 0
  · simp [f_laws_FnExactFormatTx, start, execL, exec, execOps, stepO, wants, fop, eop, Opd.ev, put, V.cells, plain, loadV, cut, isInt, isStr, isBool, bin, binInt, binStr_neq, binStr_eql, un, asList, L.view, viewArgs, V.view, viewL, done, finish, resultsOf, resultOf, comps, comp, giveLs, giveL, arrsOf, V.flat, L.flat, setV, setL, storeV, putAt, thaw, thawL, freezeVs, freezeLs, freezeL, V.mut, L.mut, elemPtr, viewRows, m, n]
  · obtain ⟨_, hs⟩ := less_pos (by omega) q n
    have hs' : szL [.int .i64 c0, .lst c1, .int .i64 c2, .int .i64 c3, .lst c4] ≤ 1048576 := by omega
    have e1 := toTx_ok (ext := extF) g0 g1 g2 g3 g4 hs'
    have e2 := spec_FormatTx_ok g0 g1 g2 g3 g4 hs'
    have e3 := impl_FormatTx_ok g0 g1 g2 g3 g4 hs'
    have e4 : callL Ph extF 29 [.agg [.pv (.int .i64 c0), .pv (.lst c1), .pv (.int .i64 c2), .pv (.int .i64 c3), .pv (.lst c4)], .agg [.pv (.int .i64 c0), .pv (.lst c1), .pv (.int .i64 c2), .pv (.int .i64 c3), .pv (.lst c4)]] = some (vbool true) := eqTx_ok (ext := extF) h
    simp [f_laws_FnExactFormatTx, start, execL, exec, execOps, stepO, wants, fop, eop, Opd.ev, put, V.cells, plain, loadV, cut, isInt, isStr, isBool, bin, binInt, binStr_neq, binStr_eql, un, asList, L.view, viewArgs, V.view, viewL, done, finish, resultsOf, resultOf, comps, comp, giveLs, giveL, arrsOf, V.flat, L.flat, setV, setL, storeV, putAt, thaw, thawL, freezeVs, freezeLs, freezeL, V.mut, L.mut, elemPtr, viewRows, m, n, e1, e2, e3, e4]

/-! ### Servers -/
def fmtApplied : List (List PV) → List UInt8
  | [] => []
  | r :: rs => (match r with
    | [.int _ a, .int _ v] => 32 :: (Lib.itoa a ++ 58 :: Lib.itoa v)
    | _ => []) ++ fmtApplied rs
theorem fmtApplied_cons (a : Int) (k k' : IntKind) (v : Int) (rs : List (List PV)) : fmtApplied ([.int k a, .int k' v] :: rs) = 32 :: (Lib.itoa a ++ 58 :: (Lib.itoa v ++ fmtApplied rs)) := by
  simp [fmtApplied]
theorem applied_cells {r : List PV} (h : HasL t_AppliedS r) : ∃ a v, r = [.int .i64 a, .int .i64 v] ∧ Has (.int .i64) (.int .i64 a) ∧ Has (.int .i64) (.int .i64 v) := by
  obtain ⟨p0, r1, rfl, g0, k1⟩ := HasL_cons h
  obtain ⟨p1, r2, rfl, g1, k2⟩ := HasL_cons k1
  obtain rfl := HasL_nil k2
  obtain ⟨c0, rfl⟩ := Has_int g0
  obtain ⟨c1, rfl⟩ := Has_int g1
  exact ⟨c0, c1, rfl, g0, g1⟩
theorem fmtApplied_len : ∀ {rows : List (List PV)}, (∀ r ∈ rows, HasL t_AppliedS r) → (fmtApplied rows).length ≤ 44 * rows.length
  | [], _ => by simp [fmtApplied]
  | r :: rows, h => by
    obtain ⟨a, v, rfl, h1, h2⟩ := applied_cells (h r (List.mem_cons_self))
    have h3 := fmtApplied_len (fun r m => h r (List.mem_cons_of_mem _ m))
    have h4 := itoa_le h2
    have h5 := itoa_le h1
    rw [fmtApplied_cons]
    simp only [List.length_cons, List.length_append]
    omega

theorem ifs_loop {rows : List (List PV)} (hl : rows.length ≤ maxLen) (hr : ∀ r ∈ rows, HasL t_AppliedS r) : ∀ (m k : Nat) (i : Int), i = k → k + m = rows.length → ∀ (acc : List UInt8), acc.length + (fmtApplied (rows.drop k)).length ≤ 1000000000 → ∀ (x0 x1 x2 x4 x5 x6 x7 x8 x9 x10 x11 x12 x13 x14 x15 x16 x17 x21 x22 x23 x24 x25 x26 x27 x28 x29 x30 x31 x32 x33 x34 x35 x36 : V) (h : List AObj), ∃ σ', loopL (exec (callL Ph extF) loopL b_impl_FormatServer_0) ⟨(x0 :: x1 :: x2 :: vstr acc :: x4 :: x5 :: x6 :: x7 :: x8 :: x9 :: x10 :: x11 :: x12 :: x13 :: x14 :: x15 :: x16 :: x17 :: vlst rows :: vint .i64 rows.length :: vint .i64 i :: x21 :: x22 :: x23 :: x24 :: x25 :: x26 :: x27 :: x28 :: x29 :: x30 :: x31 :: x32 :: x33 :: x34 :: x35 :: x36 :: []), h⟩ = some (.exit 0, σ') ∧ σ'.t.length = 37 ∧ σ'.t[3]? = some (vstr (acc ++ fmtApplied (rows.drop k))) := by
  generalize hF : exec (callL Ph extF) loopL b_impl_FormatServer_0 = F
  intro m
  induction m with
  | zero =>
    intro k i hi hk acc ha x0 x1 x2 x4 x5 x6 x7 x8 x9 x10 x11 x12 x13 x14 x15 x16 x17 x21 x22 x23 x24 x25 x26 x27 x28 x29 x30 x31 x32 x33 x34 x35 x36 h
    subst hi
    have hk' : k = rows.length := by omega
    subst hk'
    rw [loopL_go hF]
    simp [b_impl_FormatServer_0, start, execL, exec, execOps, stepO, wants, fop, eop, Opd.ev, put, V.cells, plain, loadV, cut, isInt, isStr, isBool, bin, binInt, binStr_neq, binStr_eql, un, asList, L.view, viewArgs, V.view, viewL, done, finish, resultsOf, resultOf, comps, comp, giveLs, giveL, arrsOf, V.flat, L.flat, setV, setL, storeV, putAt, thaw, thawL, freezeVs, freezeLs, freezeL, V.mut, L.mut, elemPtr, viewRows, fmtApplied]
  | succ m ih =>
    intro k i hi hk acc ha x0 x1 x2 x4 x5 x6 x7 x8 x9 x10 x11 x12 x13 x14 x15 x16 x17 x21 x22 x23 x24 x25 x26 x27 x28 x29 x30 x31 x32 x33 x34 x35 x36 h
    subst hi
    have hlt : k < rows.length := by omega
    have hw := wrap_small (k := k) (by unfold maxLen at hl; omega)
    obtain ⟨a, v, hrk, g1, g2⟩ := applied_cells (hr _ (List.getElem_mem hlt))
    rw [List.drop_eq_getElem_cons hlt, hrk, fmtApplied_cons] at ha ⊢
    simp only [List.length_cons, List.length_append] at ha
    have e1 := impl_FormatInt_ok g1
    have e2 := impl_FormatInt_ok g2
    have key := ih (k + 1) ((k : Int) + 1) (by omega) (by omega) (acc ++ 32 :: (Lib.itoa a ++ 58 :: Lib.itoa v)) (by simp only [List.length_cons, List.length_append]; omega)
    clear ih
    generalize fmtApplied (rows.drop (k + 1)) = R at key ha ⊢
    rw [loopL_go hF]
    simp (disch := (try simp only [List.length_append, List.length_cons, List.length_nil]); omega) [b_impl_FormatServer_0, start, execL, exec, execOps, stepO, wants, fop, eop, Opd.ev, put, V.cells, plain, loadV, cut, isInt, isStr, isBool, bin, binInt, binStr_neq, binStr_eql, un, asList, L.view, viewArgs, V.view, viewL, done, finish, resultsOf, resultOf, comps, comp, giveLs, giveL, arrsOf, V.flat, L.flat, setV, setL, storeV, putAt, thaw, thawL, freezeVs, freezeLs, freezeL, V.mut, L.mut, elemPtr, viewRows, hlt, hrk, hw, e1, e2, binStr_add]
    simp at key
    exact key _ _ _ _ _ _ _ _ _ _ _ _ _ _ _ _ _ _ _ _ _ _ _ _ _ _ _ _ _ _ _ _ _ _

theorem sfs_loop {rows : List (List PV)} {c0 : List UInt8} {c1 c4 : List (List PV)} {c2 : Int} (hl : rows.length ≤ maxLen) (hr : ∀ r ∈ rows, HasL t_AppliedS r) : ∀ (m k : Nat) (i : Int), i = k → k + m = rows.length → ∀ (acc : List UInt8), acc.length + (fmtApplied (rows.drop k)).length ≤ 1000000000 → ∀ (x0 x2 x5 x6 x7 x8 x9 x10 x11 x12 x13 x14 x15 x16 x17 x18 x19 x20 x21 x22 x23 x24 x25 x26 x27 x28 x29 x30 x31 x32 x33 x34 x35 x36 x37 x38 x39 x40 x41 x42 : V), ∃ σ', loopL (exec (callL Ph extF) loopL b_spec_FormatServer_0) ⟨(x0 :: .one (.ptr 0 0 0) :: x2 :: vstr acc :: vint .i64 i :: x5 :: x6 :: x7 :: x8 :: x9 :: x10 :: x11 :: x12 :: x13 :: x14 :: x15 :: x16 :: x17 :: x18 :: x19 :: x20 :: x21 :: x22 :: x23 :: x24 :: x25 :: x26 :: x27 :: x28 :: x29 :: x30 :: x31 :: x32 :: x33 :: x34 :: x35 :: x36 :: x37 :: x38 :: x39 :: x40 :: x41 :: x42 :: []), [.box [.pv (.str c0), .pv (.lst c1), .pv (.int .i64 c2), .pv (.lst rows), .pv (.lst c4)]]⟩ = some (.exit 0, σ') ∧ σ'.t.length = 43 ∧ σ'.t[3]? = some (vstr (acc ++ fmtApplied (rows.drop k))) := by
  generalize hF : exec (callL Ph extF) loopL b_spec_FormatServer_0 = F
  intro m
  induction m with
  | zero =>
    intro k i hi hk acc ha x0 x2 x5 x6 x7 x8 x9 x10 x11 x12 x13 x14 x15 x16 x17 x18 x19 x20 x21 x22 x23 x24 x25 x26 x27 x28 x29 x30 x31 x32 x33 x34 x35 x36 x37 x38 x39 x40 x41 x42
    subst hi
    have hk' : k = rows.length := by omega
    subst hk'
    rw [loopL_go hF]
    simp [b_spec_FormatServer_0, start, execL, exec, execOps, stepO, wants, fop, eop, Opd.ev, put, V.cells, plain, loadV, cut, isInt, isStr, isBool, bin, binInt, binStr_neq, binStr_eql, un, asList, L.view, viewArgs, V.view, viewL, done, finish, resultsOf, resultOf, comps, comp, giveLs, giveL, arrsOf, V.flat, L.flat, setV, setL, storeV, putAt, thaw, thawL, freezeVs, freezeLs, freezeL, V.mut, L.mut, elemPtr, viewRows, fmtApplied]
  | succ m ih =>
    intro k i hi hk acc ha x0 x2 x5 x6 x7 x8 x9 x10 x11 x12 x13 x14 x15 x16 x17 x18 x19 x20 x21 x22 x23 x24 x25 x26 x27 x28 x29 x30 x31 x32 x33 x34 x35 x36 x37 x38 x39 x40 x41 x42
    subst hi
    have hlt : k < rows.length := by omega
    have hw := wrap_small (k := k) (by unfold maxLen at hl; omega)
    obtain ⟨a, v, hrk, g1, g2⟩ := applied_cells (hr _ (List.getElem_mem hlt))
    rw [List.drop_eq_getElem_cons hlt, hrk, fmtApplied_cons] at ha ⊢
    simp only [List.length_cons, List.length_append] at ha
    have e1 := spec_FormatInt_ok g1
    have e2 := spec_FormatInt_ok g2
    have key := ih (k + 1) ((k : Int) + 1) (by omega) (by omega) (acc ++ 32 :: (Lib.itoa a ++ 58 :: Lib.itoa v)) (by simp only [List.length_cons, List.length_append]; omega)
    clear ih
    generalize fmtApplied (rows.drop (k + 1)) = R at key ha ⊢
    rw [loopL_go hF]
    simp (disch := (try simp only [List.length_append, List.length_cons, List.length_nil]); omega) [b_spec_FormatServer_0, start, execL, exec, execOps, stepO, wants, fop, eop, Opd.ev, put, V.cells, plain, loadV, cut, isInt, isStr, isBool, bin, binInt, binStr_neq, binStr_eql, un, asList, L.view, viewArgs, V.view, viewL, done, finish, resultsOf, resultOf, comps, comp, giveLs, giveL, arrsOf, V.flat, L.flat, setV, setL, storeV, putAt, thaw, thawL, freezeVs, freezeLs, freezeL, V.mut, L.mut, elemPtr, viewRows, hlt, hrk, hw, e1, e2, binStr_add]
    simp at key
    exact key _ _ _ _ _ _ _ _ _ _ _ _ _ _ _ _ _ _ _ _ _ _ _ _ _ _ _ _ _ _ _ _ _ _ _ _ _ _ _ _

theorem impl_FormatServer_ok {c0 : List UInt8} {c1 : List (List PV)} {c2 : Int} {c3 : List (List PV)} {c4 : List (List PV)} (g0 : Has (.str) (.str c0)) (g1 : Has (.lst t_ItemS) (.lst c1)) (g2 : Has (.int .i64) (.int .i64 c2)) (g3 : Has (.lst t_AppliedS) (.lst c3)) (g4 : Has (.lst t_WriteS) (.lst c4)) (hs : szL [.str c0, .lst c1, .int .i64 c2, .lst c3, .lst c4] ≤ 1048576) : callL Ph extF 18 [.agg [.pv (.str c0), .pv (.lst c1), .pv (.int .i64 c2), .pv (.lst c3), .pv (.lst c4)]] = some (vstr (Lib.itoa c1.length ++ 47 :: (Lib.itoa c4.length ++ fmtApplied c3))) := by
  have e1 := impl_FormatInt_ok (len_has (Has_rows g1).1)
  have e4 := impl_FormatInt_ok (len_has (Has_rows g4).1)
  have l1 := itoa_le (len_has (Has_rows g1).1)
  have l4 := itoa_le (len_has (Has_rows g4).1)
  obtain ⟨hl, hr⟩ := Has_rows g3
  have l3 := fmtApplied_len hr
  simp only [szL, sz] at hs
  obtain ⟨⟨t', h'⟩, q1, q2, q3⟩ := ifs_loop hl hr c3.length 0 0 rfl (by omega) (Lib.itoa c1.length ++ 47 :: Lib.itoa c4.length) (by rw [List.drop_zero]; simp only [List.length_append, List.length_cons]; omega) (.agg [.pv (.str c0), .pv (.lst c1), .pv (.int .i64 c2), .pv (.lst c3), .pv (.lst c4)]) (.one (.ptr 0 0 0)) (vstr []) (.tup []) (.tup []) (.one (.ptr 0 0 0)) (.one (.ptr 0 0 1)) (vlst c1) (vint .i64 c1.length) (vstr (Lib.itoa c1.length)) (vstr (Lib.itoa c1.length ++ [47])) (.one (.ptr 0 0 4)) (vlst c4) (vint .i64 c4.length) (vstr (Lib.itoa c4.length)) (vstr (Lib.itoa c1.length ++ 47 :: Lib.itoa c4.length)) (.one (.ptr 0 0 3)) (.tup []) (.tup []) (.tup []) (.tup []) (.tup []) (.tup []) (.tup []) (.tup []) (.tup []) (.tup []) (.tup []) (.tup []) (.tup []) (.tup []) (.tup []) (.tup []) [.box [.pv (.str c0), .pv (.lst c1), .pv (.int .i64 c2), .pv (.lst c3), .pv (.lst c4)]]
  simp only [List.drop_zero] at q2 q3
  obtain ⟨_, q4⟩ := List.getElem?_eq_some_iff.1 q3
  have a1 : binStr .add (Lib.itoa c1.length) [47] = some (vstr (Lib.itoa c1.length ++ [47])) := binStr_add (by simp only [List.length_cons, List.length_nil]; omega)
  have a2 : binStr .add (Lib.itoa c1.length ++ [47]) (Lib.itoa c4.length) = some (vstr (Lib.itoa c1.length ++ [47] ++ Lib.itoa c4.length)) := binStr_add (by simp only [List.length_append, List.length_cons, List.length_nil]; omega)
  refine callL_fn (fn := f_impl_FormatServer) rfl ?_
  simp [f_impl_FormatServer, start, execL, exec, execOps, stepO, wants, fop, eop, Opd.ev, put, V.cells, plain, loadV, cut, isInt, isStr, isBool, bin, binInt, binStr_neq, binStr_eql, un, asList, L.view, viewArgs, V.view, viewL, done, finish, resultsOf, resultOf, comps, comp, giveLs, giveL, arrsOf, V.flat, L.flat, setV, setL, storeV, putAt, thaw, thawL, freezeVs, freezeLs, freezeL, V.mut, L.mut, elemPtr, viewRows, e1, e4, a1, a2, q1, q2, q4]

theorem spec_FormatServer_ok {c0 : List UInt8} {c1 : List (List PV)} {c2 : Int} {c3 : List (List PV)} {c4 : List (List PV)} (g0 : Has (.str) (.str c0)) (g1 : Has (.lst t_ItemS) (.lst c1)) (g2 : Has (.int .i64) (.int .i64 c2)) (g3 : Has (.lst t_AppliedS) (.lst c3)) (g4 : Has (.lst t_WriteS) (.lst c4)) (hs : szL [.str c0, .lst c1, .int .i64 c2, .lst c3, .lst c4] ≤ 1048576) : callL Ph extF 16 [.agg [.pv (.str c0), .pv (.lst c1), .pv (.int .i64 c2), .pv (.lst c3), .pv (.lst c4)]] = some (vstr (Lib.itoa c1.length ++ 47 :: (Lib.itoa c4.length ++ fmtApplied c3))) := by
  have e1 := spec_FormatInt_ok (len_has (Has_rows g1).1)
  have e4 := spec_FormatInt_ok (len_has (Has_rows g4).1)
  have l1 := itoa_le (len_has (Has_rows g1).1)
  have l4 := itoa_le (len_has (Has_rows g4).1)
  obtain ⟨hl, hr⟩ := Has_rows g3
  have l3 := fmtApplied_len hr
  simp only [szL, sz] at hs
  obtain ⟨⟨t', h'⟩, q1, q2, q3⟩ := sfs_loop (c0 := c0) (c1 := c1) (c2 := c2) (c4 := c4) hl hr c3.length 0 0 rfl (by omega) (Lib.itoa c1.length ++ 47 :: Lib.itoa c4.length) (by rw [List.drop_zero]; simp only [List.length_append, List.length_cons]; omega) (.agg [.pv (.str c0), .pv (.lst c1), .pv (.int .i64 c2), .pv (.lst c3), .pv (.lst c4)]) (vstr []) (.one (.ptr 0 0 0)) (.one (.ptr 0 0 1)) (vlst c1) (vint .i64 c1.length) (vstr (Lib.itoa c1.length)) (vstr (Lib.itoa c1.length ++ [47])) (.one (.ptr 0 0 4)) (vlst c4) (vint .i64 c4.length) (vstr (Lib.itoa c4.length)) (vstr (Lib.itoa c1.length ++ 47 :: Lib.itoa c4.length)) (.tup []) (.tup []) (.tup []) (.tup []) (.tup []) (.tup []) (.tup []) (.tup []) (.tup []) (.tup []) (.tup []) (.tup []) (.tup []) (.tup []) (.tup []) (.tup []) (.tup []) (.tup []) (.tup []) (.tup []) (.tup []) (.tup []) (.tup []) (.tup []) (.tup []) (.tup []) (.tup [])
  simp only [List.drop_zero] at q2 q3
  obtain ⟨_, q4⟩ := List.getElem?_eq_some_iff.1 q3
  have a1 : binStr .add (Lib.itoa c1.length) [47] = some (vstr (Lib.itoa c1.length ++ [47])) := binStr_add (by simp only [List.length_cons, List.length_nil]; omega)
  have a2 : binStr .add (Lib.itoa c1.length ++ [47]) (Lib.itoa c4.length) = some (vstr (Lib.itoa c1.length ++ [47] ++ Lib.itoa c4.length)) := binStr_add (by simp only [List.length_append, List.length_cons, List.length_nil]; omega)
  refine callL_fn (fn := f_spec_FormatServer) rfl ?_
  simp [f_spec_FormatServer, start, execL, exec, execOps, stepO, wants, fop, eop, Opd.ev, put, V.cells, plain, loadV, cut, isInt, isStr, isBool, bin, binInt, binStr_neq, binStr_eql, un, asList, L.view, viewArgs, V.view, viewL, done, finish, resultsOf, resultOf, comps, comp, giveLs, giveL, arrsOf, V.flat, L.flat, setV, setL, storeV, putAt, thaw, thawL, freezeVs, freezeLs, freezeL, V.mut, L.mut, elemPtr, viewRows, e1, e4, a1, a2, q1, q2, q4]

theorem law_Server {r : List PV} (h : HasL t_Server r) : callL Ph extF 2 [.agg (r.map .pv)] = some (vbool true) := by
  obtain ⟨p0, r1, rfl, g0, k1⟩ := HasL_cons h
  obtain ⟨p1, r2, rfl, g1, k2⟩ := HasL_cons k1
  obtain ⟨p2, r3, rfl, g2, k3⟩ := HasL_cons k2
  obtain ⟨p3, r4, rfl, g3, k4⟩ := HasL_cons k3
  obtain ⟨p4, r5, rfl, g4, k5⟩ := HasL_cons k4
  obtain rfl := HasL_nil k5
  obtain ⟨c0, rfl⟩ := Has_str g0
  obtain ⟨c1, rfl⟩ := Has_lst g1
  obtain ⟨c2, rfl⟩ := Has_int g2
  obtain ⟨c3, rfl⟩ := Has_lst g3
  obtain ⟨c4, rfl⟩ := Has_lst g4
  show callL Ph extF 2 [.agg [.pv (.str c0), .pv (.lst c1), .pv (.int .i64 c2), .pv (.lst c3), .pv (.lst c4)]] = _
  have m : callL Ph extF 15 [.agg [.pv (.str c0), .pv (.lst c1), .pv (.int .i64 c2), .pv (.lst c3), .pv (.lst c4)], vint .i64 1048576] = some (vint .i64 (less 1048576 (szL [.str c0, .lst c1, .int .i64 c2, .lst c3, .lst c4]))) := szServer_ok (ext := extF) h 1048576 (by omega) (by omega)
  generalize q : less 1048576 (szL [.str c0, .lst c1, .int .i64 c2, .lst c3, .lst c4]) = l at m
  refine callL_fn (fn := f_laws_FnExactFormatServer) rfl ?_
  by_cases n : l < 0
  · simp [f_laws_FnExactFormatServer, start, execL, exec, execOps, stepO, wants, fop, eop, Opd.ev, put, V.cells, plain, loadV, cut, isInt, isStr, isBool, bin, binInt, binStr_neq, binStr_eql, un, asList, L.view, viewArgs, V.view, viewL, done, finish, resultsOf, resultOf, comps, comp, giveLs, giveL, arrsOf, V.flat, L.flat, setV, setL, storeV, putAt, thaw, thawL, freezeVs, freezeLs, freezeL, V.mut, L.mut, elemPtr, viewRows, m, n]
  · obtain ⟨_, hs⟩ := less_pos (by omega) q n
    have hs' : szL [.str c0, .lst c1, .int .i64 c2, .lst c3, .lst c4] ≤ 1048576 := by omega
    have e1 := toServer_ok (ext := extF) g0 g1 g2 g3 g4 hs'
    have e2 := spec_FormatServer_ok g0 g1 g2 g3 g4 hs'
    have e3 := impl_FormatServer_ok g0 g1 g2 g3 g4 hs'
    have e4 : callL Ph extF 19 [.agg [.pv (.str c0), .pv (.lst c1), .pv (.int .i64 c2), .pv (.lst c3), .pv (.lst c4)], .agg [.pv (.str c0), .pv (.lst c1), .pv (.int .i64 c2), .pv (.lst c3), .pv (.lst c4)]] = some (vbool true) := eqServer_ok (ext := extF) h
    simp [f_laws_FnExactFormatServer, start, execL, exec, execOps, stepO, wants, fop, eop, Opd.ev, put, V.cells, plain, loadV, cut, isInt, isStr, isBool, bin, binInt, binStr_neq, binStr_eql, un, asList, L.view, viewArgs, V.view, viewL, done, finish, resultsOf, resultOf, comps, comp, giveLs, giveL, arrsOf, V.flat, L.flat, setV, setL, storeV, putAt, thaw, thawL, freezeVs, freezeLs, freezeL, V.mut, L.mut, elemPtr, viewRows, m, n, e1, e2, e3, e4]
end Gi
