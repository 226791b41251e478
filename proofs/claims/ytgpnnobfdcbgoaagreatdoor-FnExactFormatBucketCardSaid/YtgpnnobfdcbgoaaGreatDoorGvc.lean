/- A bucket's text: the law. -/
import Derived.Test.YtgpnnobfdcbgoaaGreatDoorGvb
import Derived.Test.YtgpnnobfdcbgoaaGreatDoorGux
namespace Gi
open Go Go.RowKit
set_option linter.unusedSimpArgs false
set_option linter.unusedVariables false
set_option maxHeartbeats 4000000
set_option maxRecDepth 4000

theorem usage_has (d6 d9 d11 d14 d19 : List (List PV)) : Has (.int .i64) (.int .i64 (usageV d6 d9 d11 d14 d19)) := wrap_has _
def fmtBucket (c0 c1 : List UInt8) (c5 c4 u : Int) (n : Nat) (p : Bool) : List UInt8 := c0 ++ 47 :: (c1 ++ 32 :: (Lib.itoa c5 ++ 46 :: (Lib.itoa c4 ++ 32 :: (Lib.itoa u ++ 32 :: (Lib.itoa n ++ (if p then [32, 112] else []))))))
theorem impl_FormatBucket_ok {c0 : List UInt8} {c1 : List UInt8} {c2 : List UInt8} {c3 : Int} {c4 : Int} {c5 : Int} {c6 : List (List PV)} {c7 : List UInt8} {c8 : Int} {c9 : List (List PV)} {c10 : List (List PV)} {c11 : List (List PV)} {c12 : Int} {c13 : List UInt8} {c14 : List (List PV)} {c15 : Int} {c16 : Int} {c17 : Int} {c18 : Int} {c19 : List (List PV)} {c20 : Int} {c21 : Int} {c22 : Int} {c23 : Bool} (g0 : Has (.str) (.str c0)) (g1 : Has (.str) (.str c1)) (g2 : Has (.str) (.str c2)) (g3 : Has (.int .i64) (.int .i64 c3)) (g4 : Has (.int .i64) (.int .i64 c4)) (g5 : Has (.int .i64) (.int .i64 c5)) (g6 : Has (.lst t_CacheS) (.lst c6)) (g7 : Has (.str) (.str c7)) (g8 : Has (.int .i64) (.int .i64 c8)) (g9 : Has (.lst t_StoreS) (.lst c9)) (g10 : Has (.lst t_IndexDefS) (.lst c10)) (g11 : Has (.lst t_ByteS) (.lst c11)) (g12 : Has (.int .i64) (.int .i64 c12)) (g13 : Has (.str) (.str c13)) (g14 : Has (.lst t_ItemS) (.lst c14)) (g15 : Has (.int .i64) (.int .i64 c15)) (g16 : Has (.int .i64) (.int .i64 c16)) (g17 : Has (.int .i64) (.int .i64 c17)) (g18 : Has (.int .i64) (.int .i64 c18)) (g19 : Has (.lst t_WriteS) (.lst c19)) (g20 : Has (.int .i64) (.int .i64 c20)) (g21 : Has (.int .i64) (.int .i64 c21)) (g22 : Has (.int .i64) (.int .i64 c22)) (g23 : Has (.bool) (.bool c23)) (hs : szL [.str c0, .str c1, .str c2, .int .i64 c3, .int .i64 c4, .int .i64 c5, .lst c6, .str c7, .int .i64 c8, .lst c9, .lst c10, .lst c11, .int .i64 c12, .str c13, .lst c14, .int .i64 c15, .int .i64 c16, .int .i64 c17, .int .i64 c18, .lst c19, .int .i64 c20, .int .i64 c21, .int .i64 c22, .bool c23] ≤ 1048576) : callL Ph extF 286 [.agg [.pv (.str c0), .pv (.str c1), .pv (.str c2), .pv (.int .i64 c3), .pv (.int .i64 c4), .pv (.int .i64 c5), .pv (.lst c6), .pv (.str c7), .pv (.int .i64 c8), .pv (.lst c9), .pv (.lst c10), .pv (.lst c11), .pv (.int .i64 c12), .pv (.str c13), .pv (.lst c14), .pv (.int .i64 c15), .pv (.int .i64 c16), .pv (.int .i64 c17), .pv (.int .i64 c18), .pv (.lst c19), .pv (.int .i64 c20), .pv (.int .i64 c21), .pv (.int .i64 c22), .pv (.bool c23)]] = some (vstr (fmtBucket c0 c1 c5 c4 (usageV c6 c9 c11 c14 c19) c19.length c23)) := by
  have e5 := impl_FormatInt_ok g5
  have e4 := impl_FormatInt_ok g4
  have e19 := impl_FormatInt_ok (len_has (Has_rows g19).1)
  have hu := usage_has c6 c9 c11 c14 c19
  have eu := impl_UsageOf_ok (d0 := c0) (d1 := c1) (d2 := c2) (d3 := c3) (d4 := c4) (d5 := c5) (d7 := c7) (d8 := c8) (d10 := c10) (d11 := c11) (d12 := c12) (d13 := c13) (d15 := c15) (d16 := c16) (d17 := c17) (d18 := c18) (d19 := c19) (d20 := c20) (d21 := c21) (d22 := c22) (d23 := c23) g6 g9 g14
  generalize usageV c6 c9 c11 c14 c19 = u at hu eu
  have ei := impl_FormatInt_ok hu
  have l0 := (szL_str hs).1
  have l1 := (szL_str (szL_str hs).2).1
  have l5 := itoa_le g5
  have l4 := itoa_le g4
  have l19 := itoa_le (len_has (Has_rows g19).1)
  have li := itoa_le hu
  clear hs
  refine callL_fn (fn := f_impl_FormatBucket) rfl ?_
  cases c23 <;> simp (disch := (try simp only [List.length_append, List.length_cons, List.length_nil]); omega) [f_impl_FormatBucket, start, execL, exec, execOps, stepO, wants, fop, eop, Opd.ev, put, V.cells, plain, loadV, cut, isInt, isStr, isBool, bin, binInt, binStr_neq, binStr_eql, un, asList, L.view, viewArgs, V.view, viewL, done, finish, resultsOf, resultOf, comps, comp, giveLs, giveL, arrsOf_one, arrsOf_nil, V.flat, L.flat, setV, setL, storeV, putAt, thaw, thawL, freezeVs, freezeLs, freezeL, V.mut, L.mut, elemPtr, viewRows, e4, e5, e19, eu, ei, binStr_add, fmtBucket]

theorem spec_FormatBucket_ok {c0 : List UInt8} {c1 : List UInt8} {c2 : List UInt8} {c3 : Int} {c4 : Int} {c5 : Int} {c6 : List (List PV)} {c7 : List UInt8} {c8 : Int} {c9 : List (List PV)} {c10 : List (List PV)} {c11 : List (List PV)} {c12 : Int} {c13 : List UInt8} {c14 : List (List PV)} {c15 : Int} {c16 : Int} {c17 : Int} {c18 : Int} {c19 : List (List PV)} {c20 : Int} {c21 : Int} {c22 : Int} {c23 : Bool} (g0 : Has (.str) (.str c0)) (g1 : Has (.str) (.str c1)) (g2 : Has (.str) (.str c2)) (g3 : Has (.int .i64) (.int .i64 c3)) (g4 : Has (.int .i64) (.int .i64 c4)) (g5 : Has (.int .i64) (.int .i64 c5)) (g6 : Has (.lst t_CacheS) (.lst c6)) (g7 : Has (.str) (.str c7)) (g8 : Has (.int .i64) (.int .i64 c8)) (g9 : Has (.lst t_StoreS) (.lst c9)) (g10 : Has (.lst t_IndexDefS) (.lst c10)) (g11 : Has (.lst t_ByteS) (.lst c11)) (g12 : Has (.int .i64) (.int .i64 c12)) (g13 : Has (.str) (.str c13)) (g14 : Has (.lst t_ItemS) (.lst c14)) (g15 : Has (.int .i64) (.int .i64 c15)) (g16 : Has (.int .i64) (.int .i64 c16)) (g17 : Has (.int .i64) (.int .i64 c17)) (g18 : Has (.int .i64) (.int .i64 c18)) (g19 : Has (.lst t_WriteS) (.lst c19)) (g20 : Has (.int .i64) (.int .i64 c20)) (g21 : Has (.int .i64) (.int .i64 c21)) (g22 : Has (.int .i64) (.int .i64 c22)) (g23 : Has (.bool) (.bool c23)) (hs : szL [.str c0, .str c1, .str c2, .int .i64 c3, .int .i64 c4, .int .i64 c5, .lst c6, .str c7, .int .i64 c8, .lst c9, .lst c10, .lst c11, .int .i64 c12, .str c13, .lst c14, .int .i64 c15, .int .i64 c16, .int .i64 c17, .int .i64 c18, .lst c19, .int .i64 c20, .int .i64 c21, .int .i64 c22, .bool c23] ≤ 1048576) : callL Ph extF 285 [.agg [.pv (.str c0), .pv (.str c1), .pv (.str c2), .pv (.int .i64 c3), .pv (.int .i64 c4), .pv (.int .i64 c5), .pv (.lst c6), .pv (.str c7), .pv (.int .i64 c8), .pv (.lst c9), .pv (.lst c10), .pv (.lst c11), .pv (.int .i64 c12), .pv (.str c13), .pv (.lst c14), .pv (.int .i64 c15), .pv (.int .i64 c16), .pv (.int .i64 c17), .pv (.int .i64 c18), .pv (.lst c19), .pv (.int .i64 c20), .pv (.int .i64 c21), .pv (.int .i64 c22), .pv (.bool c23)]] = some (vstr (fmtBucket c0 c1 c5 c4 (usageV c6 c9 c11 c14 c19) c19.length c23)) := by
  have e5 := spec_FormatInt_ok g5
  have e4 := spec_FormatInt_ok g4
  have e19 := spec_FormatInt_ok (len_has (Has_rows g19).1)
  have hu := usage_has c6 c9 c11 c14 c19
  have eu := spec_UsageOf_ok (d0 := c0) (d1 := c1) (d2 := c2) (d3 := c3) (d4 := c4) (d5 := c5) (d7 := c7) (d8 := c8) (d10 := c10) (d11 := c11) (d12 := c12) (d13 := c13) (d15 := c15) (d16 := c16) (d17 := c17) (d18 := c18) (d19 := c19) (d20 := c20) (d21 := c21) (d22 := c22) (d23 := c23) g6 g9 g14
  generalize usageV c6 c9 c11 c14 c19 = u at hu eu
  have ei := spec_FormatInt_ok hu
  have l0 := (szL_str hs).1
  have l1 := (szL_str (szL_str hs).2).1
  have l5 := itoa_le g5
  have l4 := itoa_le g4
  have l19 := itoa_le (len_has (Has_rows g19).1)
  have li := itoa_le hu
  clear hs
  refine callL_fn (fn := f_spec_FormatBucket) rfl ?_
  cases c23 <;> simp (disch := (try simp only [List.length_append, List.length_cons, List.length_nil]); omega) [f_spec_FormatBucket, start, execL, exec, execOps, stepO, wants, fop, eop, Opd.ev, put, V.cells, plain, loadV, cut, isInt, isStr, isBool, bin, binInt, binStr_neq, binStr_eql, un, asList, L.view, viewArgs, V.view, viewL, done, finish, resultsOf, resultOf, comps, comp, giveLs, giveL, arrsOf_one, arrsOf_nil, V.flat, L.flat, setV, setL, storeV, putAt, thaw, thawL, freezeVs, freezeLs, freezeL, V.mut, L.mut, elemPtr, viewRows, e4, e5, e19, eu, ei, binStr_add, fmtBucket]

theorem law_Bucket {r : List PV} (h : HasL t_Bucket r) : callL Ph extF 283 [.agg (r.map .pv)] = some (vbool true) := by
  obtain ⟨p0, r1, rfl, g0, k1⟩ := HasL_cons h
  obtain ⟨p1, r2, rfl, g1, k2⟩ := HasL_cons k1
  obtain ⟨p2, r3, rfl, g2, k3⟩ := HasL_cons k2
  obtain ⟨p3, r4, rfl, g3, k4⟩ := HasL_cons k3
  obtain ⟨p4, r5, rfl, g4, k5⟩ := HasL_cons k4
  obtain ⟨p5, r6, rfl, g5, k6⟩ := HasL_cons k5
  obtain ⟨p6, r7, rfl, g6, k7⟩ := HasL_cons k6
  obtain ⟨p7, r8, rfl, g7, k8⟩ := HasL_cons k7
  obtain ⟨p8, r9, rfl, g8, k9⟩ := HasL_cons k8
  obtain ⟨p9, r10, rfl, g9, k10⟩ := HasL_cons k9
  obtain ⟨p10, r11, rfl, g10, k11⟩ := HasL_cons k10
  obtain ⟨p11, r12, rfl, g11, k12⟩ := HasL_cons k11
  obtain ⟨p12, r13, rfl, g12, k13⟩ := HasL_cons k12
  obtain ⟨p13, r14, rfl, g13, k14⟩ := HasL_cons k13
  obtain ⟨p14, r15, rfl, g14, k15⟩ := HasL_cons k14
  obtain ⟨p15, r16, rfl, g15, k16⟩ := HasL_cons k15
  obtain ⟨p16, r17, rfl, g16, k17⟩ := HasL_cons k16
  obtain ⟨p17, r18, rfl, g17, k18⟩ := HasL_cons k17
  obtain ⟨p18, r19, rfl, g18, k19⟩ := HasL_cons k18
  obtain ⟨p19, r20, rfl, g19, k20⟩ := HasL_cons k19
  obtain ⟨p20, r21, rfl, g20, k21⟩ := HasL_cons k20
  obtain ⟨p21, r22, rfl, g21, k22⟩ := HasL_cons k21
  obtain ⟨p22, r23, rfl, g22, k23⟩ := HasL_cons k22
  obtain ⟨p23, r24, rfl, g23, k24⟩ := HasL_cons k23
  obtain rfl := HasL_nil k24
  obtain ⟨c0, rfl⟩ := Has_str g0
  obtain ⟨c1, rfl⟩ := Has_str g1
  obtain ⟨c2, rfl⟩ := Has_str g2
  obtain ⟨c3, rfl⟩ := Has_int g3
  obtain ⟨c4, rfl⟩ := Has_int g4
  obtain ⟨c5, rfl⟩ := Has_int g5
  obtain ⟨c6, rfl⟩ := Has_lst g6
  obtain ⟨c7, rfl⟩ := Has_str g7
  obtain ⟨c8, rfl⟩ := Has_int g8
  obtain ⟨c9, rfl⟩ := Has_lst g9
  obtain ⟨c10, rfl⟩ := Has_lst g10
  obtain ⟨c11, rfl⟩ := Has_lst g11
  obtain ⟨c12, rfl⟩ := Has_int g12
  obtain ⟨c13, rfl⟩ := Has_str g13
  obtain ⟨c14, rfl⟩ := Has_lst g14
  obtain ⟨c15, rfl⟩ := Has_int g15
  obtain ⟨c16, rfl⟩ := Has_int g16
  obtain ⟨c17, rfl⟩ := Has_int g17
  obtain ⟨c18, rfl⟩ := Has_int g18
  obtain ⟨c19, rfl⟩ := Has_lst g19
  obtain ⟨c20, rfl⟩ := Has_int g20
  obtain ⟨c21, rfl⟩ := Has_int g21
  obtain ⟨c22, rfl⟩ := Has_int g22
  obtain ⟨c23, rfl⟩ := Has_bool g23
  show callL Ph extF 283 [.agg [.pv (.str c0), .pv (.str c1), .pv (.str c2), .pv (.int .i64 c3), .pv (.int .i64 c4), .pv (.int .i64 c5), .pv (.lst c6), .pv (.str c7), .pv (.int .i64 c8), .pv (.lst c9), .pv (.lst c10), .pv (.lst c11), .pv (.int .i64 c12), .pv (.str c13), .pv (.lst c14), .pv (.int .i64 c15), .pv (.int .i64 c16), .pv (.int .i64 c17), .pv (.int .i64 c18), .pv (.lst c19), .pv (.int .i64 c20), .pv (.int .i64 c21), .pv (.int .i64 c22), .pv (.bool c23)]] = _
  have m : callL Ph extF 198 [.agg [.pv (.str c0), .pv (.str c1), .pv (.str c2), .pv (.int .i64 c3), .pv (.int .i64 c4), .pv (.int .i64 c5), .pv (.lst c6), .pv (.str c7), .pv (.int .i64 c8), .pv (.lst c9), .pv (.lst c10), .pv (.lst c11), .pv (.int .i64 c12), .pv (.str c13), .pv (.lst c14), .pv (.int .i64 c15), .pv (.int .i64 c16), .pv (.int .i64 c17), .pv (.int .i64 c18), .pv (.lst c19), .pv (.int .i64 c20), .pv (.int .i64 c21), .pv (.int .i64 c22), .pv (.bool c23)], vint .i64 1048576] = some (vint .i64 (less 1048576 (szL [.str c0, .str c1, .str c2, .int .i64 c3, .int .i64 c4, .int .i64 c5, .lst c6, .str c7, .int .i64 c8, .lst c9, .lst c10, .lst c11, .int .i64 c12, .str c13, .lst c14, .int .i64 c15, .int .i64 c16, .int .i64 c17, .int .i64 c18, .lst c19, .int .i64 c20, .int .i64 c21, .int .i64 c22, .bool c23]))) := szBucket_ok (ext := extF) h 1048576 (by omega) (by omega)
  generalize q : less 1048576 (szL [.str c0, .str c1, .str c2, .int .i64 c3, .int .i64 c4, .int .i64 c5, .lst c6, .str c7, .int .i64 c8, .lst c9, .lst c10, .lst c11, .int .i64 c12, .str c13, .lst c14, .int .i64 c15, .int .i64 c16, .int .i64 c17, .int .i64 c18, .lst c19, .int .i64 c20, .int .i64 c21, .int .i64 c22, .bool c23]) = l at m
  refine callL_fn (fn := f_laws_FnExactFormatBucket) rfl ?_
  by_cases n : l < 0
  · simp [f_laws_FnExactFormatBucket, start, execL, exec, execOps, stepO, wants, fop, eop, Opd.ev, put, V.cells, plain, loadV, cut, isInt, isStr, isBool, bin, binInt, binStr_neq, binStr_eql, un, asList, L.view, viewArgs, V.view, viewL, done, finish, resultsOf, resultOf, comps, comp, giveLs, giveL, arrsOf, V.flat, L.flat, setV, setL, storeV, putAt, thaw, thawL, freezeVs, freezeLs, freezeL, V.mut, L.mut, elemPtr, viewRows, m, n]
  · obtain ⟨_, hs⟩ := less_pos (by omega) q n
    have hs' : szL [.str c0, .str c1, .str c2, .int .i64 c3, .int .i64 c4, .int .i64 c5, .lst c6, .str c7, .int .i64 c8, .lst c9, .lst c10, .lst c11, .int .i64 c12, .str c13, .lst c14, .int .i64 c15, .int .i64 c16, .int .i64 c17, .int .i64 c18, .lst c19, .int .i64 c20, .int .i64 c21, .int .i64 c22, .bool c23] ≤ 1048576 := by omega
    have e1 := toBucket_ok (ext := extF) g0 g1 g2 g3 g4 g5 g6 g7 g8 g9 g10 g11 g12 g13 g14 g15 g16 g17 g18 g19 g20 g21 g22 g23 hs'
    have e2 := spec_FormatBucket_ok g0 g1 g2 g3 g4 g5 g6 g7 g8 g9 g10 g11 g12 g13 g14 g15 g16 g17 g18 g19 g20 g21 g22 g23 hs'
    have e3 := impl_FormatBucket_ok g0 g1 g2 g3 g4 g5 g6 g7 g8 g9 g10 g11 g12 g13 g14 g15 g16 g17 g18 g19 g20 g21 g22 g23 hs'
    have e4 : callL Ph extF 205 [.agg [.pv (.str c0), .pv (.str c1), .pv (.str c2), .pv (.int .i64 c3), .pv (.int .i64 c4), .pv (.int .i64 c5), .pv (.lst c6), .pv (.str c7), .pv (.int .i64 c8), .pv (.lst c9), .pv (.lst c10), .pv (.lst c11), .pv (.int .i64 c12), .pv (.str c13), .pv (.lst c14), .pv (.int .i64 c15), .pv (.int .i64 c16), .pv (.int .i64 c17), .pv (.int .i64 c18), .pv (.lst c19), .pv (.int .i64 c20), .pv (.int .i64 c21), .pv (.int .i64 c22), .pv (.bool c23)], .agg [.pv (.str c0), .pv (.str c1), .pv (.str c2), .pv (.int .i64 c3), .pv (.int .i64 c4), .pv (.int .i64 c5), .pv (.lst c6), .pv (.str c7), .pv (.int .i64 c8), .pv (.lst c9), .pv (.lst c10), .pv (.lst c11), .pv (.int .i64 c12), .pv (.str c13), .pv (.lst c14), .pv (.int .i64 c15), .pv (.int .i64 c16), .pv (.int .i64 c17), .pv (.int .i64 c18), .pv (.lst c19), .pv (.int .i64 c20), .pv (.int .i64 c21), .pv (.int .i64 c22), .pv (.bool c23)]] = some (vbool true) := eqBucket_ok (ext := extF) h
    simp [f_laws_FnExactFormatBucket, start, execL, exec, execOps, stepO, wants, fop, eop, Opd.ev, put, V.cells, plain, loadV, cut, isInt, isStr, isBool, bin, binInt, binStr_neq, binStr_eql, un, asList, L.view, viewArgs, V.view, viewL, done, finish, resultsOf, resultOf, comps, comp, giveLs, giveL, arrsOf, V.flat, L.flat, setV, setL, storeV, putAt, thaw, thawL, freezeVs, freezeLs, freezeL, V.mut, L.mut, elemPtr, viewRows, m, n, e1, e2, e3, e4]
end Gi
