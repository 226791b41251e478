/- What the copying, measuring and comparing functions of the laws compute, written by program. -/
import Derived.Test.YtldmjoillnhebaaGreatGtbn
namespace Gi
open Go Go.RowKit
set_option linter.unusedVariables false
set_option linter.unusedSimpArgs false
set_option maxHeartbeats 4000000
attribute [local simp] start execL exec execOps stepO wants fop eop Opd.ev put V.cells plain loadV cut isInt isStr isBool bin binInt un asList L.view viewArgs V.view viewL done finish resultsOf resultOf comps comp giveLs giveL arrsOf V.flat L.flat setV setL storeV putAt thaw thawL freezeVs freezeLs freezeL V.mut L.mut
section
variable {ext : Nat → List V → Option V}
theorem toBucket_ok {c0 : List UInt8} {c1 : List UInt8} {c2 : List UInt8} {c3 : Int} {c4 : Int} {c5 : Int} {c6 : List (List PV)} {c7 : List UInt8} {c8 : Int} {c9 : List (List PV)} {c10 : List (List PV)} {c11 : List (List PV)} {c12 : Int} {c13 : List UInt8} {c14 : List (List PV)} {c15 : Int} {c16 : Int} {c17 : Int} {c18 : Int} {c19 : List (List PV)} {c20 : Int} {c21 : Int} {c22 : Int} {c23 : Bool} (h0 : Has (.str) (.str c0)) (h1 : Has (.str) (.str c1)) (h2 : Has (.str) (.str c2)) (h3 : Has (.int .i64) (.int .i64 c3)) (h4 : Has (.int .i64) (.int .i64 c4)) (h5 : Has (.int .i64) (.int .i64 c5)) (h6 : Has (.lst t_CacheS) (.lst c6)) (h7 : Has (.str) (.str c7)) (h8 : Has (.int .i64) (.int .i64 c8)) (h9 : Has (.lst t_StoreS) (.lst c9)) (h10 : Has (.lst t_IndexDefS) (.lst c10)) (h11 : Has (.lst t_ByteS) (.lst c11)) (h12 : Has (.int .i64) (.int .i64 c12)) (h13 : Has (.str) (.str c13)) (h14 : Has (.lst t_ItemS) (.lst c14)) (h15 : Has (.int .i64) (.int .i64 c15)) (h16 : Has (.int .i64) (.int .i64 c16)) (h17 : Has (.int .i64) (.int .i64 c17)) (h18 : Has (.int .i64) (.int .i64 c18)) (h19 : Has (.lst t_WriteS) (.lst c19)) (h20 : Has (.int .i64) (.int .i64 c20)) (h21 : Has (.int .i64) (.int .i64 c21)) (h22 : Has (.int .i64) (.int .i64 c22)) (h23 : Has (.bool) (.bool c23)) (hs : szL [.str c0, .str c1, .str c2, .int .i64 c3, .int .i64 c4, .int .i64 c5, .lst c6, .str c7, .int .i64 c8, .lst c9, .lst c10, .lst c11, .int .i64 c12, .str c13, .lst c14, .int .i64 c15, .int .i64 c16, .int .i64 c17, .int .i64 c18, .lst c19, .int .i64 c20, .int .i64 c21, .int .i64 c22, .bool c23] ≤ 1048576) : callL Ph ext 201 [.agg [.pv (.str c0), .pv (.str c1), .pv (.str c2), .pv (.int .i64 c3), .pv (.int .i64 c4), .pv (.int .i64 c5), .pv (.lst c6), .pv (.str c7), .pv (.int .i64 c8), .pv (.lst c9), .pv (.lst c10), .pv (.lst c11), .pv (.int .i64 c12), .pv (.str c13), .pv (.lst c14), .pv (.int .i64 c15), .pv (.int .i64 c16), .pv (.int .i64 c17), .pv (.int .i64 c18), .pv (.lst c19), .pv (.int .i64 c20), .pv (.int .i64 c21), .pv (.int .i64 c22), .pv (.bool c23)]] = some (.agg [.pv (.str c0), .pv (.str c1), .pv (.str c2), .pv (.int .i64 c3), .pv (.int .i64 c4), .pv (.int .i64 c5), .own 2 c6, .pv (.str c7), .pv (.int .i64 c8), .own 3 c9, .own 2 c10, .own 1 c11, .pv (.int .i64 c12), .pv (.str c13), .own 4 c14, .pv (.int .i64 c15), .pv (.int .i64 c16), .pv (.int .i64 c17), .pv (.int .i64 c18), .own 7 c19, .pv (.int .i64 c20), .pv (.int .i64 c21), .pv (.int .i64 c22), .pv (.bool c23)]) := by
  have e0 := (toRegistration_ok (ext := ext) h2 h3 h4 h5 (Nat.le_trans (szL_sub [.str c0, .str c1, .str c2, .int .i64 c3, .int .i64 c4, .int .i64 c5, .lst c6, .str c7, .int .i64 c8, .lst c9, .lst c10, .lst c11, .int .i64 c12, .str c13, .lst c14, .int .i64 c15, .int .i64 c16, .int .i64 c17, .int .i64 c18, .lst c19, .int .i64 c20, .int .i64 c21, .int .i64 c22, .bool c23] 2 4) hs))
  have e1 := (toCacheSet_ok (ext := ext) h6 (Nat.le_trans (szL_sub [.str c0, .str c1, .str c2, .int .i64 c3, .int .i64 c4, .int .i64 c5, .lst c6, .str c7, .int .i64 c8, .lst c9, .lst c10, .lst c11, .int .i64 c12, .str c13, .lst c14, .int .i64 c15, .int .i64 c16, .int .i64 c17, .int .i64 c18, .lst c19, .int .i64 c20, .int .i64 c21, .int .i64 c22, .bool c23] 6 1) hs))
  have e2 := (toDisk_ok (ext := ext) h7 h8 h9 h10 h11 h12 (Nat.le_trans (szL_sub [.str c0, .str c1, .str c2, .int .i64 c3, .int .i64 c4, .int .i64 c5, .lst c6, .str c7, .int .i64 c8, .lst c9, .lst c10, .lst c11, .int .i64 c12, .str c13, .lst c14, .int .i64 c15, .int .i64 c16, .int .i64 c17, .int .i64 c18, .lst c19, .int .i64 c20, .int .i64 c21, .int .i64 c22, .bool c23] 7 6) hs))
  have e3 := (toReplica_ok (ext := ext) h13 h14 h15 h16 h17 h18 h19 h20 h21 (Nat.le_trans (szL_sub [.str c0, .str c1, .str c2, .int .i64 c3, .int .i64 c4, .int .i64 c5, .lst c6, .str c7, .int .i64 c8, .lst c9, .lst c10, .lst c11, .int .i64 c12, .str c13, .lst c14, .int .i64 c15, .int .i64 c16, .int .i64 c17, .int .i64 c18, .lst c19, .int .i64 c20, .int .i64 c21, .int .i64 c22, .bool c23] 13 9) hs))
  refine callL_fn (fn := f_laws_toBucket) rfl ?_
  simp [f_laws_toBucket, binStr, e0, e1, e2, e3]
theorem toBucket_copies {r : List PV} (h : HasL t_Bucket r) (hs : szL r ≤ 1048576) : Copies Ph ext 201 false r := by
  obtain ⟨p0, r1, rfl, g0, k1⟩ := HasL_cons h
  obtain ⟨p1, r2, rfl, g1, k2⟩ := HasL_cons k1
  obtain ⟨p2, r3, rfl, g2, k3⟩ := HasL_cons k2
  obtain ⟨p3, r4, rfl, g3, k4⟩ := HasL_cons k3
  obtain ⟨p4, r5, rfl, g4, k5⟩ := HasL_cons k4
  obtain ⟨p5, r6, rfl, g5, k6⟩ := HasL_cons k5
  obtain ⟨p6, r7, rfl, g6, k7⟩ := HasL_cons k6
  obtain ⟨p7, r8, rfl, g7, k8⟩ := HasL_cons k7
  obtain ⟨p8, r9, rfl, g8, k9⟩ := HasL_cons k8
  obtain ⟨p9, r10, rfl, g9, k10⟩ := HasL_cons k9
  obtain ⟨p10, r11, rfl, g10, k11⟩ := HasL_cons k10
  obtain ⟨p11, r12, rfl, g11, k12⟩ := HasL_cons k11
  obtain ⟨p12, r13, rfl, g12, k13⟩ := HasL_cons k12
  obtain ⟨p13, r14, rfl, g13, k14⟩ := HasL_cons k13
  obtain ⟨p14, r15, rfl, g14, k15⟩ := HasL_cons k14
  obtain ⟨p15, r16, rfl, g15, k16⟩ := HasL_cons k15
  obtain ⟨p16, r17, rfl, g16, k17⟩ := HasL_cons k16
  obtain ⟨p17, r18, rfl, g17, k18⟩ := HasL_cons k17
  obtain ⟨p18, r19, rfl, g18, k19⟩ := HasL_cons k18
  obtain ⟨p19, r20, rfl, g19, k20⟩ := HasL_cons k19
  obtain ⟨p20, r21, rfl, g20, k21⟩ := HasL_cons k20
  obtain ⟨p21, r22, rfl, g21, k22⟩ := HasL_cons k21
  obtain ⟨p22, r23, rfl, g22, k23⟩ := HasL_cons k22
  obtain ⟨p23, r24, rfl, g23, k24⟩ := HasL_cons k23
  obtain rfl := HasL_nil k24
  obtain ⟨c0, rfl⟩ := Has_str g0
  obtain ⟨c1, rfl⟩ := Has_str g1
  obtain ⟨c2, rfl⟩ := Has_str g2
  obtain ⟨c3, rfl⟩ := Has_int g3
  obtain ⟨c4, rfl⟩ := Has_int g4
  obtain ⟨c5, rfl⟩ := Has_int g5
  obtain ⟨c6, rfl⟩ := Has_lst g6
  obtain ⟨c7, rfl⟩ := Has_str g7
  obtain ⟨c8, rfl⟩ := Has_int g8
  obtain ⟨c9, rfl⟩ := Has_lst g9
  obtain ⟨c10, rfl⟩ := Has_lst g10
  obtain ⟨c11, rfl⟩ := Has_lst g11
  obtain ⟨c12, rfl⟩ := Has_int g12
  obtain ⟨c13, rfl⟩ := Has_str g13
  obtain ⟨c14, rfl⟩ := Has_lst g14
  obtain ⟨c15, rfl⟩ := Has_int g15
  obtain ⟨c16, rfl⟩ := Has_int g16
  obtain ⟨c17, rfl⟩ := Has_int g17
  obtain ⟨c18, rfl⟩ := Has_int g18
  obtain ⟨c19, rfl⟩ := Has_lst g19
  obtain ⟨c20, rfl⟩ := Has_int g20
  obtain ⟨c21, rfl⟩ := Has_int g21
  obtain ⟨c22, rfl⟩ := Has_int g22
  obtain ⟨c23, rfl⟩ := Has_bool g23
  exact ⟨_, toBucket_ok g0 g1 g2 g3 g4 g5 g6 g7 g8 g9 g10 g11 g12 g13 g14 g15 g16 g17 g18 g19 g20 g21 g22 g23 hs, rfl, rfl, fun h => by cases h⟩
theorem szBucket_ok {r : List PV} (h : HasL t_Bucket r) : Measures Ph ext 198 r := by
  obtain ⟨p0, r1, rfl, g0, k1⟩ := HasL_cons h
  obtain ⟨p1, r2, rfl, g1, k2⟩ := HasL_cons k1
  obtain ⟨p2, r3, rfl, g2, k3⟩ := HasL_cons k2
  obtain ⟨p3, r4, rfl, g3, k4⟩ := HasL_cons k3
  obtain ⟨p4, r5, rfl, g4, k5⟩ := HasL_cons k4
  obtain ⟨p5, r6, rfl, g5, k6⟩ := HasL_cons k5
  obtain ⟨p6, r7, rfl, g6, k7⟩ := HasL_cons k6
  obtain ⟨p7, r8, rfl, g7, k8⟩ := HasL_cons k7
  obtain ⟨p8, r9, rfl, g8, k9⟩ := HasL_cons k8
  obtain ⟨p9, r10, rfl, g9, k10⟩ := HasL_cons k9
  obtain ⟨p10, r11, rfl, g10, k11⟩ := HasL_cons k10
  obtain ⟨p11, r12, rfl, g11, k12⟩ := HasL_cons k11
  obtain ⟨p12, r13, rfl, g12, k13⟩ := HasL_cons k12
  obtain ⟨p13, r14, rfl, g13, k14⟩ := HasL_cons k13
  obtain ⟨p14, r15, rfl, g14, k15⟩ := HasL_cons k14
  obtain ⟨p15, r16, rfl, g15, k16⟩ := HasL_cons k15
  obtain ⟨p16, r17, rfl, g16, k17⟩ := HasL_cons k16
  obtain ⟨p17, r18, rfl, g17, k18⟩ := HasL_cons k17
  obtain ⟨p18, r19, rfl, g18, k19⟩ := HasL_cons k18
  obtain ⟨p19, r20, rfl, g19, k20⟩ := HasL_cons k19
  obtain ⟨p20, r21, rfl, g20, k21⟩ := HasL_cons k20
  obtain ⟨p21, r22, rfl, g21, k22⟩ := HasL_cons k21
  obtain ⟨p22, r23, rfl, g22, k23⟩ := HasL_cons k22
  obtain ⟨p23, r24, rfl, g23, k24⟩ := HasL_cons k23
  obtain rfl := HasL_nil k24
  obtain ⟨c0, rfl⟩ := Has_str g0
  obtain ⟨c1, rfl⟩ := Has_str g1
  obtain ⟨c2, rfl⟩ := Has_str g2
  obtain ⟨c3, rfl⟩ := Has_int g3
  obtain ⟨c4, rfl⟩ := Has_int g4
  obtain ⟨c5, rfl⟩ := Has_int g5
  obtain ⟨c6, rfl⟩ := Has_lst g6
  obtain ⟨c7, rfl⟩ := Has_str g7
  obtain ⟨c8, rfl⟩ := Has_int g8
  obtain ⟨c9, rfl⟩ := Has_lst g9
  obtain ⟨c10, rfl⟩ := Has_lst g10
  obtain ⟨c11, rfl⟩ := Has_lst g11
  obtain ⟨c12, rfl⟩ := Has_int g12
  obtain ⟨c13, rfl⟩ := Has_str g13
  obtain ⟨c14, rfl⟩ := Has_lst g14
  obtain ⟨c15, rfl⟩ := Has_int g15
  obtain ⟨c16, rfl⟩ := Has_int g16
  obtain ⟨c17, rfl⟩ := Has_int g17
  obtain ⟨c18, rfl⟩ := Has_int g18
  obtain ⟨c19, rfl⟩ := Has_lst g19
  obtain ⟨c20, rfl⟩ := Has_int g20
  obtain ⟨c21, rfl⟩ := Has_int g21
  obtain ⟨c22, rfl⟩ := Has_int g22
  obtain ⟨c23, rfl⟩ := Has_bool g23
  intro left h0 h1
  show callL Ph ext 198 [.agg [.pv (.str c0), .pv (.str c1), .pv (.str c2), .pv (.int .i64 c3), .pv (.int .i64 c4), .pv (.int .i64 c5), .pv (.lst c6), .pv (.str c7), .pv (.int .i64 c8), .pv (.lst c9), .pv (.lst c10), .pv (.lst c11), .pv (.int .i64 c12), .pv (.str c13), .pv (.lst c14), .pv (.int .i64 c15), .pv (.int .i64 c16), .pv (.int .i64 c17), .pv (.int .i64 c18), .pv (.lst c19), .pv (.int .i64 c20), .pv (.int .i64 c21), .pv (.int .i64 c22), .pv (.bool c23)], vint .i64 left] = _
  have tot : szL [.str c0, .str c1, .str c2, .int .i64 c3, .int .i64 c4, .int .i64 c5, .lst c6, .str c7, .int .i64 c8, .lst c9, .lst c10, .lst c11, .int .i64 c12, .str c13, .lst c14, .int .i64 c15, .int .i64 c16, .int .i64 c17, .int .i64 c18, .lst c19, .int .i64 c20, .int .i64 c21, .int .i64 c22, .bool c23] = c0.length + (c1.length + (szL [.str c2, .int .i64 c3, .int .i64 c4, .int .i64 c5] + (szL [.lst c6] + (szL [.str c7, .int .i64 c8, .lst c9, .lst c10, .lst c11, .int .i64 c12] + (szL [.str c13, .lst c14, .int .i64 c15, .int .i64 c16, .int .i64 c17, .int .i64 c18, .lst c19, .int .i64 c20, .int .i64 c21]))))) := by simp only [szL_nil0, szL_cons0, sz_int0, sz_bool0, sz_str0, Nat.add_zero, Nat.zero_add, Nat.add_assoc]
  generalize szL [.str c0, .str c1, .str c2, .int .i64 c3, .int .i64 c4, .int .i64 c5, .lst c6, .str c7, .int .i64 c8, .lst c9, .lst c10, .lst c11, .int .i64 c12, .str c13, .lst c14, .int .i64 c15, .int .i64 c16, .int .i64 c17, .int .i64 c18, .lst c19, .int .i64 c20, .int .i64 c21, .int .i64 c22, .bool c23] = T at tot ⊢
  have b0 : c0.length ≤ maxLen := g0
  unfold maxLen at b0
  obtain ⟨l0, q0⟩ : ∃ x : Int, x = left - c0.length := ⟨_, rfl⟩
  have e0 : IntKind.i64.wrap (left - (c0.length : Int)) = l0 := by rw [q0, IntKind.wrap_i64]; omega
  by_cases n0 : l0 < 0
  · rw [less_lt (by omega)]
    refine callL_fn (fn := f_laws_szBucket) rfl ?_
    simp [f_laws_szBucket, binStr, e0, n0]
  have b1 : c1.length ≤ maxLen := g1
  unfold maxLen at b1
  obtain ⟨l1, q1⟩ : ∃ x : Int, x = l0 - c1.length := ⟨_, rfl⟩
  have e1 : IntKind.i64.wrap (l0 - (c1.length : Int)) = l1 := by rw [q1, IntKind.wrap_i64]; omega
  by_cases n1 : l1 < 0
  · rw [less_lt (by omega)]
    refine callL_fn (fn := f_laws_szBucket) rfl ?_
    simp [f_laws_szBucket, binStr, e0, e1, n0, n1]
  have e2 : callL Ph ext 227 [.agg [.pv (.str c2), .pv (.int .i64 c3), .pv (.int .i64 c4), .pv (.int .i64 c5)], vint .i64 l1] = some (vint .i64 (less l1 (szL [.str c2, .int .i64 c3, .int .i64 c4, .int .i64 c5]))) := szRegistration_ok (ext := ext) (r := [.str c2, .int .i64 c3, .int .i64 c4, .int .i64 c5]) (⟨g2, g3, g4, g5, trivial⟩) l1 (by omega) (by omega)
  generalize hS2 : szL [.str c2, .int .i64 c3, .int .i64 c4, .int .i64 c5] = S2 at tot e2
  generalize q2 : less l1 S2 = l2 at e2
  by_cases n2 : l2 < 0
  · have n2' := less_lt' (by omega) q2 n2
    rw [less_lt (by omega)]
    refine callL_fn (fn := f_laws_szBucket) rfl ?_
    simp [f_laws_szBucket, binStr, e0, e1, e2, n0, n1, n2]
  obtain ⟨y2, z2⟩ := less_pos (by omega) q2 n2
  have e3 : callL Ph ext 228 [.agg [.pv (.lst c6)], vint .i64 l2] = some (vint .i64 (less l2 (szL [.lst c6]))) := szCacheSet_ok (ext := ext) (r := [.lst c6]) (⟨g6, trivial⟩) l2 (by omega) (by omega)
  generalize hS3 : szL [.lst c6] = S3 at tot e3
  generalize q3 : less l2 S3 = l3 at e3
  by_cases n3 : l3 < 0
  · have n3' := less_lt' (by omega) q3 n3
    rw [less_lt (by omega)]
    refine callL_fn (fn := f_laws_szBucket) rfl ?_
    simp [f_laws_szBucket, binStr, e0, e1, e2, e3, n0, n1, n2, n3]
  obtain ⟨y3, z3⟩ := less_pos (by omega) q3 n3
  have e4 : callL Ph ext 229 [.agg [.pv (.str c7), .pv (.int .i64 c8), .pv (.lst c9), .pv (.lst c10), .pv (.lst c11), .pv (.int .i64 c12)], vint .i64 l3] = some (vint .i64 (less l3 (szL [.str c7, .int .i64 c8, .lst c9, .lst c10, .lst c11, .int .i64 c12]))) := szDisk_ok (ext := ext) (r := [.str c7, .int .i64 c8, .lst c9, .lst c10, .lst c11, .int .i64 c12]) (⟨g7, g8, g9, g10, g11, g12, trivial⟩) l3 (by omega) (by omega)
  generalize hS4 : szL [.str c7, .int .i64 c8, .lst c9, .lst c10, .lst c11, .int .i64 c12] = S4 at tot e4
  generalize q4 : less l3 S4 = l4 at e4
  by_cases n4 : l4 < 0
  · have n4' := less_lt' (by omega) q4 n4
    rw [less_lt (by omega)]
    refine callL_fn (fn := f_laws_szBucket) rfl ?_
    simp [f_laws_szBucket, binStr, e0, e1, e2, e3, e4, n0, n1, n2, n3, n4]
  obtain ⟨y4, z4⟩ := less_pos (by omega) q4 n4
  have e5 : callL Ph ext 230 [.agg [.pv (.str c13), .pv (.lst c14), .pv (.int .i64 c15), .pv (.int .i64 c16), .pv (.int .i64 c17), .pv (.int .i64 c18), .pv (.lst c19), .pv (.int .i64 c20), .pv (.int .i64 c21)], vint .i64 l4] = some (vint .i64 (less l4 (szL [.str c13, .lst c14, .int .i64 c15, .int .i64 c16, .int .i64 c17, .int .i64 c18, .lst c19, .int .i64 c20, .int .i64 c21]))) := szReplica_ok (ext := ext) (r := [.str c13, .lst c14, .int .i64 c15, .int .i64 c16, .int .i64 c17, .int .i64 c18, .lst c19, .int .i64 c20, .int .i64 c21]) (⟨g13, g14, g15, g16, g17, g18, g19, g20, g21, trivial⟩) l4 (by omega) (by omega)
  generalize hS5 : szL [.str c13, .lst c14, .int .i64 c15, .int .i64 c16, .int .i64 c17, .int .i64 c18, .lst c19, .int .i64 c20, .int .i64 c21] = S5 at tot e5
  generalize q5 : less l4 S5 = l5 at e5
  by_cases n5 : l5 < 0
  · have n5' := less_lt' (by omega) q5 n5
    rw [less_lt (by omega)]
    refine callL_fn (fn := f_laws_szBucket) rfl ?_
    simp [f_laws_szBucket, binStr, e0, e1, e2, e3, e4, e5, n0, n1, n2, n3, n4, n5]
  obtain ⟨y5, z5⟩ := less_pos (by omega) q5 n5
  rw [less_ge' (n := T) (l := l5) (by omega) (by omega)]
  refine callL_fn (fn := f_laws_szBucket) rfl ?_
  simp [f_laws_szBucket, binStr, e0, e1, e2, e3, e4, e5, n0, n1, n2, n3, n4, n5]
theorem eqBucket_ok {r : List PV} (h : HasL t_Bucket r) : callL Ph ext 205 [.agg (r.map .pv), .agg (r.map .pv)] = some (vbool true) := by
  obtain ⟨p0, r1, rfl, g0, k1⟩ := HasL_cons h
  obtain ⟨p1, r2, rfl, g1, k2⟩ := HasL_cons k1
  obtain ⟨p2, r3, rfl, g2, k3⟩ := HasL_cons k2
  obtain ⟨p3, r4, rfl, g3, k4⟩ := HasL_cons k3
  obtain ⟨p4, r5, rfl, g4, k5⟩ := HasL_cons k4
  obtain ⟨p5, r6, rfl, g5, k6⟩ := HasL_cons k5
  obtain ⟨p6, r7, rfl, g6, k7⟩ := HasL_cons k6
  obtain ⟨p7, r8, rfl, g7, k8⟩ := HasL_cons k7
  obtain ⟨p8, r9, rfl, g8, k9⟩ := HasL_cons k8
  obtain ⟨p9, r10, rfl, g9, k10⟩ := HasL_cons k9
  obtain ⟨p10, r11, rfl, g10, k11⟩ := HasL_cons k10
  obtain ⟨p11, r12, rfl, g11, k12⟩ := HasL_cons k11
  obtain ⟨p12, r13, rfl, g12, k13⟩ := HasL_cons k12
  obtain ⟨p13, r14, rfl, g13, k14⟩ := HasL_cons k13
  obtain ⟨p14, r15, rfl, g14, k15⟩ := HasL_cons k14
  obtain ⟨p15, r16, rfl, g15, k16⟩ := HasL_cons k15
  obtain ⟨p16, r17, rfl, g16, k17⟩ := HasL_cons k16
  obtain ⟨p17, r18, rfl, g17, k18⟩ := HasL_cons k17
  obtain ⟨p18, r19, rfl, g18, k19⟩ := HasL_cons k18
  obtain ⟨p19, r20, rfl, g19, k20⟩ := HasL_cons k19
  obtain ⟨p20, r21, rfl, g20, k21⟩ := HasL_cons k20
  obtain ⟨p21, r22, rfl, g21, k22⟩ := HasL_cons k21
  obtain ⟨p22, r23, rfl, g22, k23⟩ := HasL_cons k22
  obtain ⟨p23, r24, rfl, g23, k24⟩ := HasL_cons k23
  obtain rfl := HasL_nil k24
  obtain ⟨c0, rfl⟩ := Has_str g0
  obtain ⟨c1, rfl⟩ := Has_str g1
  obtain ⟨c2, rfl⟩ := Has_str g2
  obtain ⟨c3, rfl⟩ := Has_int g3
  obtain ⟨c4, rfl⟩ := Has_int g4
  obtain ⟨c5, rfl⟩ := Has_int g5
  obtain ⟨c6, rfl⟩ := Has_lst g6
  obtain ⟨c7, rfl⟩ := Has_str g7
  obtain ⟨c8, rfl⟩ := Has_int g8
  obtain ⟨c9, rfl⟩ := Has_lst g9
  obtain ⟨c10, rfl⟩ := Has_lst g10
  obtain ⟨c11, rfl⟩ := Has_lst g11
  obtain ⟨c12, rfl⟩ := Has_int g12
  obtain ⟨c13, rfl⟩ := Has_str g13
  obtain ⟨c14, rfl⟩ := Has_lst g14
  obtain ⟨c15, rfl⟩ := Has_int g15
  obtain ⟨c16, rfl⟩ := Has_int g16
  obtain ⟨c17, rfl⟩ := Has_int g17
  obtain ⟨c18, rfl⟩ := Has_int g18
  obtain ⟨c19, rfl⟩ := Has_lst g19
  obtain ⟨c20, rfl⟩ := Has_int g20
  obtain ⟨c21, rfl⟩ := Has_int g21
  obtain ⟨c22, rfl⟩ := Has_int g22
  obtain ⟨c23, rfl⟩ := Has_bool g23
  show callL Ph ext 205 [.agg [.pv (.str c0), .pv (.str c1), .pv (.str c2), .pv (.int .i64 c3), .pv (.int .i64 c4), .pv (.int .i64 c5), .pv (.lst c6), .pv (.str c7), .pv (.int .i64 c8), .pv (.lst c9), .pv (.lst c10), .pv (.lst c11), .pv (.int .i64 c12), .pv (.str c13), .pv (.lst c14), .pv (.int .i64 c15), .pv (.int .i64 c16), .pv (.int .i64 c17), .pv (.int .i64 c18), .pv (.lst c19), .pv (.int .i64 c20), .pv (.int .i64 c21), .pv (.int .i64 c22), .pv (.bool c23)], .agg [.pv (.str c0), .pv (.str c1), .pv (.str c2), .pv (.int .i64 c3), .pv (.int .i64 c4), .pv (.int .i64 c5), .pv (.lst c6), .pv (.str c7), .pv (.int .i64 c8), .pv (.lst c9), .pv (.lst c10), .pv (.lst c11), .pv (.int .i64 c12), .pv (.str c13), .pv (.lst c14), .pv (.int .i64 c15), .pv (.int .i64 c16), .pv (.int .i64 c17), .pv (.int .i64 c18), .pv (.lst c19), .pv (.int .i64 c20), .pv (.int .i64 c21), .pv (.int .i64 c22), .pv (.bool c23)]] = _
  have e0 : callL Ph ext 235 [.agg [.pv (.str c2), .pv (.int .i64 c3), .pv (.int .i64 c4), .pv (.int .i64 c5)], .agg [.pv (.str c2), .pv (.int .i64 c3), .pv (.int .i64 c4), .pv (.int .i64 c5)]] = some (vbool true) := eqRegistration_ok (ext := ext) (r := [.str c2, .int .i64 c3, .int .i64 c4, .int .i64 c5]) (⟨g2, g3, g4, g5, trivial⟩)
  have e1 : callL Ph ext 236 [.agg [.pv (.lst c6)], .agg [.pv (.lst c6)]] = some (vbool true) := eqCacheSet_ok (ext := ext) (r := [.lst c6]) (⟨g6, trivial⟩)
  have e2 : callL Ph ext 237 [.agg [.pv (.str c7), .pv (.int .i64 c8), .pv (.lst c9), .pv (.lst c10), .pv (.lst c11), .pv (.int .i64 c12)], .agg [.pv (.str c7), .pv (.int .i64 c8), .pv (.lst c9), .pv (.lst c10), .pv (.lst c11), .pv (.int .i64 c12)]] = some (vbool true) := eqDisk_ok (ext := ext) (r := [.str c7, .int .i64 c8, .lst c9, .lst c10, .lst c11, .int .i64 c12]) (⟨g7, g8, g9, g10, g11, g12, trivial⟩)
  have e3 : callL Ph ext 238 [.agg [.pv (.str c13), .pv (.lst c14), .pv (.int .i64 c15), .pv (.int .i64 c16), .pv (.int .i64 c17), .pv (.int .i64 c18), .pv (.lst c19), .pv (.int .i64 c20), .pv (.int .i64 c21)], .agg [.pv (.str c13), .pv (.lst c14), .pv (.int .i64 c15), .pv (.int .i64 c16), .pv (.int .i64 c17), .pv (.int .i64 c18), .pv (.lst c19), .pv (.int .i64 c20), .pv (.int .i64 c21)]] = some (vbool true) := eqReplica_ok (ext := ext) (r := [.str c13, .lst c14, .int .i64 c15, .int .i64 c16, .int .i64 c17, .int .i64 c18, .lst c19, .int .i64 c20, .int .i64 c21]) (⟨g13, g14, g15, g16, g17, g18, g19, g20, g21, trivial⟩)
  refine callL_fn (fn := f_laws_eqBucket) rfl ?_
  simp [f_laws_eqBucket, binStr, e0, e1, e2, e3]
theorem toBucketS_ok {rows : List (List PV)} (h : Has (.lst t_BucketS) (.lst rows)) (hs : sz (.lst rows) ≤ 1048576) : callL Ph ext 167 [vlst rows] = some (.one (.own 24 rows)) := by
  obtain ⟨hl, hr⟩ := Has_rows h
  have hn : rows.length ≤ 1048576 := Nat.le_trans (Nat.le_add_right _ _) hs
  refine toS_ok (Φ := Ph) (ext := ext) (k := 167) (bytes := 328) (z := 24) (kx := 201) (zero := [(.str []), (.str []), (.str []), (.int .i64 0), (.int .i64 0), (.int .i64 0), (.lst []), (.str []), (.int .i64 0), (.lst []), (.lst []), (.lst []), (.int .i64 0), (.str []), (.lst []), (.int .i64 0), (.int .i64 0), (.int .i64 0), (.int .i64 0), (.lst []), (.int .i64 0), (.int .i64 0), (.int .i64 0), (.bool false)]) (fl := false) rfl (fun r m => HasL_len (hr r m)) (by decide) rfl hl (by omega) (fun r m => ?_)
  exact toBucket_copies (hr r m) (row_le m hs)
theorem szBucketS_ok {rows : List (List PV)} (h : Has (.lst t_BucketS) (.lst rows)) {left : Int} (h0 : 0 ≤ left) (h1 : left ≤ 1048576) : callL Ph ext 163 [vlst rows, vint .i64 left] = some (vint .i64 (less left (sz (.lst rows)))) := by
  obtain ⟨hl, hr⟩ := Has_rows h
  exact szS_ok (Φ := Ph) (ext := ext) (k := 163) (z := 24) (kx := 198) rfl (fun r m => HasL_len (hr r m)) hl (fun r m => szBucket_ok (hr r m)) h0 h1
theorem eqBucketS_ok {rows : List (List PV)} (h : Has (.lst t_BucketS) (.lst rows)) : callL Ph ext 171 [vlst rows, vlst rows] = some (vbool true) := by
  obtain ⟨hl, hr⟩ := Has_rows h
  exact eqS_ok (Φ := Ph) (ext := ext) (k := 171) (z := 24) (kx := 205) rfl (fun r m => HasL_len (hr r m)) hl (fun r m => eqBucket_ok (hr r m))
theorem toStorage_ok {c0 : List (List PV)} (h0 : Has (.lst t_BucketS) (.lst c0)) (hs : szL [.lst c0] ≤ 1048576) : callL Ph ext 133 [.agg [.pv (.lst c0)]] = some (.agg [.own 24 c0]) := by
  have e0 := (toBucketS_ok (ext := ext) h0 (Nat.le_trans (szL_at (i := 0) rfl) hs))
  refine callL_fn (fn := f_laws_toStorage) rfl ?_
  simp [f_laws_toStorage, binStr, e0]
theorem toStorage_copies {r : List PV} (h : HasL t_Storage r) (hs : szL r ≤ 1048576) : Copies Ph ext 133 false r := by
  obtain ⟨p0, r1, rfl, g0, k1⟩ := HasL_cons h
  obtain rfl := HasL_nil k1
  obtain ⟨c0, rfl⟩ := Has_lst g0
  exact ⟨_, toStorage_ok g0 hs, rfl, rfl, fun h => by cases h⟩
theorem szStorage_ok {r : List PV} (h : HasL t_Storage r) : Measures Ph ext 127 r := by
  obtain ⟨p0, r1, rfl, g0, k1⟩ := HasL_cons h
  obtain rfl := HasL_nil k1
  obtain ⟨c0, rfl⟩ := Has_lst g0
  intro left h0 h1
  show callL Ph ext 127 [.agg [.pv (.lst c0)], vint .i64 left] = _
  have tot : szL [.lst c0] = sz (.lst c0) := by simp only [szL_nil0, szL_cons0, sz_int0, sz_bool0, sz_str0, Nat.add_zero, Nat.zero_add, Nat.add_assoc]
  generalize szL [.lst c0] = T at tot ⊢
  have e0 := szBucketS_ok (ext := ext) g0 (left := left) (by omega) (by omega)
  generalize hS0 : sz (.lst c0) = S0 at tot e0
  generalize q0 : less left S0 = l0 at e0
  by_cases n0 : l0 < 0
  · have n0' := less_lt' (by omega) q0 n0
    rw [less_lt (by omega)]
    refine callL_fn (fn := f_laws_szStorage) rfl ?_
    simp [f_laws_szStorage, binStr, e0, n0]
  obtain ⟨y0, z0⟩ := less_pos (by omega) q0 n0
  rw [less_ge' (n := T) (l := l0) (by omega) (by omega)]
  refine callL_fn (fn := f_laws_szStorage) rfl ?_
  simp [f_laws_szStorage, binStr, e0, n0]
theorem eqStorage_ok {r : List PV} (h : HasL t_Storage r) : callL Ph ext 139 [.agg (r.map .pv), .agg (r.map .pv)] = some (vbool true) := by
  obtain ⟨p0, r1, rfl, g0, k1⟩ := HasL_cons h
  obtain rfl := HasL_nil k1
  obtain ⟨c0, rfl⟩ := Has_lst g0
  show callL Ph ext 139 [.agg [.pv (.lst c0)], .agg [.pv (.lst c0)]] = _
  have e0 := eqBucketS_ok (ext := ext) g0
  refine callL_fn (fn := f_laws_eqStorage) rfl ?_
  simp [f_laws_eqStorage, binStr, e0]
theorem toPageS_ok {rows : List (List PV)} (h : Has (.lst t_PageS) (.lst rows)) (hs : sz (.lst rows) ≤ 1048576) : callL Ph ext 134 [vlst rows] = some (.one (.own 11 rows)) := by
  obtain ⟨hl, hr⟩ := Has_rows h
  have hn : rows.length ≤ 1048576 := Nat.le_trans (Nat.le_add_right _ _) hs
  refine toS_ok (Φ := Ph) (ext := ext) (k := 134) (bytes := 144) (z := 11) (kx := 12) (zero := [(.int .i64 0), (.str []), (.str []), (.int .i64 0), (.lst []), (.lst []), (.int .i64 0), (.lst []), (.int .i64 0), (.bool false), (.bool false)]) (fl := false) rfl (fun r m => HasL_len (hr r m)) (by decide) rfl hl (by omega) (fun r m => ?_)
  exact toPage_copies (hr r m) (row_le m hs)
theorem szPageS_ok {rows : List (List PV)} (h : Has (.lst t_PageS) (.lst rows)) {left : Int} (h0 : 0 ≤ left) (h1 : left ≤ 1048576) : callL Ph ext 128 [vlst rows, vint .i64 left] = some (vint .i64 (less left (sz (.lst rows)))) := by
  obtain ⟨hl, hr⟩ := Has_rows h
  exact szS_ok (Φ := Ph) (ext := ext) (k := 128) (z := 11) (kx := 10) rfl (fun r m => HasL_len (hr r m)) hl (fun r m => szPage_ok (hr r m)) h0 h1
theorem eqPageS_ok {rows : List (List PV)} (h : Has (.lst t_PageS) (.lst rows)) : callL Ph ext 140 [vlst rows, vlst rows] = some (vbool true) := by
  obtain ⟨hl, hr⟩ := Has_rows h
  exact eqS_ok (Φ := Ph) (ext := ext) (k := 140) (z := 11) (kx := 14) rfl (fun r m => HasL_len (hr r m)) hl (fun r m => eqPage_ok (hr r m))
theorem toLock_ok {c0 : List UInt8} {c1 : Int} {c2 : Bool} {c3 : Bool} (h0 : Has (.str) (.str c0)) (h1 : Has (.int .i64) (.int .i64 c1)) (h2 : Has (.bool) (.bool c2)) (h3 : Has (.bool) (.bool c3)) (hs : szL [.str c0, .int .i64 c1, .bool c2, .bool c3] ≤ 1048576) : callL Ph ext 202 [.agg [.pv (.str c0), .pv (.int .i64 c1), .pv (.bool c2), .pv (.bool c3)]] = some (.agg [.pv (.str c0), .pv (.int .i64 c1), .pv (.bool c2), .pv (.bool c3)]) := by
  refine callL_fn (fn := f_laws_toLock) rfl ?_
  simp [f_laws_toLock, binStr]
theorem toLock_copies {r : List PV} (h : HasL t_Lock r) (hs : szL r ≤ 1048576) : Copies Ph ext 202 true r := by
  obtain ⟨p0, r1, rfl, g0, k1⟩ := HasL_cons h
  obtain ⟨p1, r2, rfl, g1, k2⟩ := HasL_cons k1
  obtain ⟨p2, r3, rfl, g2, k3⟩ := HasL_cons k2
  obtain ⟨p3, r4, rfl, g3, k4⟩ := HasL_cons k3
  obtain rfl := HasL_nil k4
  obtain ⟨c0, rfl⟩ := Has_str g0
  obtain ⟨c1, rfl⟩ := Has_int g1
  obtain ⟨c2, rfl⟩ := Has_bool g2
  obtain ⟨c3, rfl⟩ := Has_bool g3
  exact ⟨_, toLock_ok g0 g1 g2 g3 hs, rfl, rfl, fun _ => ⟨rfl, rfl⟩⟩
theorem szLock_ok {r : List PV} (h : HasL t_Lock r) : Measures Ph ext 199 r := by
  obtain ⟨p0, r1, rfl, g0, k1⟩ := HasL_cons h
  obtain ⟨p1, r2, rfl, g1, k2⟩ := HasL_cons k1
  obtain ⟨p2, r3, rfl, g2, k3⟩ := HasL_cons k2
  obtain ⟨p3, r4, rfl, g3, k4⟩ := HasL_cons k3
  obtain rfl := HasL_nil k4
  obtain ⟨c0, rfl⟩ := Has_str g0
  obtain ⟨c1, rfl⟩ := Has_int g1
  obtain ⟨c2, rfl⟩ := Has_bool g2
  obtain ⟨c3, rfl⟩ := Has_bool g3
  intro left h0 h1
  show callL Ph ext 199 [.agg [.pv (.str c0), .pv (.int .i64 c1), .pv (.bool c2), .pv (.bool c3)], vint .i64 left] = _
  have tot : szL [.str c0, .int .i64 c1, .bool c2, .bool c3] = c0.length := by simp only [szL_nil0, szL_cons0, sz_int0, sz_bool0, sz_str0, Nat.add_zero, Nat.zero_add, Nat.add_assoc]
  generalize szL [.str c0, .int .i64 c1, .bool c2, .bool c3] = T at tot ⊢
  have b0 : c0.length ≤ maxLen := g0
  unfold maxLen at b0
  obtain ⟨l0, q0⟩ : ∃ x : Int, x = left - c0.length := ⟨_, rfl⟩
  have e0 : IntKind.i64.wrap (left - (c0.length : Int)) = l0 := by rw [q0, IntKind.wrap_i64]; omega
  by_cases n0 : l0 < 0
  · rw [less_lt (by omega)]
    refine callL_fn (fn := f_laws_szLock) rfl ?_
    simp [f_laws_szLock, binStr, e0, n0]
  rw [less_ge' (n := T) (l := l0) (by omega) (by omega)]
  refine callL_fn (fn := f_laws_szLock) rfl ?_
  simp [f_laws_szLock, binStr, e0, n0]
theorem eqLock_ok {r : List PV} (h : HasL t_Lock r) : callL Ph ext 206 [.agg (r.map .pv), .agg (r.map .pv)] = some (vbool true) := by
  obtain ⟨p0, r1, rfl, g0, k1⟩ := HasL_cons h
  obtain ⟨p1, r2, rfl, g1, k2⟩ := HasL_cons k1
  obtain ⟨p2, r3, rfl, g2, k3⟩ := HasL_cons k2
  obtain ⟨p3, r4, rfl, g3, k4⟩ := HasL_cons k3
  obtain rfl := HasL_nil k4
  obtain ⟨c0, rfl⟩ := Has_str g0
  obtain ⟨c1, rfl⟩ := Has_int g1
  obtain ⟨c2, rfl⟩ := Has_bool g2
  obtain ⟨c3, rfl⟩ := Has_bool g3
  show callL Ph ext 206 [.agg [.pv (.str c0), .pv (.int .i64 c1), .pv (.bool c2), .pv (.bool c3)], .agg [.pv (.str c0), .pv (.int .i64 c1), .pv (.bool c2), .pv (.bool c3)]] = _
  refine callL_fn (fn := f_laws_eqLock) rfl ?_
  simp [f_laws_eqLock, binStr]
theorem toLockS_ok {rows : List (List PV)} (h : Has (.lst t_LockS) (.lst rows)) (hs : sz (.lst rows) ≤ 1048576) : callL Ph ext 168 [vlst rows] = some (.one (.own 4 rows)) := by
  obtain ⟨hl, hr⟩ := Has_rows h
  have hn : rows.length ≤ 1048576 := Nat.le_trans (Nat.le_add_right _ _) hs
  refine toS_ok (Φ := Ph) (ext := ext) (k := 168) (bytes := 32) (z := 4) (kx := 202) (zero := [(.str []), (.int .i64 0), (.bool false), (.bool false)]) (fl := true) rfl (fun r m => HasL_len (hr r m)) (by decide) rfl hl (by omega) (fun r m => ?_)
  exact toLock_copies (hr r m) (row_le m hs)
theorem szLockS_ok {rows : List (List PV)} (h : Has (.lst t_LockS) (.lst rows)) {left : Int} (h0 : 0 ≤ left) (h1 : left ≤ 1048576) : callL Ph ext 164 [vlst rows, vint .i64 left] = some (vint .i64 (less left (sz (.lst rows)))) := by
  obtain ⟨hl, hr⟩ := Has_rows h
  exact szS_ok (Φ := Ph) (ext := ext) (k := 164) (z := 4) (kx := 199) rfl (fun r m => HasL_len (hr r m)) hl (fun r m => szLock_ok (hr r m)) h0 h1
theorem eqLockS_ok {rows : List (List PV)} (h : Has (.lst t_LockS) (.lst rows)) : callL Ph ext 172 [vlst rows, vlst rows] = some (vbool true) := by
  obtain ⟨hl, hr⟩ := Has_rows h
  exact eqS_ok (Φ := Ph) (ext := ext) (k := 172) (z := 4) (kx := 206) rfl (fun r m => HasL_len (hr r m)) hl (fun r m => eqLock_ok (hr r m))
theorem toLockTable_ok {c0 : List (List PV)} (h0 : Has (.lst t_LockS) (.lst c0)) (hs : szL [.lst c0] ≤ 1048576) : callL Ph ext 135 [.agg [.pv (.lst c0)]] = some (.agg [.own 4 c0]) := by
  have e0 := (toLockS_ok (ext := ext) h0 (Nat.le_trans (szL_at (i := 0) rfl) hs))
  refine callL_fn (fn := f_laws_toLockTable) rfl ?_
  simp [f_laws_toLockTable, binStr, e0]
theorem toLockTable_copies {r : List PV} (h : HasL t_LockTable r) (hs : szL r ≤ 1048576) : Copies Ph ext 135 false r := by
  obtain ⟨p0, r1, rfl, g0, k1⟩ := HasL_cons h
  obtain rfl := HasL_nil k1
  obtain ⟨c0, rfl⟩ := Has_lst g0
  exact ⟨_, toLockTable_ok g0 hs, rfl, rfl, fun h => by cases h⟩
theorem szLockTable_ok {r : List PV} (h : HasL t_LockTable r) : Measures Ph ext 129 r := by
  obtain ⟨p0, r1, rfl, g0, k1⟩ := HasL_cons h
  obtain rfl := HasL_nil k1
  obtain ⟨c0, rfl⟩ := Has_lst g0
  intro left h0 h1
  show callL Ph ext 129 [.agg [.pv (.lst c0)], vint .i64 left] = _
  have tot : szL [.lst c0] = sz (.lst c0) := by simp only [szL_nil0, szL_cons0, sz_int0, sz_bool0, sz_str0, Nat.add_zero, Nat.zero_add, Nat.add_assoc]
  generalize szL [.lst c0] = T at tot ⊢
  have e0 := szLockS_ok (ext := ext) g0 (left := left) (by omega) (by omega)
  generalize hS0 : sz (.lst c0) = S0 at tot e0
  generalize q0 : less left S0 = l0 at e0
  by_cases n0 : l0 < 0
  · have n0' := less_lt' (by omega) q0 n0
    rw [less_lt (by omega)]
    refine callL_fn (fn := f_laws_szLockTable) rfl ?_
    simp [f_laws_szLockTable, binStr, e0, n0]
  obtain ⟨y0, z0⟩ := less_pos (by omega) q0 n0
  rw [less_ge' (n := T) (l := l0) (by omega) (by omega)]
  refine callL_fn (fn := f_laws_szLockTable) rfl ?_
  simp [f_laws_szLockTable, binStr, e0, n0]
theorem eqLockTable_ok {r : List PV} (h : HasL t_LockTable r) : callL Ph ext 141 [.agg (r.map .pv), .agg (r.map .pv)] = some (vbool true) := by
  obtain ⟨p0, r1, rfl, g0, k1⟩ := HasL_cons h
  obtain rfl := HasL_nil k1
  obtain ⟨c0, rfl⟩ := Has_lst g0
  show callL Ph ext 141 [.agg [.pv (.lst c0)], .agg [.pv (.lst c0)]] = _
  have e0 := eqLockS_ok (ext := ext) g0
  refine callL_fn (fn := f_laws_eqLockTable) rfl ?_
  simp [f_laws_eqLockTable, binStr, e0]
end
end Gi
