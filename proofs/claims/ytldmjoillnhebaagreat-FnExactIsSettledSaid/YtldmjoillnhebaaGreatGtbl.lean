/- What the copying, measuring and comparing functions of the laws compute, written by program. -/
import Derived.Test.YtldmjoillnhebaaGreatGtbk
namespace Gi
open Go Go.RowKit
set_option linter.unusedVariables false
set_option linter.unusedSimpArgs false
set_option maxHeartbeats 4000000
attribute [local simp] start execL exec execOps stepO wants fop eop Opd.ev put V.cells plain loadV cut isInt isStr isBool bin binInt un asList L.view viewArgs V.view viewL done finish resultsOf resultOf comps comp giveLs giveL arrsOf V.flat L.flat setV setL storeV putAt thaw thawL freezeVs freezeLs freezeL V.mut L.mut
section
variable {ext : Nat → List V → Option V}
theorem toPage_ok {c0 : Int} {c1 : List UInt8} {c2 : List UInt8} {c3 : Int} {c4 : List (List PV)} {c5 : List (List PV)} {c6 : Int} {c7 : List (List PV)} {c8 : Int} {c9 : Bool} {c10 : Bool} (h0 : Has (.int .i64) (.int .i64 c0)) (h1 : Has (.str) (.str c1)) (h2 : Has (.str) (.str c2)) (h3 : Has (.int .i64) (.int .i64 c3)) (h4 : Has (.lst t_LoadedS) (.lst c4)) (h5 : Has (.lst t_InstrS) (.lst c5)) (h6 : Has (.int .i64) (.int .i64 c6)) (h7 : Has (.lst t_IntS) (.lst c7)) (h8 : Has (.int .i64) (.int .i64 c8)) (h9 : Has (.bool) (.bool c9)) (h10 : Has (.bool) (.bool c10)) (hs : szL [.int .i64 c0, .str c1, .str c2, .int .i64 c3, .lst c4, .lst c5, .int .i64 c6, .lst c7, .int .i64 c8, .bool c9, .bool c10] ≤ 1048576) : callL Ph ext 12 [.agg [.pv (.int .i64 c0), .pv (.str c1), .pv (.str c2), .pv (.int .i64 c3), .pv (.lst c4), .pv (.lst c5), .pv (.int .i64 c6), .pv (.lst c7), .pv (.int .i64 c8), .pv (.bool c9), .pv (.bool c10)]] = some (.agg [.pv (.int .i64 c0), .pv (.str c1), .pv (.str c2), .pv (.int .i64 c3), .own 2 c4, .own 4 c5, .pv (.int .i64 c6), .own 1 c7, .pv (.int .i64 c8), .pv (.bool c9), .pv (.bool c10)]) := by
  have e0 := (toLoadedS_ok (ext := ext) h4 (Nat.le_trans (szL_at (i := 4) rfl) hs))
  have e1 := (toMachine_ok (ext := ext) h5 h6 h7 h8 h9 h10 (Nat.le_trans (szL_sub [.int .i64 c0, .str c1, .str c2, .int .i64 c3, .lst c4, .lst c5, .int .i64 c6, .lst c7, .int .i64 c8, .bool c9, .bool c10] 5 6) hs))
  refine callL_fn (fn := f_laws_toPage) rfl ?_
  simp [f_laws_toPage, binStr, e0, e1]
theorem toPage_copies {r : List PV} (h : HasL t_Page r) (hs : szL r ≤ 1048576) : Copies Ph ext 12 false r := by
  obtain ⟨p0, r1, rfl, g0, k1⟩ := HasL_cons h
  obtain ⟨p1, r2, rfl, g1, k2⟩ := HasL_cons k1
  obtain ⟨p2, r3, rfl, g2, k3⟩ := HasL_cons k2
  obtain ⟨p3, r4, rfl, g3, k4⟩ := HasL_cons k3
  obtain ⟨p4, r5, rfl, g4, k5⟩ := HasL_cons k4
  obtain ⟨p5, r6, rfl, g5, k6⟩ := HasL_cons k5
  obtain ⟨p6, r7, rfl, g6, k7⟩ := HasL_cons k6
  obtain ⟨p7, r8, rfl, g7, k8⟩ := HasL_cons k7
  obtain ⟨p8, r9, rfl, g8, k9⟩ := HasL_cons k8
  obtain ⟨p9, r10, rfl, g9, k10⟩ := HasL_cons k9
  obtain ⟨p10, r11, rfl, g10, k11⟩ := HasL_cons k10
  obtain rfl := HasL_nil k11
  obtain ⟨c0, rfl⟩ := Has_int g0
  obtain ⟨c1, rfl⟩ := Has_str g1
  obtain ⟨c2, rfl⟩ := Has_str g2
  obtain ⟨c3, rfl⟩ := Has_int g3
  obtain ⟨c4, rfl⟩ := Has_lst g4
  obtain ⟨c5, rfl⟩ := Has_lst g5
  obtain ⟨c6, rfl⟩ := Has_int g6
  obtain ⟨c7, rfl⟩ := Has_lst g7
  obtain ⟨c8, rfl⟩ := Has_int g8
  obtain ⟨c9, rfl⟩ := Has_bool g9
  obtain ⟨c10, rfl⟩ := Has_bool g10
  exact ⟨_, toPage_ok g0 g1 g2 g3 g4 g5 g6 g7 g8 g9 g10 hs, rfl, rfl, fun h => by cases h⟩
theorem szPage_ok {r : List PV} (h : HasL t_Page r) : Measures Ph ext 10 r := by
  obtain ⟨p0, r1, rfl, g0, k1⟩ := HasL_cons h
  obtain ⟨p1, r2, rfl, g1, k2⟩ := HasL_cons k1
  obtain ⟨p2, r3, rfl, g2, k3⟩ := HasL_cons k2
  obtain ⟨p3, r4, rfl, g3, k4⟩ := HasL_cons k3
  obtain ⟨p4, r5, rfl, g4, k5⟩ := HasL_cons k4
  obtain ⟨p5, r6, rfl, g5, k6⟩ := HasL_cons k5
  obtain ⟨p6, r7, rfl, g6, k7⟩ := HasL_cons k6
  obtain ⟨p7, r8, rfl, g7, k8⟩ := HasL_cons k7
  obtain ⟨p8, r9, rfl, g8, k9⟩ := HasL_cons k8
  obtain ⟨p9, r10, rfl, g9, k10⟩ := HasL_cons k9
  obtain ⟨p10, r11, rfl, g10, k11⟩ := HasL_cons k10
  obtain rfl := HasL_nil k11
  obtain ⟨c0, rfl⟩ := Has_int g0
  obtain ⟨c1, rfl⟩ := Has_str g1
  obtain ⟨c2, rfl⟩ := Has_str g2
  obtain ⟨c3, rfl⟩ := Has_int g3
  obtain ⟨c4, rfl⟩ := Has_lst g4
  obtain ⟨c5, rfl⟩ := Has_lst g5
  obtain ⟨c6, rfl⟩ := Has_int g6
  obtain ⟨c7, rfl⟩ := Has_lst g7
  obtain ⟨c8, rfl⟩ := Has_int g8
  obtain ⟨c9, rfl⟩ := Has_bool g9
  obtain ⟨c10, rfl⟩ := Has_bool g10
  intro left h0 h1
  show callL Ph ext 10 [.agg [.pv (.int .i64 c0), .pv (.str c1), .pv (.str c2), .pv (.int .i64 c3), .pv (.lst c4), .pv (.lst c5), .pv (.int .i64 c6), .pv (.lst c7), .pv (.int .i64 c8), .pv (.bool c9), .pv (.bool c10)], vint .i64 left] = _
  have tot : szL [.int .i64 c0, .str c1, .str c2, .int .i64 c3, .lst c4, .lst c5, .int .i64 c6, .lst c7, .int .i64 c8, .bool c9, .bool c10] = c1.length + (c2.length + (sz (.lst c4) + (szL [.lst c5, .int .i64 c6, .lst c7, .int .i64 c8, .bool c9, .bool c10]))) := by simp only [szL_nil0, szL_cons0, sz_int0, sz_bool0, sz_str0, Nat.add_zero, Nat.zero_add, Nat.add_assoc]
  generalize szL [.int .i64 c0, .str c1, .str c2, .int .i64 c3, .lst c4, .lst c5, .int .i64 c6, .lst c7, .int .i64 c8, .bool c9, .bool c10] = T at tot ⊢
  have b0 : c1.length ≤ maxLen := g1
  unfold maxLen at b0
  obtain ⟨l0, q0⟩ : ∃ x : Int, x = left - c1.length := ⟨_, rfl⟩
  have e0 : IntKind.i64.wrap (left - (c1.length : Int)) = l0 := by rw [q0, IntKind.wrap_i64]; omega
  by_cases n0 : l0 < 0
  · rw [less_lt (by omega)]
    refine callL_fn (fn := f_laws_szPage) rfl ?_
    simp [f_laws_szPage, binStr, e0, n0]
  have b1 : c2.length ≤ maxLen := g2
  unfold maxLen at b1
  obtain ⟨l1, q1⟩ : ∃ x : Int, x = l0 - c2.length := ⟨_, rfl⟩
  have e1 : IntKind.i64.wrap (l0 - (c2.length : Int)) = l1 := by rw [q1, IntKind.wrap_i64]; omega
  by_cases n1 : l1 < 0
  · rw [less_lt (by omega)]
    refine callL_fn (fn := f_laws_szPage) rfl ?_
    simp [f_laws_szPage, binStr, e0, e1, n0, n1]
  have e2 := szLoadedS_ok (ext := ext) g4 (left := l1) (by omega) (by omega)
  generalize hS2 : sz (.lst c4) = S2 at tot e2
  generalize q2 : less l1 S2 = l2 at e2
  by_cases n2 : l2 < 0
  · have n2' := less_lt' (by omega) q2 n2
    rw [less_lt (by omega)]
    refine callL_fn (fn := f_laws_szPage) rfl ?_
    simp [f_laws_szPage, binStr, e0, e1, e2, n0, n1, n2]
  obtain ⟨y2, z2⟩ := less_pos (by omega) q2 n2
  have e3 : callL Ph ext 41 [.agg [.pv (.lst c5), .pv (.int .i64 c6), .pv (.lst c7), .pv (.int .i64 c8), .pv (.bool c9), .pv (.bool c10)], vint .i64 l2] = some (vint .i64 (less l2 (szL [.lst c5, .int .i64 c6, .lst c7, .int .i64 c8, .bool c9, .bool c10]))) := szMachine_ok (ext := ext) (r := [.lst c5, .int .i64 c6, .lst c7, .int .i64 c8, .bool c9, .bool c10]) (⟨g5, g6, g7, g8, g9, g10, trivial⟩) l2 (by omega) (by omega)
  generalize hS3 : szL [.lst c5, .int .i64 c6, .lst c7, .int .i64 c8, .bool c9, .bool c10] = S3 at tot e3
  generalize q3 : less l2 S3 = l3 at e3
  by_cases n3 : l3 < 0
  · have n3' := less_lt' (by omega) q3 n3
    rw [less_lt (by omega)]
    refine callL_fn (fn := f_laws_szPage) rfl ?_
    simp [f_laws_szPage, binStr, e0, e1, e2, e3, n0, n1, n2, n3]
  obtain ⟨y3, z3⟩ := less_pos (by omega) q3 n3
  rw [less_ge' (n := T) (l := l3) (by omega) (by omega)]
  refine callL_fn (fn := f_laws_szPage) rfl ?_
  simp [f_laws_szPage, binStr, e0, e1, e2, e3, n0, n1, n2, n3]
theorem eqPage_ok {r : List PV} (h : HasL t_Page r) : callL Ph ext 14 [.agg (r.map .pv), .agg (r.map .pv)] = some (vbool true) := by
  obtain ⟨p0, r1, rfl, g0, k1⟩ := HasL_cons h
  obtain ⟨p1, r2, rfl, g1, k2⟩ := HasL_cons k1
  obtain ⟨p2, r3, rfl, g2, k3⟩ := HasL_cons k2
  obtain ⟨p3, r4, rfl, g3, k4⟩ := HasL_cons k3
  obtain ⟨p4, r5, rfl, g4, k5⟩ := HasL_cons k4
  obtain ⟨p5, r6, rfl, g5, k6⟩ := HasL_cons k5
  obtain ⟨p6, r7, rfl, g6, k7⟩ := HasL_cons k6
  obtain ⟨p7, r8, rfl, g7, k8⟩ := HasL_cons k7
  obtain ⟨p8, r9, rfl, g8, k9⟩ := HasL_cons k8
  obtain ⟨p9, r10, rfl, g9, k10⟩ := HasL_cons k9
  obtain ⟨p10, r11, rfl, g10, k11⟩ := HasL_cons k10
  obtain rfl := HasL_nil k11
  obtain ⟨c0, rfl⟩ := Has_int g0
  obtain ⟨c1, rfl⟩ := Has_str g1
  obtain ⟨c2, rfl⟩ := Has_str g2
  obtain ⟨c3, rfl⟩ := Has_int g3
  obtain ⟨c4, rfl⟩ := Has_lst g4
  obtain ⟨c5, rfl⟩ := Has_lst g5
  obtain ⟨c6, rfl⟩ := Has_int g6
  obtain ⟨c7, rfl⟩ := Has_lst g7
  obtain ⟨c8, rfl⟩ := Has_int g8
  obtain ⟨c9, rfl⟩ := Has_bool g9
  obtain ⟨c10, rfl⟩ := Has_bool g10
  show callL Ph ext 14 [.agg [.pv (.int .i64 c0), .pv (.str c1), .pv (.str c2), .pv (.int .i64 c3), .pv (.lst c4), .pv (.lst c5), .pv (.int .i64 c6), .pv (.lst c7), .pv (.int .i64 c8), .pv (.bool c9), .pv (.bool c10)], .agg [.pv (.int .i64 c0), .pv (.str c1), .pv (.str c2), .pv (.int .i64 c3), .pv (.lst c4), .pv (.lst c5), .pv (.int .i64 c6), .pv (.lst c7), .pv (.int .i64 c8), .pv (.bool c9), .pv (.bool c10)]] = _
  have e0 := eqLoadedS_ok (ext := ext) g4
  have e1 : callL Ph ext 45 [.agg [.pv (.lst c5), .pv (.int .i64 c6), .pv (.lst c7), .pv (.int .i64 c8), .pv (.bool c9), .pv (.bool c10)], .agg [.pv (.lst c5), .pv (.int .i64 c6), .pv (.lst c7), .pv (.int .i64 c8), .pv (.bool c9), .pv (.bool c10)]] = some (vbool true) := eqMachine_ok (ext := ext) (r := [.lst c5, .int .i64 c6, .lst c7, .int .i64 c8, .bool c9, .bool c10]) (⟨g5, g6, g7, g8, g9, g10, trivial⟩)
  refine callL_fn (fn := f_laws_eqPage) rfl ?_
  simp [f_laws_eqPage, binStr, e0, e1]
theorem toItemS_ok {rows : List (List PV)} (h : Has (.lst t_ItemS) (.lst rows)) (hs : sz (.lst rows) ≤ 1048576) : callL Ph ext 53 [vlst rows] = some (.one (.own 4 rows)) := by
  obtain ⟨hl, hr⟩ := Has_rows h
  have hn : rows.length ≤ 1048576 := Nat.le_trans (Nat.le_add_right _ _) hs
  refine toS_ok (Φ := Ph) (ext := ext) (k := 53) (bytes := 56) (z := 4) (kx := 7) (zero := [(.int .i64 0), (.int .i64 0), (.str []), (.lst [])]) (fl := false) rfl (fun r m => HasL_len (hr r m)) (by decide) rfl hl (by omega) (fun r m => ?_)
  exact toItem_copies (hr r m) (row_le m hs)
theorem szItemS_ok {rows : List (List PV)} (h : Has (.lst t_ItemS) (.lst rows)) {left : Int} (h0 : 0 ≤ left) (h1 : left ≤ 1048576) : callL Ph ext 52 [vlst rows, vint .i64 left] = some (vint .i64 (less left (sz (.lst rows)))) := by
  obtain ⟨hl, hr⟩ := Has_rows h
  exact szS_ok (Φ := Ph) (ext := ext) (k := 52) (z := 4) (kx := 5) rfl (fun r m => HasL_len (hr r m)) hl (fun r m => szItem_ok (hr r m)) h0 h1
theorem eqItemS_ok {rows : List (List PV)} (h : Has (.lst t_ItemS) (.lst rows)) : callL Ph ext 55 [vlst rows, vlst rows] = some (vbool true) := by
  obtain ⟨hl, hr⟩ := Has_rows h
  exact eqS_ok (Φ := Ph) (ext := ext) (k := 55) (z := 4) (kx := 9) rfl (fun r m => HasL_len (hr r m)) hl (fun r m => eqItem_ok (hr r m))
theorem toStore_ok {c0 : List UInt8} {c1 : List (List PV)} {c2 : Int} (h0 : Has (.str) (.str c0)) (h1 : Has (.lst t_ItemS) (.lst c1)) (h2 : Has (.int .i64) (.int .i64 c2)) (hs : szL [.str c0, .lst c1, .int .i64 c2] ≤ 1048576) : callL Ph ext 22 [.agg [.pv (.str c0), .pv (.lst c1), .pv (.int .i64 c2)]] = some (.agg [.pv (.str c0), .own 4 c1, .pv (.int .i64 c2)]) := by
  have e0 := (toItemS_ok (ext := ext) h1 (Nat.le_trans (szL_at (i := 1) rfl) hs))
  refine callL_fn (fn := f_laws_toStore) rfl ?_
  simp [f_laws_toStore, binStr, e0]
theorem toStore_copies {r : List PV} (h : HasL t_Store r) (hs : szL r ≤ 1048576) : Copies Ph ext 22 false r := by
  obtain ⟨p0, r1, rfl, g0, k1⟩ := HasL_cons h
  obtain ⟨p1, r2, rfl, g1, k2⟩ := HasL_cons k1
  obtain ⟨p2, r3, rfl, g2, k3⟩ := HasL_cons k2
  obtain rfl := HasL_nil k3
  obtain ⟨c0, rfl⟩ := Has_str g0
  obtain ⟨c1, rfl⟩ := Has_lst g1
  obtain ⟨c2, rfl⟩ := Has_int g2
  exact ⟨_, toStore_ok g0 g1 g2 hs, rfl, rfl, fun h => by cases h⟩
theorem szStore_ok {r : List PV} (h : HasL t_Store r) : Measures Ph ext 20 r := by
  obtain ⟨p0, r1, rfl, g0, k1⟩ := HasL_cons h
  obtain ⟨p1, r2, rfl, g1, k2⟩ := HasL_cons k1
  obtain ⟨p2, r3, rfl, g2, k3⟩ := HasL_cons k2
  obtain rfl := HasL_nil k3
  obtain ⟨c0, rfl⟩ := Has_str g0
  obtain ⟨c1, rfl⟩ := Has_lst g1
  obtain ⟨c2, rfl⟩ := Has_int g2
  intro left h0 h1
  show callL Ph ext 20 [.agg [.pv (.str c0), .pv (.lst c1), .pv (.int .i64 c2)], vint .i64 left] = _
  have tot : szL [.str c0, .lst c1, .int .i64 c2] = c0.length + (sz (.lst c1)) := by simp only [szL_nil0, szL_cons0, sz_int0, sz_bool0, sz_str0, Nat.add_zero, Nat.zero_add, Nat.add_assoc]
  generalize szL [.str c0, .lst c1, .int .i64 c2] = T at tot ⊢
  have b0 : c0.length ≤ maxLen := g0
  unfold maxLen at b0
  obtain ⟨l0, q0⟩ : ∃ x : Int, x = left - c0.length := ⟨_, rfl⟩
  have e0 : IntKind.i64.wrap (left - (c0.length : Int)) = l0 := by rw [q0, IntKind.wrap_i64]; omega
  by_cases n0 : l0 < 0
  · rw [less_lt (by omega)]
    refine callL_fn (fn := f_laws_szStore) rfl ?_
    simp [f_laws_szStore, binStr, e0, n0]
  have e1 := szItemS_ok (ext := ext) g1 (left := l0) (by omega) (by omega)
  generalize hS1 : sz (.lst c1) = S1 at tot e1
  generalize q1 : less l0 S1 = l1 at e1
  by_cases n1 : l1 < 0
  · have n1' := less_lt' (by omega) q1 n1
    rw [less_lt (by omega)]
    refine callL_fn (fn := f_laws_szStore) rfl ?_
    simp [f_laws_szStore, binStr, e0, e1, n0, n1]
  obtain ⟨y1, z1⟩ := less_pos (by omega) q1 n1
  rw [less_ge' (n := T) (l := l1) (by omega) (by omega)]
  refine callL_fn (fn := f_laws_szStore) rfl ?_
  simp [f_laws_szStore, binStr, e0, e1, n0, n1]
theorem eqStore_ok {r : List PV} (h : HasL t_Store r) : callL Ph ext 24 [.agg (r.map .pv), .agg (r.map .pv)] = some (vbool true) := by
  obtain ⟨p0, r1, rfl, g0, k1⟩ := HasL_cons h
  obtain ⟨p1, r2, rfl, g1, k2⟩ := HasL_cons k1
  obtain ⟨p2, r3, rfl, g2, k3⟩ := HasL_cons k2
  obtain rfl := HasL_nil k3
  obtain ⟨c0, rfl⟩ := Has_str g0
  obtain ⟨c1, rfl⟩ := Has_lst g1
  obtain ⟨c2, rfl⟩ := Has_int g2
  show callL Ph ext 24 [.agg [.pv (.str c0), .pv (.lst c1), .pv (.int .i64 c2)], .agg [.pv (.str c0), .pv (.lst c1), .pv (.int .i64 c2)]] = _
  have e0 := eqItemS_ok (ext := ext) g1
  refine callL_fn (fn := f_laws_eqStore) rfl ?_
  simp [f_laws_eqStore, binStr, e0]
theorem toApplied_ok {c0 : Int} {c1 : Int} (h0 : Has (.int .i64) (.int .i64 c0)) (h1 : Has (.int .i64) (.int .i64 c1)) (hs : szL [.int .i64 c0, .int .i64 c1] ≤ 1048576) : callL Ph ext 80 [.agg [.pv (.int .i64 c0), .pv (.int .i64 c1)]] = some (.agg [.pv (.int .i64 c0), .pv (.int .i64 c1)]) := by
  refine callL_fn (fn := f_laws_toApplied) rfl ?_
  simp [f_laws_toApplied, binStr]
theorem toApplied_copies {r : List PV} (h : HasL t_Applied r) (hs : szL r ≤ 1048576) : Copies Ph ext 80 true r := by
  obtain ⟨p0, r1, rfl, g0, k1⟩ := HasL_cons h
  obtain ⟨p1, r2, rfl, g1, k2⟩ := HasL_cons k1
  obtain rfl := HasL_nil k2
  obtain ⟨c0, rfl⟩ := Has_int g0
  obtain ⟨c1, rfl⟩ := Has_int g1
  exact ⟨_, toApplied_ok g0 g1 hs, rfl, rfl, fun _ => ⟨rfl, rfl⟩⟩
theorem eqApplied_ok {r : List PV} (h : HasL t_Applied r) : callL Ph ext 82 [.agg (r.map .pv), .agg (r.map .pv)] = some (vbool true) := by
  obtain ⟨p0, r1, rfl, g0, k1⟩ := HasL_cons h
  obtain ⟨p1, r2, rfl, g1, k2⟩ := HasL_cons k1
  obtain rfl := HasL_nil k2
  obtain ⟨c0, rfl⟩ := Has_int g0
  obtain ⟨c1, rfl⟩ := Has_int g1
  show callL Ph ext 82 [.agg [.pv (.int .i64 c0), .pv (.int .i64 c1)], .agg [.pv (.int .i64 c0), .pv (.int .i64 c1)]] = _
  refine callL_fn (fn := f_laws_eqApplied) rfl ?_
  simp [f_laws_eqApplied, binStr]
theorem toAppliedS_ok {rows : List (List PV)} (h : Has (.lst t_AppliedS) (.lst rows)) (hs : sz (.lst rows) ≤ 1048576) : callL Ph ext 48 [vlst rows] = some (.one (.own 2 rows)) := by
  obtain ⟨hl, hr⟩ := Has_rows h
  have hn : rows.length ≤ 1048576 := Nat.le_trans (Nat.le_add_right _ _) hs
  refine toS_ok (Φ := Ph) (ext := ext) (k := 48) (bytes := 16) (z := 2) (kx := 80) (zero := [(.int .i64 0), (.int .i64 0)]) (fl := true) rfl (fun r m => HasL_len (hr r m)) (by decide) rfl hl (by omega) (fun r m => ?_)
  exact toApplied_copies (hr r m) (row_le m hs)
theorem szAppliedS_ok {rows : List (List PV)} (h : Has (.lst t_AppliedS) (.lst rows)) {left : Int} (h0 : 0 ≤ left) (h1 : left ≤ 1048576) : callL Ph ext 46 [vlst rows, vint .i64 left] = some (vint .i64 (less left (sz (.lst rows)))) := by
  obtain ⟨hl, hr⟩ := Has_rows h
  rw [sz_lst, szRows_zero (ts := t_AppliedS) (by decide) hr]
  exact szF_ok (Φ := Ph) (ext := ext) (k := 46) rfl hl h0 h1
theorem eqAppliedS_ok {rows : List (List PV)} (h : Has (.lst t_AppliedS) (.lst rows)) : callL Ph ext 50 [vlst rows, vlst rows] = some (vbool true) := by
  obtain ⟨hl, hr⟩ := Has_rows h
  exact eqS_ok (Φ := Ph) (ext := ext) (k := 50) (z := 2) (kx := 82) rfl (fun r m => HasL_len (hr r m)) hl (fun r m => eqApplied_ok (hr r m))
theorem toWrite_ok {c0 : Int} {c1 : Int} {c2 : Int} {c3 : Int} {c4 : List UInt8} {c5 : List UInt8} {c6 : Int} (h0 : Has (.int .i64) (.int .i64 c0)) (h1 : Has (.int .i64) (.int .i64 c1)) (h2 : Has (.int .i64) (.int .i64 c2)) (h3 : Has (.int .i64) (.int .i64 c3)) (h4 : Has (.str) (.str c4)) (h5 : Has (.str) (.str c5)) (h6 : Has (.int .i64) (.int .i64 c6)) (hs : szL [.int .i64 c0, .int .i64 c1, .int .i64 c2, .int .i64 c3, .str c4, .str c5, .int .i64 c6] ≤ 1048576) : callL Ph ext 81 [.agg [.pv (.int .i64 c0), .pv (.int .i64 c1), .pv (.int .i64 c2), .pv (.int .i64 c3), .pv (.str c4), .pv (.str c5), .pv (.int .i64 c6)]] = some (.agg [.pv (.int .i64 c0), .pv (.int .i64 c1), .pv (.int .i64 c2), .pv (.int .i64 c3), .pv (.str c4), .pv (.str c5), .pv (.int .i64 c6)]) := by
  have e0 := (toKey_ok (ext := ext) h2 h3 h4 (Nat.le_trans (szL_sub [.int .i64 c0, .int .i64 c1, .int .i64 c2, .int .i64 c3, .str c4, .str c5, .int .i64 c6] 2 3) hs))
  refine callL_fn (fn := f_laws_toWrite) rfl ?_
  simp [f_laws_toWrite, binStr, e0]
theorem toWrite_copies {r : List PV} (h : HasL t_Write r) (hs : szL r ≤ 1048576) : Copies Ph ext 81 true r := by
  obtain ⟨p0, r1, rfl, g0, k1⟩ := HasL_cons h
  obtain ⟨p1, r2, rfl, g1, k2⟩ := HasL_cons k1
  obtain ⟨p2, r3, rfl, g2, k3⟩ := HasL_cons k2
  obtain ⟨p3, r4, rfl, g3, k4⟩ := HasL_cons k3
  obtain ⟨p4, r5, rfl, g4, k5⟩ := HasL_cons k4
  obtain ⟨p5, r6, rfl, g5, k6⟩ := HasL_cons k5
  obtain ⟨p6, r7, rfl, g6, k7⟩ := HasL_cons k6
  obtain rfl := HasL_nil k7
  obtain ⟨c0, rfl⟩ := Has_int g0
  obtain ⟨c1, rfl⟩ := Has_int g1
  obtain ⟨c2, rfl⟩ := Has_int g2
  obtain ⟨c3, rfl⟩ := Has_int g3
  obtain ⟨c4, rfl⟩ := Has_str g4
  obtain ⟨c5, rfl⟩ := Has_str g5
  obtain ⟨c6, rfl⟩ := Has_int g6
  exact ⟨_, toWrite_ok g0 g1 g2 g3 g4 g5 g6 hs, rfl, rfl, fun _ => ⟨rfl, rfl⟩⟩
theorem szWrite_ok {r : List PV} (h : HasL t_Write r) : Measures Ph ext 79 r := by
  obtain ⟨p0, r1, rfl, g0, k1⟩ := HasL_cons h
  obtain ⟨p1, r2, rfl, g1, k2⟩ := HasL_cons k1
  obtain ⟨p2, r3, rfl, g2, k3⟩ := HasL_cons k2
  obtain ⟨p3, r4, rfl, g3, k4⟩ := HasL_cons k3
  obtain ⟨p4, r5, rfl, g4, k5⟩ := HasL_cons k4
  obtain ⟨p5, r6, rfl, g5, k6⟩ := HasL_cons k5
  obtain ⟨p6, r7, rfl, g6, k7⟩ := HasL_cons k6
  obtain rfl := HasL_nil k7
  obtain ⟨c0, rfl⟩ := Has_int g0
  obtain ⟨c1, rfl⟩ := Has_int g1
  obtain ⟨c2, rfl⟩ := Has_int g2
  obtain ⟨c3, rfl⟩ := Has_int g3
  obtain ⟨c4, rfl⟩ := Has_str g4
  obtain ⟨c5, rfl⟩ := Has_str g5
  obtain ⟨c6, rfl⟩ := Has_int g6
  intro left h0 h1
  show callL Ph ext 79 [.agg [.pv (.int .i64 c0), .pv (.int .i64 c1), .pv (.int .i64 c2), .pv (.int .i64 c3), .pv (.str c4), .pv (.str c5), .pv (.int .i64 c6)], vint .i64 left] = _
  have tot : szL [.int .i64 c0, .int .i64 c1, .int .i64 c2, .int .i64 c3, .str c4, .str c5, .int .i64 c6] = szL [.int .i64 c2, .int .i64 c3, .str c4] + (c5.length) := by simp only [szL_nil0, szL_cons0, sz_int0, sz_bool0, sz_str0, Nat.add_zero, Nat.zero_add, Nat.add_assoc]
  generalize szL [.int .i64 c0, .int .i64 c1, .int .i64 c2, .int .i64 c3, .str c4, .str c5, .int .i64 c6] = T at tot ⊢
  have e0 : callL Ph ext 30 [.agg [.pv (.int .i64 c2), .pv (.int .i64 c3), .pv (.str c4)], vint .i64 left] = some (vint .i64 (less left (szL [.int .i64 c2, .int .i64 c3, .str c4]))) := szKey_ok (ext := ext) (r := [.int .i64 c2, .int .i64 c3, .str c4]) (⟨g2, g3, g4, trivial⟩) left (by omega) (by omega)
  generalize hS0 : szL [.int .i64 c2, .int .i64 c3, .str c4] = S0 at tot e0
  generalize q0 : less left S0 = l0 at e0
  by_cases n0 : l0 < 0
  · have n0' := less_lt' (by omega) q0 n0
    rw [less_lt (by omega)]
    refine callL_fn (fn := f_laws_szWrite) rfl ?_
    simp [f_laws_szWrite, binStr, e0, n0]
  obtain ⟨y0, z0⟩ := less_pos (by omega) q0 n0
  have b1 : c5.length ≤ maxLen := g5
  unfold maxLen at b1
  obtain ⟨l1, q1⟩ : ∃ x : Int, x = l0 - c5.length := ⟨_, rfl⟩
  have e1 : IntKind.i64.wrap (l0 - (c5.length : Int)) = l1 := by rw [q1, IntKind.wrap_i64]; omega
  by_cases n1 : l1 < 0
  · rw [less_lt (by omega)]
    refine callL_fn (fn := f_laws_szWrite) rfl ?_
    simp [f_laws_szWrite, binStr, e0, e1, n0, n1]
  rw [less_ge' (n := T) (l := l1) (by omega) (by omega)]
  refine callL_fn (fn := f_laws_szWrite) rfl ?_
  simp [f_laws_szWrite, binStr, e0, e1, n0, n1]
theorem eqWrite_ok {r : List PV} (h : HasL t_Write r) : callL Ph ext 83 [.agg (r.map .pv), .agg (r.map .pv)] = some (vbool true) := by
  obtain ⟨p0, r1, rfl, g0, k1⟩ := HasL_cons h
  obtain ⟨p1, r2, rfl, g1, k2⟩ := HasL_cons k1
  obtain ⟨p2, r3, rfl, g2, k3⟩ := HasL_cons k2
  obtain ⟨p3, r4, rfl, g3, k4⟩ := HasL_cons k3
  obtain ⟨p4, r5, rfl, g4, k5⟩ := HasL_cons k4
  obtain ⟨p5, r6, rfl, g5, k6⟩ := HasL_cons k5
  obtain ⟨p6, r7, rfl, g6, k7⟩ := HasL_cons k6
  obtain rfl := HasL_nil k7
  obtain ⟨c0, rfl⟩ := Has_int g0
  obtain ⟨c1, rfl⟩ := Has_int g1
  obtain ⟨c2, rfl⟩ := Has_int g2
  obtain ⟨c3, rfl⟩ := Has_int g3
  obtain ⟨c4, rfl⟩ := Has_str g4
  obtain ⟨c5, rfl⟩ := Has_str g5
  obtain ⟨c6, rfl⟩ := Has_int g6
  show callL Ph ext 83 [.agg [.pv (.int .i64 c0), .pv (.int .i64 c1), .pv (.int .i64 c2), .pv (.int .i64 c3), .pv (.str c4), .pv (.str c5), .pv (.int .i64 c6)], .agg [.pv (.int .i64 c0), .pv (.int .i64 c1), .pv (.int .i64 c2), .pv (.int .i64 c3), .pv (.str c4), .pv (.str c5), .pv (.int .i64 c6)]] = _
  have e0 : callL Ph ext 38 [.agg [.pv (.int .i64 c2), .pv (.int .i64 c3), .pv (.str c4)], .agg [.pv (.int .i64 c2), .pv (.int .i64 c3), .pv (.str c4)]] = some (vbool true) := eqKey_ok (ext := ext) (r := [.int .i64 c2, .int .i64 c3, .str c4]) (⟨g2, g3, g4, trivial⟩)
  refine callL_fn (fn := f_laws_eqWrite) rfl ?_
  simp [f_laws_eqWrite, binStr, e0]
theorem toWriteS_ok {rows : List (List PV)} (h : Has (.lst t_WriteS) (.lst rows)) (hs : sz (.lst rows) ≤ 1048576) : callL Ph ext 49 [vlst rows] = some (.one (.own 7 rows)) := by
  obtain ⟨hl, hr⟩ := Has_rows h
  have hn : rows.length ≤ 1048576 := Nat.le_trans (Nat.le_add_right _ _) hs
  refine toS_ok (Φ := Ph) (ext := ext) (k := 49) (bytes := 72) (z := 7) (kx := 81) (zero := [(.int .i64 0), (.int .i64 0), (.int .i64 0), (.int .i64 0), (.str []), (.str []), (.int .i64 0)]) (fl := true) rfl (fun r m => HasL_len (hr r m)) (by decide) rfl hl (by omega) (fun r m => ?_)
  exact toWrite_copies (hr r m) (row_le m hs)
theorem szWriteS_ok {rows : List (List PV)} (h : Has (.lst t_WriteS) (.lst rows)) {left : Int} (h0 : 0 ≤ left) (h1 : left ≤ 1048576) : callL Ph ext 47 [vlst rows, vint .i64 left] = some (vint .i64 (less left (sz (.lst rows)))) := by
  obtain ⟨hl, hr⟩ := Has_rows h
  exact szS_ok (Φ := Ph) (ext := ext) (k := 47) (z := 7) (kx := 79) rfl (fun r m => HasL_len (hr r m)) hl (fun r m => szWrite_ok (hr r m)) h0 h1
theorem eqWriteS_ok {rows : List (List PV)} (h : Has (.lst t_WriteS) (.lst rows)) : callL Ph ext 51 [vlst rows, vlst rows] = some (vbool true) := by
  obtain ⟨hl, hr⟩ := Has_rows h
  exact eqS_ok (Φ := Ph) (ext := ext) (k := 51) (z := 7) (kx := 83) rfl (fun r m => HasL_len (hr r m)) hl (fun r m => eqWrite_ok (hr r m))
theorem toServer_ok {c0 : List UInt8} {c1 : List (List PV)} {c2 : Int} {c3 : List (List PV)} {c4 : List (List PV)} (h0 : Has (.str) (.str c0)) (h1 : Has (.lst t_ItemS) (.lst c1)) (h2 : Has (.int .i64) (.int .i64 c2)) (h3 : Has (.lst t_AppliedS) (.lst c3)) (h4 : Has (.lst t_WriteS) (.lst c4)) (hs : szL [.str c0, .lst c1, .int .i64 c2, .lst c3, .lst c4] ≤ 1048576) : callL Ph ext 17 [.agg [.pv (.str c0), .pv (.lst c1), .pv (.int .i64 c2), .pv (.lst c3), .pv (.lst c4)]] = some (.agg [.pv (.str c0), .own 4 c1, .pv (.int .i64 c2), .own 2 c3, .own 7 c4]) := by
  have e0 := (toStore_ok (ext := ext) h0 h1 h2 (Nat.le_trans (szL_sub [.str c0, .lst c1, .int .i64 c2, .lst c3, .lst c4] 0 3) hs))
  have e1 := (toAppliedS_ok (ext := ext) h3 (Nat.le_trans (szL_at (i := 3) rfl) hs))
  have e2 := (toWriteS_ok (ext := ext) h4 (Nat.le_trans (szL_at (i := 4) rfl) hs))
  refine callL_fn (fn := f_laws_toServer) rfl ?_
  simp [f_laws_toServer, binStr, e0, e1, e2]
theorem toServer_copies {r : List PV} (h : HasL t_Server r) (hs : szL r ≤ 1048576) : Copies Ph ext 17 false r := by
  obtain ⟨p0, r1, rfl, g0, k1⟩ := HasL_cons h
  obtain ⟨p1, r2, rfl, g1, k2⟩ := HasL_cons k1
  obtain ⟨p2, r3, rfl, g2, k3⟩ := HasL_cons k2
  obtain ⟨p3, r4, rfl, g3, k4⟩ := HasL_cons k3
  obtain ⟨p4, r5, rfl, g4, k5⟩ := HasL_cons k4
  obtain rfl := HasL_nil k5
  obtain ⟨c0, rfl⟩ := Has_str g0
  obtain ⟨c1, rfl⟩ := Has_lst g1
  obtain ⟨c2, rfl⟩ := Has_int g2
  obtain ⟨c3, rfl⟩ := Has_lst g3
  obtain ⟨c4, rfl⟩ := Has_lst g4
  exact ⟨_, toServer_ok g0 g1 g2 g3 g4 hs, rfl, rfl, fun h => by cases h⟩
theorem szServer_ok {r : List PV} (h : HasL t_Server r) : Measures Ph ext 15 r := by
  obtain ⟨p0, r1, rfl, g0, k1⟩ := HasL_cons h
  obtain ⟨p1, r2, rfl, g1, k2⟩ := HasL_cons k1
  obtain ⟨p2, r3, rfl, g2, k3⟩ := HasL_cons k2
  obtain ⟨p3, r4, rfl, g3, k4⟩ := HasL_cons k3
  obtain ⟨p4, r5, rfl, g4, k5⟩ := HasL_cons k4
  obtain rfl := HasL_nil k5
  obtain ⟨c0, rfl⟩ := Has_str g0
  obtain ⟨c1, rfl⟩ := Has_lst g1
  obtain ⟨c2, rfl⟩ := Has_int g2
  obtain ⟨c3, rfl⟩ := Has_lst g3
  obtain ⟨c4, rfl⟩ := Has_lst g4
  intro left h0 h1
  show callL Ph ext 15 [.agg [.pv (.str c0), .pv (.lst c1), .pv (.int .i64 c2), .pv (.lst c3), .pv (.lst c4)], vint .i64 left] = _
  have tot : szL [.str c0, .lst c1, .int .i64 c2, .lst c3, .lst c4] = szL [.str c0, .lst c1, .int .i64 c2] + (sz (.lst c3) + (sz (.lst c4))) := by simp only [szL_nil0, szL_cons0, sz_int0, sz_bool0, sz_str0, Nat.add_zero, Nat.zero_add, Nat.add_assoc]
  generalize szL [.str c0, .lst c1, .int .i64 c2, .lst c3, .lst c4] = T at tot ⊢
  have e0 : callL Ph ext 20 [.agg [.pv (.str c0), .pv (.lst c1), .pv (.int .i64 c2)], vint .i64 left] = some (vint .i64 (less left (szL [.str c0, .lst c1, .int .i64 c2]))) := szStore_ok (ext := ext) (r := [.str c0, .lst c1, .int .i64 c2]) (⟨g0, g1, g2, trivial⟩) left (by omega) (by omega)
  generalize hS0 : szL [.str c0, .lst c1, .int .i64 c2] = S0 at tot e0
  generalize q0 : less left S0 = l0 at e0
  by_cases n0 : l0 < 0
  · have n0' := less_lt' (by omega) q0 n0
    rw [less_lt (by omega)]
    refine callL_fn (fn := f_laws_szServer) rfl ?_
    simp [f_laws_szServer, binStr, e0, n0]
  obtain ⟨y0, z0⟩ := less_pos (by omega) q0 n0
  have e1 := szAppliedS_ok (ext := ext) g3 (left := l0) (by omega) (by omega)
  generalize hS1 : sz (.lst c3) = S1 at tot e1
  generalize q1 : less l0 S1 = l1 at e1
  by_cases n1 : l1 < 0
  · have n1' := less_lt' (by omega) q1 n1
    rw [less_lt (by omega)]
    refine callL_fn (fn := f_laws_szServer) rfl ?_
    simp [f_laws_szServer, binStr, e0, e1, n0, n1]
  obtain ⟨y1, z1⟩ := less_pos (by omega) q1 n1
  have e2 := szWriteS_ok (ext := ext) g4 (left := l1) (by omega) (by omega)
  generalize hS2 : sz (.lst c4) = S2 at tot e2
  generalize q2 : less l1 S2 = l2 at e2
  by_cases n2 : l2 < 0
  · have n2' := less_lt' (by omega) q2 n2
    rw [less_lt (by omega)]
    refine callL_fn (fn := f_laws_szServer) rfl ?_
    simp [f_laws_szServer, binStr, e0, e1, e2, n0, n1, n2]
  obtain ⟨y2, z2⟩ := less_pos (by omega) q2 n2
  rw [less_ge' (n := T) (l := l2) (by omega) (by omega)]
  refine callL_fn (fn := f_laws_szServer) rfl ?_
  simp [f_laws_szServer, binStr, e0, e1, e2, n0, n1, n2]
theorem eqServer_ok {r : List PV} (h : HasL t_Server r) : callL Ph ext 19 [.agg (r.map .pv), .agg (r.map .pv)] = some (vbool true) := by
  obtain ⟨p0, r1, rfl, g0, k1⟩ := HasL_cons h
  obtain ⟨p1, r2, rfl, g1, k2⟩ := HasL_cons k1
  obtain ⟨p2, r3, rfl, g2, k3⟩ := HasL_cons k2
  obtain ⟨p3, r4, rfl, g3, k4⟩ := HasL_cons k3
  obtain ⟨p4, r5, rfl, g4, k5⟩ := HasL_cons k4
  obtain rfl := HasL_nil k5
  obtain ⟨c0, rfl⟩ := Has_str g0
  obtain ⟨c1, rfl⟩ := Has_lst g1
  obtain ⟨c2, rfl⟩ := Has_int g2
  obtain ⟨c3, rfl⟩ := Has_lst g3
  obtain ⟨c4, rfl⟩ := Has_lst g4
  show callL Ph ext 19 [.agg [.pv (.str c0), .pv (.lst c1), .pv (.int .i64 c2), .pv (.lst c3), .pv (.lst c4)], .agg [.pv (.str c0), .pv (.lst c1), .pv (.int .i64 c2), .pv (.lst c3), .pv (.lst c4)]] = _
  have e0 : callL Ph ext 24 [.agg [.pv (.str c0), .pv (.lst c1), .pv (.int .i64 c2)], .agg [.pv (.str c0), .pv (.lst c1), .pv (.int .i64 c2)]] = some (vbool true) := eqStore_ok (ext := ext) (r := [.str c0, .lst c1, .int .i64 c2]) (⟨g0, g1, g2, trivial⟩)
  have e1 := eqAppliedS_ok (ext := ext) g3
  have e2 := eqWriteS_ok (ext := ext) g4
  refine callL_fn (fn := f_laws_eqServer) rfl ?_
  simp [f_laws_eqServer, binStr, e0, e1, e2]
end
end Gi
