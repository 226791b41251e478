/- What the copying, measuring and comparing functions of the laws compute, written by program. -/
import Derived.Test.YtldmjoillnhebaaGreatGtbl
namespace Gi
open Go Go.RowKit
set_option linter.unusedVariables false
set_option linter.unusedSimpArgs false
set_option maxHeartbeats 4000000
attribute [local simp] start execL exec execOps stepO wants fop eop Opd.ev put V.cells plain loadV cut isInt isStr isBool bin binInt un asList L.view viewArgs V.view viewL done finish resultsOf resultOf comps comp giveLs giveL arrsOf V.flat L.flat setV setL storeV putAt thaw thawL freezeVs freezeLs freezeL V.mut L.mut
section
variable {ext : Nat → List V → Option V}
theorem toStoreS_ok {rows : List (List PV)} (h : Has (.lst t_StoreS) (.lst rows)) (hs : sz (.lst rows) ≤ 1048576) : callL Ph ext 60 [vlst rows] = some (.one (.own 3 rows)) := by
  obtain ⟨hl, hr⟩ := Has_rows h
  have hn : rows.length ≤ 1048576 := Nat.le_trans (Nat.le_add_right _ _) hs
  refine toS_ok (Φ := Ph) (ext := ext) (k := 60) (bytes := 48) (z := 3) (kx := 22) (zero := [(.str []), (.lst []), (.int .i64 0)]) (fl := false) rfl (fun r m => HasL_len (hr r m)) (by decide) rfl hl (by omega) (fun r m => ?_)
  exact toStore_copies (hr r m) (row_le m hs)
theorem szStoreS_ok {rows : List (List PV)} (h : Has (.lst t_StoreS) (.lst rows)) {left : Int} (h0 : 0 ≤ left) (h1 : left ≤ 1048576) : callL Ph ext 57 [vlst rows, vint .i64 left] = some (vint .i64 (less left (sz (.lst rows)))) := by
  obtain ⟨hl, hr⟩ := Has_rows h
  exact szS_ok (Φ := Ph) (ext := ext) (k := 57) (z := 3) (kx := 20) rfl (fun r m => HasL_len (hr r m)) hl (fun r m => szStore_ok (hr r m)) h0 h1
theorem eqStoreS_ok {rows : List (List PV)} (h : Has (.lst t_StoreS) (.lst rows)) : callL Ph ext 63 [vlst rows, vlst rows] = some (vbool true) := by
  obtain ⟨hl, hr⟩ := Has_rows h
  exact eqS_ok (Φ := Ph) (ext := ext) (k := 63) (z := 3) (kx := 24) rfl (fun r m => HasL_len (hr r m)) hl (fun r m => eqStore_ok (hr r m))
theorem toOp_ok {c0 : Int} {c1 : List UInt8} {c2 : Int} {c3 : Int} {c4 : List UInt8} {c5 : List (List PV)} {c6 : List UInt8} (h0 : Has (.int .i64) (.int .i64 c0)) (h1 : Has (.str) (.str c1)) (h2 : Has (.int .i64) (.int .i64 c2)) (h3 : Has (.int .i64) (.int .i64 c3)) (h4 : Has (.str) (.str c4)) (h5 : Has (.lst t_FieldS) (.lst c5)) (h6 : Has (.str) (.str c6)) (hs : szL [.int .i64 c0, .str c1, .int .i64 c2, .int .i64 c3, .str c4, .lst c5, .str c6] ≤ 1048576) : callL Ph ext 85 [.agg [.pv (.int .i64 c0), .pv (.str c1), .pv (.int .i64 c2), .pv (.int .i64 c3), .pv (.str c4), .pv (.lst c5), .pv (.str c6)]] = some (.agg [.pv (.int .i64 c0), .pv (.str c1), .pv (.int .i64 c2), .pv (.int .i64 c3), .pv (.str c4), .own 2 c5, .pv (.str c6)]) := by
  have e0 := (toKey_ok (ext := ext) h2 h3 h4 (Nat.le_trans (szL_sub [.int .i64 c0, .str c1, .int .i64 c2, .int .i64 c3, .str c4, .lst c5, .str c6] 2 3) hs))
  have e1 := (toRecord_ok (ext := ext) h5 (Nat.le_trans (szL_sub [.int .i64 c0, .str c1, .int .i64 c2, .int .i64 c3, .str c4, .lst c5, .str c6] 5 1) hs))
  refine callL_fn (fn := f_laws_toOp) rfl ?_
  simp [f_laws_toOp, binStr, e0, e1]
theorem toOp_copies {r : List PV} (h : HasL t_Op r) (hs : szL r ≤ 1048576) : Copies Ph ext 85 false r := by
  obtain ⟨p0, r1, rfl, g0, k1⟩ := HasL_cons h
  obtain ⟨p1, r2, rfl, g1, k2⟩ := HasL_cons k1
  obtain ⟨p2, r3, rfl, g2, k3⟩ := HasL_cons k2
  obtain ⟨p3, r4, rfl, g3, k4⟩ := HasL_cons k3
  obtain ⟨p4, r5, rfl, g4, k5⟩ := HasL_cons k4
  obtain ⟨p5, r6, rfl, g5, k6⟩ := HasL_cons k5
  obtain ⟨p6, r7, rfl, g6, k7⟩ := HasL_cons k6
  obtain rfl := HasL_nil k7
  obtain ⟨c0, rfl⟩ := Has_int g0
  obtain ⟨c1, rfl⟩ := Has_str g1
  obtain ⟨c2, rfl⟩ := Has_int g2
  obtain ⟨c3, rfl⟩ := Has_int g3
  obtain ⟨c4, rfl⟩ := Has_str g4
  obtain ⟨c5, rfl⟩ := Has_lst g5
  obtain ⟨c6, rfl⟩ := Has_str g6
  exact ⟨_, toOp_ok g0 g1 g2 g3 g4 g5 g6 hs, rfl, rfl, fun h => by cases h⟩
theorem szOp_ok {r : List PV} (h : HasL t_Op r) : Measures Ph ext 84 r := by
  obtain ⟨p0, r1, rfl, g0, k1⟩ := HasL_cons h
  obtain ⟨p1, r2, rfl, g1, k2⟩ := HasL_cons k1
  obtain ⟨p2, r3, rfl, g2, k3⟩ := HasL_cons k2
  obtain ⟨p3, r4, rfl, g3, k4⟩ := HasL_cons k3
  obtain ⟨p4, r5, rfl, g4, k5⟩ := HasL_cons k4
  obtain ⟨p5, r6, rfl, g5, k6⟩ := HasL_cons k5
  obtain ⟨p6, r7, rfl, g6, k7⟩ := HasL_cons k6
  obtain rfl := HasL_nil k7
  obtain ⟨c0, rfl⟩ := Has_int g0
  obtain ⟨c1, rfl⟩ := Has_str g1
  obtain ⟨c2, rfl⟩ := Has_int g2
  obtain ⟨c3, rfl⟩ := Has_int g3
  obtain ⟨c4, rfl⟩ := Has_str g4
  obtain ⟨c5, rfl⟩ := Has_lst g5
  obtain ⟨c6, rfl⟩ := Has_str g6
  intro left h0 h1
  show callL Ph ext 84 [.agg [.pv (.int .i64 c0), .pv (.str c1), .pv (.int .i64 c2), .pv (.int .i64 c3), .pv (.str c4), .pv (.lst c5), .pv (.str c6)], vint .i64 left] = _
  have tot : szL [.int .i64 c0, .str c1, .int .i64 c2, .int .i64 c3, .str c4, .lst c5, .str c6] = c1.length + (szL [.int .i64 c2, .int .i64 c3, .str c4] + (szL [.lst c5] + (c6.length))) := by simp only [szL_nil0, szL_cons0, sz_int0, sz_bool0, sz_str0, Nat.add_zero, Nat.zero_add, Nat.add_assoc]
  generalize szL [.int .i64 c0, .str c1, .int .i64 c2, .int .i64 c3, .str c4, .lst c5, .str c6] = T at tot ⊢
  have b0 : c1.length ≤ maxLen := g1
  unfold maxLen at b0
  obtain ⟨l0, q0⟩ : ∃ x : Int, x = left - c1.length := ⟨_, rfl⟩
  have e0 : IntKind.i64.wrap (left - (c1.length : Int)) = l0 := by rw [q0, IntKind.wrap_i64]; omega
  by_cases n0 : l0 < 0
  · rw [less_lt (by omega)]
    refine callL_fn (fn := f_laws_szOp) rfl ?_
    simp [f_laws_szOp, binStr, e0, n0]
  have e1 : callL Ph ext 30 [.agg [.pv (.int .i64 c2), .pv (.int .i64 c3), .pv (.str c4)], vint .i64 l0] = some (vint .i64 (less l0 (szL [.int .i64 c2, .int .i64 c3, .str c4]))) := szKey_ok (ext := ext) (r := [.int .i64 c2, .int .i64 c3, .str c4]) (⟨g2, g3, g4, trivial⟩) l0 (by omega) (by omega)
  generalize hS1 : szL [.int .i64 c2, .int .i64 c3, .str c4] = S1 at tot e1
  generalize q1 : less l0 S1 = l1 at e1
  by_cases n1 : l1 < 0
  · have n1' := less_lt' (by omega) q1 n1
    rw [less_lt (by omega)]
    refine callL_fn (fn := f_laws_szOp) rfl ?_
    simp [f_laws_szOp, binStr, e0, e1, n0, n1]
  obtain ⟨y1, z1⟩ := less_pos (by omega) q1 n1
  have e2 : callL Ph ext 31 [.agg [.pv (.lst c5)], vint .i64 l1] = some (vint .i64 (less l1 (szL [.lst c5]))) := szRecord_ok (ext := ext) (r := [.lst c5]) (⟨g5, trivial⟩) l1 (by omega) (by omega)
  generalize hS2 : szL [.lst c5] = S2 at tot e2
  generalize q2 : less l1 S2 = l2 at e2
  by_cases n2 : l2 < 0
  · have n2' := less_lt' (by omega) q2 n2
    rw [less_lt (by omega)]
    refine callL_fn (fn := f_laws_szOp) rfl ?_
    simp [f_laws_szOp, binStr, e0, e1, e2, n0, n1, n2]
  obtain ⟨y2, z2⟩ := less_pos (by omega) q2 n2
  have b3 : c6.length ≤ maxLen := g6
  unfold maxLen at b3
  obtain ⟨l3, q3⟩ : ∃ x : Int, x = l2 - c6.length := ⟨_, rfl⟩
  have e3 : IntKind.i64.wrap (l2 - (c6.length : Int)) = l3 := by rw [q3, IntKind.wrap_i64]; omega
  by_cases n3 : l3 < 0
  · rw [less_lt (by omega)]
    refine callL_fn (fn := f_laws_szOp) rfl ?_
    simp [f_laws_szOp, binStr, e0, e1, e2, e3, n0, n1, n2, n3]
  rw [less_ge' (n := T) (l := l3) (by omega) (by omega)]
  refine callL_fn (fn := f_laws_szOp) rfl ?_
  simp [f_laws_szOp, binStr, e0, e1, e2, e3, n0, n1, n2, n3]
theorem eqOp_ok {r : List PV} (h : HasL t_Op r) : callL Ph ext 86 [.agg (r.map .pv), .agg (r.map .pv)] = some (vbool true) := by
  obtain ⟨p0, r1, rfl, g0, k1⟩ := HasL_cons h
  obtain ⟨p1, r2, rfl, g1, k2⟩ := HasL_cons k1
  obtain ⟨p2, r3, rfl, g2, k3⟩ := HasL_cons k2
  obtain ⟨p3, r4, rfl, g3, k4⟩ := HasL_cons k3
  obtain ⟨p4, r5, rfl, g4, k5⟩ := HasL_cons k4
  obtain ⟨p5, r6, rfl, g5, k6⟩ := HasL_cons k5
  obtain ⟨p6, r7, rfl, g6, k7⟩ := HasL_cons k6
  obtain rfl := HasL_nil k7
  obtain ⟨c0, rfl⟩ := Has_int g0
  obtain ⟨c1, rfl⟩ := Has_str g1
  obtain ⟨c2, rfl⟩ := Has_int g2
  obtain ⟨c3, rfl⟩ := Has_int g3
  obtain ⟨c4, rfl⟩ := Has_str g4
  obtain ⟨c5, rfl⟩ := Has_lst g5
  obtain ⟨c6, rfl⟩ := Has_str g6
  show callL Ph ext 86 [.agg [.pv (.int .i64 c0), .pv (.str c1), .pv (.int .i64 c2), .pv (.int .i64 c3), .pv (.str c4), .pv (.lst c5), .pv (.str c6)], .agg [.pv (.int .i64 c0), .pv (.str c1), .pv (.int .i64 c2), .pv (.int .i64 c3), .pv (.str c4), .pv (.lst c5), .pv (.str c6)]] = _
  have e0 : callL Ph ext 38 [.agg [.pv (.int .i64 c2), .pv (.int .i64 c3), .pv (.str c4)], .agg [.pv (.int .i64 c2), .pv (.int .i64 c3), .pv (.str c4)]] = some (vbool true) := eqKey_ok (ext := ext) (r := [.int .i64 c2, .int .i64 c3, .str c4]) (⟨g2, g3, g4, trivial⟩)
  have e1 : callL Ph ext 39 [.agg [.pv (.lst c5)], .agg [.pv (.lst c5)]] = some (vbool true) := eqRecord_ok (ext := ext) (r := [.lst c5]) (⟨g5, trivial⟩)
  refine callL_fn (fn := f_laws_eqOp) rfl ?_
  simp [f_laws_eqOp, binStr, e0, e1]
theorem toRegistration_ok {c0 : List UInt8} {c1 : Int} {c2 : Int} {c3 : Int} (h0 : Has (.str) (.str c0)) (h1 : Has (.int .i64) (.int .i64 c1)) (h2 : Has (.int .i64) (.int .i64 c2)) (h3 : Has (.int .i64) (.int .i64 c3)) (hs : szL [.str c0, .int .i64 c1, .int .i64 c2, .int .i64 c3] ≤ 1048576) : callL Ph ext 231 [.agg [.pv (.str c0), .pv (.int .i64 c1), .pv (.int .i64 c2), .pv (.int .i64 c3)]] = some (.agg [.pv (.str c0), .pv (.int .i64 c1), .pv (.int .i64 c2), .pv (.int .i64 c3)]) := by
  refine callL_fn (fn := f_laws_toRegistration) rfl ?_
  simp [f_laws_toRegistration, binStr]
theorem toRegistration_copies {r : List PV} (h : HasL t_Registration r) (hs : szL r ≤ 1048576) : Copies Ph ext 231 true r := by
  obtain ⟨p0, r1, rfl, g0, k1⟩ := HasL_cons h
  obtain ⟨p1, r2, rfl, g1, k2⟩ := HasL_cons k1
  obtain ⟨p2, r3, rfl, g2, k3⟩ := HasL_cons k2
  obtain ⟨p3, r4, rfl, g3, k4⟩ := HasL_cons k3
  obtain rfl := HasL_nil k4
  obtain ⟨c0, rfl⟩ := Has_str g0
  obtain ⟨c1, rfl⟩ := Has_int g1
  obtain ⟨c2, rfl⟩ := Has_int g2
  obtain ⟨c3, rfl⟩ := Has_int g3
  exact ⟨_, toRegistration_ok g0 g1 g2 g3 hs, rfl, rfl, fun _ => ⟨rfl, rfl⟩⟩
theorem szRegistration_ok {r : List PV} (h : HasL t_Registration r) : Measures Ph ext 227 r := by
  obtain ⟨p0, r1, rfl, g0, k1⟩ := HasL_cons h
  obtain ⟨p1, r2, rfl, g1, k2⟩ := HasL_cons k1
  obtain ⟨p2, r3, rfl, g2, k3⟩ := HasL_cons k2
  obtain ⟨p3, r4, rfl, g3, k4⟩ := HasL_cons k3
  obtain rfl := HasL_nil k4
  obtain ⟨c0, rfl⟩ := Has_str g0
  obtain ⟨c1, rfl⟩ := Has_int g1
  obtain ⟨c2, rfl⟩ := Has_int g2
  obtain ⟨c3, rfl⟩ := Has_int g3
  intro left h0 h1
  show callL Ph ext 227 [.agg [.pv (.str c0), .pv (.int .i64 c1), .pv (.int .i64 c2), .pv (.int .i64 c3)], vint .i64 left] = _
  have tot : szL [.str c0, .int .i64 c1, .int .i64 c2, .int .i64 c3] = c0.length := by simp only [szL_nil0, szL_cons0, sz_int0, sz_bool0, sz_str0, Nat.add_zero, Nat.zero_add, Nat.add_assoc]
  generalize szL [.str c0, .int .i64 c1, .int .i64 c2, .int .i64 c3] = T at tot ⊢
  have b0 : c0.length ≤ maxLen := g0
  unfold maxLen at b0
  obtain ⟨l0, q0⟩ : ∃ x : Int, x = left - c0.length := ⟨_, rfl⟩
  have e0 : IntKind.i64.wrap (left - (c0.length : Int)) = l0 := by rw [q0, IntKind.wrap_i64]; omega
  by_cases n0 : l0 < 0
  · rw [less_lt (by omega)]
    refine callL_fn (fn := f_laws_szRegistration) rfl ?_
    simp [f_laws_szRegistration, binStr, e0, n0]
  rw [less_ge' (n := T) (l := l0) (by omega) (by omega)]
  refine callL_fn (fn := f_laws_szRegistration) rfl ?_
  simp [f_laws_szRegistration, binStr, e0, n0]
theorem eqRegistration_ok {r : List PV} (h : HasL t_Registration r) : callL Ph ext 235 [.agg (r.map .pv), .agg (r.map .pv)] = some (vbool true) := by
  obtain ⟨p0, r1, rfl, g0, k1⟩ := HasL_cons h
  obtain ⟨p1, r2, rfl, g1, k2⟩ := HasL_cons k1
  obtain ⟨p2, r3, rfl, g2, k3⟩ := HasL_cons k2
  obtain ⟨p3, r4, rfl, g3, k4⟩ := HasL_cons k3
  obtain rfl := HasL_nil k4
  obtain ⟨c0, rfl⟩ := Has_str g0
  obtain ⟨c1, rfl⟩ := Has_int g1
  obtain ⟨c2, rfl⟩ := Has_int g2
  obtain ⟨c3, rfl⟩ := Has_int g3
  show callL Ph ext 235 [.agg [.pv (.str c0), .pv (.int .i64 c1), .pv (.int .i64 c2), .pv (.int .i64 c3)], .agg [.pv (.str c0), .pv (.int .i64 c1), .pv (.int .i64 c2), .pv (.int .i64 c3)]] = _
  refine callL_fn (fn := f_laws_eqRegistration) rfl ?_
  simp [f_laws_eqRegistration, binStr]
theorem toByteS_ok {rows : List (List PV)} (h : Has (.lst t_ByteS) (.lst rows)) (hs : sz (.lst rows) ≤ 1048576) : callL Ph ext 255 [vlst rows] = some (.one (.own 1 rows)) := by
  obtain ⟨hl, hr⟩ := Has_rows h
  have hn : rows.length ≤ 1048576 := Nat.le_trans (Nat.le_add_right _ _) hs
  obtain ⟨qs, rfl⟩ := singles hr
  exact toF_ok (Φ := Ph) (ext := ext) (k := 255) (bytes := 1) (zero := (.int .u8 0)) rfl (by simpa using hl) (by simp at hn; omega)
theorem szByteS_ok {rows : List (List PV)} (h : Has (.lst t_ByteS) (.lst rows)) {left : Int} (h0 : 0 ≤ left) (h1 : left ≤ 1048576) : callL Ph ext 251 [vlst rows, vint .i64 left] = some (vint .i64 (less left (sz (.lst rows)))) := by
  obtain ⟨hl, hr⟩ := Has_rows h
  rw [sz_lst, szRows_zero (ts := t_ByteS) (by decide) hr]
  exact szF_ok (Φ := Ph) (ext := ext) (k := 251) rfl hl h0 h1
theorem eqByteS_ok {rows : List (List PV)} (h : Has (.lst t_ByteS) (.lst rows)) : callL Ph ext 259 [vlst rows, vlst rows] = some (vbool true) := by
  obtain ⟨hl, hr⟩ := Has_rows h
  obtain ⟨qs, rfl⟩ := singles hr
  exact eqF_ok (Φ := Ph) (ext := ext) (k := 259) rfl (plains (by decide) hr) (by simpa using hl)
theorem toResponse_ok {c0 : Int} {c1 : Int} {c2 : Int} {c3 : List (List PV)} {c4 : Bool} (h0 : Has (.int .i64) (.int .i64 c0)) (h1 : Has (.int .i64) (.int .i64 c1)) (h2 : Has (.int .i64) (.int .i64 c2)) (h3 : Has (.lst t_ByteS) (.lst c3)) (h4 : Has (.bool) (.bool c4)) (hs : szL [.int .i64 c0, .int .i64 c1, .int .i64 c2, .lst c3, .bool c4] ≤ 1048576) : callL Ph ext 281 [.agg [.pv (.int .i64 c0), .pv (.int .i64 c1), .pv (.int .i64 c2), .pv (.lst c3), .pv (.bool c4)]] = some (.agg [.pv (.int .i64 c0), .pv (.int .i64 c1), .pv (.int .i64 c2), .own 1 c3, .pv (.bool c4)]) := by
  have e0 := (toByteS_ok (ext := ext) h3 (Nat.le_trans (szL_at (i := 3) rfl) hs))
  refine callL_fn (fn := f_laws_toResponse) rfl ?_
  simp [f_laws_toResponse, binStr, e0]
theorem toResponse_copies {r : List PV} (h : HasL t_Response r) (hs : szL r ≤ 1048576) : Copies Ph ext 281 false r := by
  obtain ⟨p0, r1, rfl, g0, k1⟩ := HasL_cons h
  obtain ⟨p1, r2, rfl, g1, k2⟩ := HasL_cons k1
  obtain ⟨p2, r3, rfl, g2, k3⟩ := HasL_cons k2
  obtain ⟨p3, r4, rfl, g3, k4⟩ := HasL_cons k3
  obtain ⟨p4, r5, rfl, g4, k5⟩ := HasL_cons k4
  obtain rfl := HasL_nil k5
  obtain ⟨c0, rfl⟩ := Has_int g0
  obtain ⟨c1, rfl⟩ := Has_int g1
  obtain ⟨c2, rfl⟩ := Has_int g2
  obtain ⟨c3, rfl⟩ := Has_lst g3
  obtain ⟨c4, rfl⟩ := Has_bool g4
  exact ⟨_, toResponse_ok g0 g1 g2 g3 g4 hs, rfl, rfl, fun h => by cases h⟩
theorem szResponse_ok {r : List PV} (h : HasL t_Response r) : Measures Ph ext 280 r := by
  obtain ⟨p0, r1, rfl, g0, k1⟩ := HasL_cons h
  obtain ⟨p1, r2, rfl, g1, k2⟩ := HasL_cons k1
  obtain ⟨p2, r3, rfl, g2, k3⟩ := HasL_cons k2
  obtain ⟨p3, r4, rfl, g3, k4⟩ := HasL_cons k3
  obtain ⟨p4, r5, rfl, g4, k5⟩ := HasL_cons k4
  obtain rfl := HasL_nil k5
  obtain ⟨c0, rfl⟩ := Has_int g0
  obtain ⟨c1, rfl⟩ := Has_int g1
  obtain ⟨c2, rfl⟩ := Has_int g2
  obtain ⟨c3, rfl⟩ := Has_lst g3
  obtain ⟨c4, rfl⟩ := Has_bool g4
  intro left h0 h1
  show callL Ph ext 280 [.agg [.pv (.int .i64 c0), .pv (.int .i64 c1), .pv (.int .i64 c2), .pv (.lst c3), .pv (.bool c4)], vint .i64 left] = _
  have tot : szL [.int .i64 c0, .int .i64 c1, .int .i64 c2, .lst c3, .bool c4] = sz (.lst c3) := by simp only [szL_nil0, szL_cons0, sz_int0, sz_bool0, sz_str0, Nat.add_zero, Nat.zero_add, Nat.add_assoc]
  generalize szL [.int .i64 c0, .int .i64 c1, .int .i64 c2, .lst c3, .bool c4] = T at tot ⊢
  have e0 := szByteS_ok (ext := ext) g3 (left := left) (by omega) (by omega)
  generalize hS0 : sz (.lst c3) = S0 at tot e0
  generalize q0 : less left S0 = l0 at e0
  by_cases n0 : l0 < 0
  · have n0' := less_lt' (by omega) q0 n0
    rw [less_lt (by omega)]
    refine callL_fn (fn := f_laws_szResponse) rfl ?_
    simp [f_laws_szResponse, binStr, e0, n0]
  obtain ⟨y0, z0⟩ := less_pos (by omega) q0 n0
  rw [less_ge' (n := T) (l := l0) (by omega) (by omega)]
  refine callL_fn (fn := f_laws_szResponse) rfl ?_
  simp [f_laws_szResponse, binStr, e0, n0]
theorem eqResponse_ok {r : List PV} (h : HasL t_Response r) : callL Ph ext 282 [.agg (r.map .pv), .agg (r.map .pv)] = some (vbool true) := by
  obtain ⟨p0, r1, rfl, g0, k1⟩ := HasL_cons h
  obtain ⟨p1, r2, rfl, g1, k2⟩ := HasL_cons k1
  obtain ⟨p2, r3, rfl, g2, k3⟩ := HasL_cons k2
  obtain ⟨p3, r4, rfl, g3, k4⟩ := HasL_cons k3
  obtain ⟨p4, r5, rfl, g4, k5⟩ := HasL_cons k4
  obtain rfl := HasL_nil k5
  obtain ⟨c0, rfl⟩ := Has_int g0
  obtain ⟨c1, rfl⟩ := Has_int g1
  obtain ⟨c2, rfl⟩ := Has_int g2
  obtain ⟨c3, rfl⟩ := Has_lst g3
  obtain ⟨c4, rfl⟩ := Has_bool g4
  show callL Ph ext 282 [.agg [.pv (.int .i64 c0), .pv (.int .i64 c1), .pv (.int .i64 c2), .pv (.lst c3), .pv (.bool c4)], .agg [.pv (.int .i64 c0), .pv (.int .i64 c1), .pv (.int .i64 c2), .pv (.lst c3), .pv (.bool c4)]] = _
  have e0 := eqByteS_ok (ext := ext) g3
  refine callL_fn (fn := f_laws_eqResponse) rfl ?_
  simp [f_laws_eqResponse, binStr, e0]
theorem toCached_ok {c0 : List UInt8} {c1 : List UInt8} {c2 : Int} {c3 : Int} {c4 : Int} {c5 : List (List PV)} {c6 : Bool} (h0 : Has (.str) (.str c0)) (h1 : Has (.str) (.str c1)) (h2 : Has (.int .i64) (.int .i64 c2)) (h3 : Has (.int .i64) (.int .i64 c3)) (h4 : Has (.int .i64) (.int .i64 c4)) (h5 : Has (.lst t_ByteS) (.lst c5)) (h6 : Has (.bool) (.bool c6)) (hs : szL [.str c0, .str c1, .int .i64 c2, .int .i64 c3, .int .i64 c4, .lst c5, .bool c6] ≤ 1048576) : callL Ph ext 278 [.agg [.pv (.str c0), .pv (.str c1), .pv (.int .i64 c2), .pv (.int .i64 c3), .pv (.int .i64 c4), .pv (.lst c5), .pv (.bool c6)]] = some (.agg [.pv (.str c0), .pv (.str c1), .pv (.int .i64 c2), .pv (.int .i64 c3), .pv (.int .i64 c4), .own 1 c5, .pv (.bool c6)]) := by
  have e0 := (toResponse_ok (ext := ext) h2 h3 h4 h5 h6 (Nat.le_trans (szL_sub [.str c0, .str c1, .int .i64 c2, .int .i64 c3, .int .i64 c4, .lst c5, .bool c6] 2 5) hs))
  refine callL_fn (fn := f_laws_toCached) rfl ?_
  simp [f_laws_toCached, binStr, e0]
theorem toCached_copies {r : List PV} (h : HasL t_Cached r) (hs : szL r ≤ 1048576) : Copies Ph ext 278 false r := by
  obtain ⟨p0, r1, rfl, g0, k1⟩ := HasL_cons h
  obtain ⟨p1, r2, rfl, g1, k2⟩ := HasL_cons k1
  obtain ⟨p2, r3, rfl, g2, k3⟩ := HasL_cons k2
  obtain ⟨p3, r4, rfl, g3, k4⟩ := HasL_cons k3
  obtain ⟨p4, r5, rfl, g4, k5⟩ := HasL_cons k4
  obtain ⟨p5, r6, rfl, g5, k6⟩ := HasL_cons k5
  obtain ⟨p6, r7, rfl, g6, k7⟩ := HasL_cons k6
  obtain rfl := HasL_nil k7
  obtain ⟨c0, rfl⟩ := Has_str g0
  obtain ⟨c1, rfl⟩ := Has_str g1
  obtain ⟨c2, rfl⟩ := Has_int g2
  obtain ⟨c3, rfl⟩ := Has_int g3
  obtain ⟨c4, rfl⟩ := Has_int g4
  obtain ⟨c5, rfl⟩ := Has_lst g5
  obtain ⟨c6, rfl⟩ := Has_bool g6
  exact ⟨_, toCached_ok g0 g1 g2 g3 g4 g5 g6 hs, rfl, rfl, fun h => by cases h⟩
theorem szCached_ok {r : List PV} (h : HasL t_Cached r) : Measures Ph ext 277 r := by
  obtain ⟨p0, r1, rfl, g0, k1⟩ := HasL_cons h
  obtain ⟨p1, r2, rfl, g1, k2⟩ := HasL_cons k1
  obtain ⟨p2, r3, rfl, g2, k3⟩ := HasL_cons k2
  obtain ⟨p3, r4, rfl, g3, k4⟩ := HasL_cons k3
  obtain ⟨p4, r5, rfl, g4, k5⟩ := HasL_cons k4
  obtain ⟨p5, r6, rfl, g5, k6⟩ := HasL_cons k5
  obtain ⟨p6, r7, rfl, g6, k7⟩ := HasL_cons k6
  obtain rfl := HasL_nil k7
  obtain ⟨c0, rfl⟩ := Has_str g0
  obtain ⟨c1, rfl⟩ := Has_str g1
  obtain ⟨c2, rfl⟩ := Has_int g2
  obtain ⟨c3, rfl⟩ := Has_int g3
  obtain ⟨c4, rfl⟩ := Has_int g4
  obtain ⟨c5, rfl⟩ := Has_lst g5
  obtain ⟨c6, rfl⟩ := Has_bool g6
  intro left h0 h1
  show callL Ph ext 277 [.agg [.pv (.str c0), .pv (.str c1), .pv (.int .i64 c2), .pv (.int .i64 c3), .pv (.int .i64 c4), .pv (.lst c5), .pv (.bool c6)], vint .i64 left] = _
  have tot : szL [.str c0, .str c1, .int .i64 c2, .int .i64 c3, .int .i64 c4, .lst c5, .bool c6] = c0.length + (c1.length + (szL [.int .i64 c2, .int .i64 c3, .int .i64 c4, .lst c5, .bool c6])) := by simp only [szL_nil0, szL_cons0, sz_int0, sz_bool0, sz_str0, Nat.add_zero, Nat.zero_add, Nat.add_assoc]
  generalize szL [.str c0, .str c1, .int .i64 c2, .int .i64 c3, .int .i64 c4, .lst c5, .bool c6] = T at tot ⊢
  have b0 : c0.length ≤ maxLen := g0
  unfold maxLen at b0
  obtain ⟨l0, q0⟩ : ∃ x : Int, x = left - c0.length := ⟨_, rfl⟩
  have e0 : IntKind.i64.wrap (left - (c0.length : Int)) = l0 := by rw [q0, IntKind.wrap_i64]; omega
  by_cases n0 : l0 < 0
  · rw [less_lt (by omega)]
    refine callL_fn (fn := f_laws_szCached) rfl ?_
    simp [f_laws_szCached, binStr, e0, n0]
  have b1 : c1.length ≤ maxLen := g1
  unfold maxLen at b1
  obtain ⟨l1, q1⟩ : ∃ x : Int, x = l0 - c1.length := ⟨_, rfl⟩
  have e1 : IntKind.i64.wrap (l0 - (c1.length : Int)) = l1 := by rw [q1, IntKind.wrap_i64]; omega
  by_cases n1 : l1 < 0
  · rw [less_lt (by omega)]
    refine callL_fn (fn := f_laws_szCached) rfl ?_
    simp [f_laws_szCached, binStr, e0, e1, n0, n1]
  have e2 : callL Ph ext 280 [.agg [.pv (.int .i64 c2), .pv (.int .i64 c3), .pv (.int .i64 c4), .pv (.lst c5), .pv (.bool c6)], vint .i64 l1] = some (vint .i64 (less l1 (szL [.int .i64 c2, .int .i64 c3, .int .i64 c4, .lst c5, .bool c6]))) := szResponse_ok (ext := ext) (r := [.int .i64 c2, .int .i64 c3, .int .i64 c4, .lst c5, .bool c6]) (⟨g2, g3, g4, g5, g6, trivial⟩) l1 (by omega) (by omega)
  generalize hS2 : szL [.int .i64 c2, .int .i64 c3, .int .i64 c4, .lst c5, .bool c6] = S2 at tot e2
  generalize q2 : less l1 S2 = l2 at e2
  by_cases n2 : l2 < 0
  · have n2' := less_lt' (by omega) q2 n2
    rw [less_lt (by omega)]
    refine callL_fn (fn := f_laws_szCached) rfl ?_
    simp [f_laws_szCached, binStr, e0, e1, e2, n0, n1, n2]
  obtain ⟨y2, z2⟩ := less_pos (by omega) q2 n2
  rw [less_ge' (n := T) (l := l2) (by omega) (by omega)]
  refine callL_fn (fn := f_laws_szCached) rfl ?_
  simp [f_laws_szCached, binStr, e0, e1, e2, n0, n1, n2]
theorem eqCached_ok {r : List PV} (h : HasL t_Cached r) : callL Ph ext 279 [.agg (r.map .pv), .agg (r.map .pv)] = some (vbool true) := by
  obtain ⟨p0, r1, rfl, g0, k1⟩ := HasL_cons h
  obtain ⟨p1, r2, rfl, g1, k2⟩ := HasL_cons k1
  obtain ⟨p2, r3, rfl, g2, k3⟩ := HasL_cons k2
  obtain ⟨p3, r4, rfl, g3, k4⟩ := HasL_cons k3
  obtain ⟨p4, r5, rfl, g4, k5⟩ := HasL_cons k4
  obtain ⟨p5, r6, rfl, g5, k6⟩ := HasL_cons k5
  obtain ⟨p6, r7, rfl, g6, k7⟩ := HasL_cons k6
  obtain rfl := HasL_nil k7
  obtain ⟨c0, rfl⟩ := Has_str g0
  obtain ⟨c1, rfl⟩ := Has_str g1
  obtain ⟨c2, rfl⟩ := Has_int g2
  obtain ⟨c3, rfl⟩ := Has_int g3
  obtain ⟨c4, rfl⟩ := Has_int g4
  obtain ⟨c5, rfl⟩ := Has_lst g5
  obtain ⟨c6, rfl⟩ := Has_bool g6
  show callL Ph ext 279 [.agg [.pv (.str c0), .pv (.str c1), .pv (.int .i64 c2), .pv (.int .i64 c3), .pv (.int .i64 c4), .pv (.lst c5), .pv (.bool c6)], .agg [.pv (.str c0), .pv (.str c1), .pv (.int .i64 c2), .pv (.int .i64 c3), .pv (.int .i64 c4), .pv (.lst c5), .pv (.bool c6)]] = _
  have e0 : callL Ph ext 282 [.agg [.pv (.int .i64 c2), .pv (.int .i64 c3), .pv (.int .i64 c4), .pv (.lst c5), .pv (.bool c6)], .agg [.pv (.int .i64 c2), .pv (.int .i64 c3), .pv (.int .i64 c4), .pv (.lst c5), .pv (.bool c6)]] = some (vbool true) := eqResponse_ok (ext := ext) (r := [.int .i64 c2, .int .i64 c3, .int .i64 c4, .lst c5, .bool c6]) (⟨g2, g3, g4, g5, g6, trivial⟩)
  refine callL_fn (fn := f_laws_eqCached) rfl ?_
  simp [f_laws_eqCached, binStr, e0]
theorem toCachedS_ok {rows : List (List PV)} (h : Has (.lst t_CachedS) (.lst rows)) (hs : sz (.lst rows) ≤ 1048576) : callL Ph ext 273 [vlst rows] = some (.one (.own 7 rows)) := by
  obtain ⟨hl, hr⟩ := Has_rows h
  have hn : rows.length ≤ 1048576 := Nat.le_trans (Nat.le_add_right _ _) hs
  refine toS_ok (Φ := Ph) (ext := ext) (k := 273) (bytes := 88) (z := 7) (kx := 278) (zero := [(.str []), (.str []), (.int .i64 0), (.int .i64 0), (.int .i64 0), (.lst []), (.bool false)]) (fl := false) rfl (fun r m => HasL_len (hr r m)) (by decide) rfl hl (by omega) (fun r m => ?_)
  exact toCached_copies (hr r m) (row_le m hs)
theorem szCachedS_ok {rows : List (List PV)} (h : Has (.lst t_CachedS) (.lst rows)) {left : Int} (h0 : 0 ≤ left) (h1 : left ≤ 1048576) : callL Ph ext 271 [vlst rows, vint .i64 left] = some (vint .i64 (less left (sz (.lst rows)))) := by
  obtain ⟨hl, hr⟩ := Has_rows h
  exact szS_ok (Φ := Ph) (ext := ext) (k := 271) (z := 7) (kx := 277) rfl (fun r m => HasL_len (hr r m)) hl (fun r m => szCached_ok (hr r m)) h0 h1
theorem eqCachedS_ok {rows : List (List PV)} (h : Has (.lst t_CachedS) (.lst rows)) : callL Ph ext 275 [vlst rows, vlst rows] = some (vbool true) := by
  obtain ⟨hl, hr⟩ := Has_rows h
  exact eqS_ok (Φ := Ph) (ext := ext) (k := 275) (z := 7) (kx := 279) rfl (fun r m => HasL_len (hr r m)) hl (fun r m => eqCached_ok (hr r m))
theorem toCache_ok {c0 : Int} {c1 : List (List PV)} (h0 : Has (.int .i64) (.int .i64 c0)) (h1 : Has (.lst t_CachedS) (.lst c1)) (hs : szL [.int .i64 c0, .lst c1] ≤ 1048576) : callL Ph ext 265 [.agg [.pv (.int .i64 c0), .pv (.lst c1)]] = some (.agg [.pv (.int .i64 c0), .own 7 c1]) := by
  have e0 := (toCachedS_ok (ext := ext) h1 (Nat.le_trans (szL_at (i := 1) rfl) hs))
  refine callL_fn (fn := f_laws_toCache) rfl ?_
  simp [f_laws_toCache, binStr, e0]
theorem toCache_copies {r : List PV} (h : HasL t_Cache r) (hs : szL r ≤ 1048576) : Copies Ph ext 265 false r := by
  obtain ⟨p0, r1, rfl, g0, k1⟩ := HasL_cons h
  obtain ⟨p1, r2, rfl, g1, k2⟩ := HasL_cons k1
  obtain rfl := HasL_nil k2
  obtain ⟨c0, rfl⟩ := Has_int g0
  obtain ⟨c1, rfl⟩ := Has_lst g1
  exact ⟨_, toCache_ok g0 g1 hs, rfl, rfl, fun h => by cases h⟩
theorem szCache_ok {r : List PV} (h : HasL t_Cache r) : Measures Ph ext 262 r := by
  obtain ⟨p0, r1, rfl, g0, k1⟩ := HasL_cons h
  obtain ⟨p1, r2, rfl, g1, k2⟩ := HasL_cons k1
  obtain rfl := HasL_nil k2
  obtain ⟨c0, rfl⟩ := Has_int g0
  obtain ⟨c1, rfl⟩ := Has_lst g1
  intro left h0 h1
  show callL Ph ext 262 [.agg [.pv (.int .i64 c0), .pv (.lst c1)], vint .i64 left] = _
  have tot : szL [.int .i64 c0, .lst c1] = sz (.lst c1) := by simp only [szL_nil0, szL_cons0, sz_int0, sz_bool0, sz_str0, Nat.add_zero, Nat.zero_add, Nat.add_assoc]
  generalize szL [.int .i64 c0, .lst c1] = T at tot ⊢
  have e0 := szCachedS_ok (ext := ext) g1 (left := left) (by omega) (by omega)
  generalize hS0 : sz (.lst c1) = S0 at tot e0
  generalize q0 : less left S0 = l0 at e0
  by_cases n0 : l0 < 0
  · have n0' := less_lt' (by omega) q0 n0
    rw [less_lt (by omega)]
    refine callL_fn (fn := f_laws_szCache) rfl ?_
    simp [f_laws_szCache, binStr, e0, n0]
  obtain ⟨y0, z0⟩ := less_pos (by omega) q0 n0
  rw [less_ge' (n := T) (l := l0) (by omega) (by omega)]
  refine callL_fn (fn := f_laws_szCache) rfl ?_
  simp [f_laws_szCache, binStr, e0, n0]
theorem eqCache_ok {r : List PV} (h : HasL t_Cache r) : callL Ph ext 268 [.agg (r.map .pv), .agg (r.map .pv)] = some (vbool true) := by
  obtain ⟨p0, r1, rfl, g0, k1⟩ := HasL_cons h
  obtain ⟨p1, r2, rfl, g1, k2⟩ := HasL_cons k1
  obtain rfl := HasL_nil k2
  obtain ⟨c0, rfl⟩ := Has_int g0
  obtain ⟨c1, rfl⟩ := Has_lst g1
  show callL Ph ext 268 [.agg [.pv (.int .i64 c0), .pv (.lst c1)], .agg [.pv (.int .i64 c0), .pv (.lst c1)]] = _
  have e0 := eqCachedS_ok (ext := ext) g1
  refine callL_fn (fn := f_laws_eqCache) rfl ?_
  simp [f_laws_eqCache, binStr, e0]
theorem toCacheS_ok {rows : List (List PV)} (h : Has (.lst t_CacheS) (.lst rows)) (hs : sz (.lst rows) ≤ 1048576) : callL Ph ext 253 [vlst rows] = some (.one (.own 2 rows)) := by
  obtain ⟨hl, hr⟩ := Has_rows h
  have hn : rows.length ≤ 1048576 := Nat.le_trans (Nat.le_add_right _ _) hs
  refine toS_ok (Φ := Ph) (ext := ext) (k := 253) (bytes := 32) (z := 2) (kx := 265) (zero := [(.int .i64 0), (.lst [])]) (fl := false) rfl (fun r m => HasL_len (hr r m)) (by decide) rfl hl (by omega) (fun r m => ?_)
  exact toCache_copies (hr r m) (row_le m hs)
theorem szCacheS_ok {rows : List (List PV)} (h : Has (.lst t_CacheS) (.lst rows)) {left : Int} (h0 : 0 ≤ left) (h1 : left ≤ 1048576) : callL Ph ext 249 [vlst rows, vint .i64 left] = some (vint .i64 (less left (sz (.lst rows)))) := by
  obtain ⟨hl, hr⟩ := Has_rows h
  exact szS_ok (Φ := Ph) (ext := ext) (k := 249) (z := 2) (kx := 262) rfl (fun r m => HasL_len (hr r m)) hl (fun r m => szCache_ok (hr r m)) h0 h1
theorem eqCacheS_ok {rows : List (List PV)} (h : Has (.lst t_CacheS) (.lst rows)) : callL Ph ext 257 [vlst rows, vlst rows] = some (vbool true) := by
  obtain ⟨hl, hr⟩ := Has_rows h
  exact eqS_ok (Φ := Ph) (ext := ext) (k := 257) (z := 2) (kx := 268) rfl (fun r m => HasL_len (hr r m)) hl (fun r m => eqCache_ok (hr r m))
theorem toCacheSet_ok {c0 : List (List PV)} (h0 : Has (.lst t_CacheS) (.lst c0)) (hs : szL [.lst c0] ≤ 1048576) : callL Ph ext 232 [.agg [.pv (.lst c0)]] = some (.agg [.own 2 c0]) := by
  have e0 := (toCacheS_ok (ext := ext) h0 (Nat.le_trans (szL_at (i := 0) rfl) hs))
  refine callL_fn (fn := f_laws_toCacheSet) rfl ?_
  simp [f_laws_toCacheSet, binStr, e0]
theorem toCacheSet_copies {r : List PV} (h : HasL t_CacheSet r) (hs : szL r ≤ 1048576) : Copies Ph ext 232 false r := by
  obtain ⟨p0, r1, rfl, g0, k1⟩ := HasL_cons h
  obtain rfl := HasL_nil k1
  obtain ⟨c0, rfl⟩ := Has_lst g0
  exact ⟨_, toCacheSet_ok g0 hs, rfl, rfl, fun h => by cases h⟩
theorem szCacheSet_ok {r : List PV} (h : HasL t_CacheSet r) : Measures Ph ext 228 r := by
  obtain ⟨p0, r1, rfl, g0, k1⟩ := HasL_cons h
  obtain rfl := HasL_nil k1
  obtain ⟨c0, rfl⟩ := Has_lst g0
  intro left h0 h1
  show callL Ph ext 228 [.agg [.pv (.lst c0)], vint .i64 left] = _
  have tot : szL [.lst c0] = sz (.lst c0) := by simp only [szL_nil0, szL_cons0, sz_int0, sz_bool0, sz_str0, Nat.add_zero, Nat.zero_add, Nat.add_assoc]
  generalize szL [.lst c0] = T at tot ⊢
  have e0 := szCacheS_ok (ext := ext) g0 (left := left) (by omega) (by omega)
  generalize hS0 : sz (.lst c0) = S0 at tot e0
  generalize q0 : less left S0 = l0 at e0
  by_cases n0 : l0 < 0
  · have n0' := less_lt' (by omega) q0 n0
    rw [less_lt (by omega)]
    refine callL_fn (fn := f_laws_szCacheSet) rfl ?_
    simp [f_laws_szCacheSet, binStr, e0, n0]
  obtain ⟨y0, z0⟩ := less_pos (by omega) q0 n0
  rw [less_ge' (n := T) (l := l0) (by omega) (by omega)]
  refine callL_fn (fn := f_laws_szCacheSet) rfl ?_
  simp [f_laws_szCacheSet, binStr, e0, n0]
theorem eqCacheSet_ok {r : List PV} (h : HasL t_CacheSet r) : callL Ph ext 236 [.agg (r.map .pv), .agg (r.map .pv)] = some (vbool true) := by
  obtain ⟨p0, r1, rfl, g0, k1⟩ := HasL_cons h
  obtain rfl := HasL_nil k1
  obtain ⟨c0, rfl⟩ := Has_lst g0
  show callL Ph ext 236 [.agg [.pv (.lst c0)], .agg [.pv (.lst c0)]] = _
  have e0 := eqCacheS_ok (ext := ext) g0
  refine callL_fn (fn := f_laws_eqCacheSet) rfl ?_
  simp [f_laws_eqCacheSet, binStr, e0]
end
end Gi
