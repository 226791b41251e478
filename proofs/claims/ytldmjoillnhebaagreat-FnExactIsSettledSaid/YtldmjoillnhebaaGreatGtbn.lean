/- What the copying, measuring and comparing functions of the laws compute, written by program. -/
import Derived.Test.YtldmjoillnhebaaGreatGtbm
namespace Gi
open Go Go.RowKit
set_option linter.unusedVariables false
set_option linter.unusedSimpArgs false
set_option maxHeartbeats 4000000
attribute [local simp] start execL exec execOps stepO wants fop eop Opd.ev put V.cells plain loadV cut isInt isStr isBool bin binInt un asList L.view viewArgs V.view viewL done finish resultsOf resultOf comps comp giveLs giveL arrsOf V.flat L.flat setV setL storeV putAt thaw thawL freezeVs freezeLs freezeL V.mut L.mut
section
variable {ext : Nat → List V → Option V}
theorem toIndexDef_ok {c0 : List UInt8} {c1 : List UInt8} (h0 : Has (.str) (.str c0)) (h1 : Has (.str) (.str c1)) (hs : szL [.str c0, .str c1] ≤ 1048576) : callL Ph ext 274 [.agg [.pv (.str c0), .pv (.str c1)]] = some (.agg [.pv (.str c0), .pv (.str c1)]) := by
  refine callL_fn (fn := f_laws_toIndexDef) rfl ?_
  simp [f_laws_toIndexDef, binStr]
theorem toIndexDef_copies {r : List PV} (h : HasL t_IndexDef r) (hs : szL r ≤ 1048576) : Copies Ph ext 274 true r := by
  obtain ⟨p0, r1, rfl, g0, k1⟩ := HasL_cons h
  obtain ⟨p1, r2, rfl, g1, k2⟩ := HasL_cons k1
  obtain rfl := HasL_nil k2
  obtain ⟨c0, rfl⟩ := Has_str g0
  obtain ⟨c1, rfl⟩ := Has_str g1
  exact ⟨_, toIndexDef_ok g0 g1 hs, rfl, rfl, fun _ => ⟨rfl, rfl⟩⟩
theorem szIndexDef_ok {r : List PV} (h : HasL t_IndexDef r) : Measures Ph ext 272 r := by
  obtain ⟨p0, r1, rfl, g0, k1⟩ := HasL_cons h
  obtain ⟨p1, r2, rfl, g1, k2⟩ := HasL_cons k1
  obtain rfl := HasL_nil k2
  obtain ⟨c0, rfl⟩ := Has_str g0
  obtain ⟨c1, rfl⟩ := Has_str g1
  intro left h0 h1
  show callL Ph ext 272 [.agg [.pv (.str c0), .pv (.str c1)], vint .i64 left] = _
  have tot : szL [.str c0, .str c1] = c0.length + (c1.length) := by simp only [szL_nil0, szL_cons0, sz_int0, sz_bool0, sz_str0, Nat.add_zero, Nat.zero_add, Nat.add_assoc]
  generalize szL [.str c0, .str c1] = T at tot ⊢
  have b0 : c0.length ≤ maxLen := g0
  unfold maxLen at b0
  obtain ⟨l0, q0⟩ : ∃ x : Int, x = left - c0.length := ⟨_, rfl⟩
  have e0 : IntKind.i64.wrap (left - (c0.length : Int)) = l0 := by rw [q0, IntKind.wrap_i64]; omega
  by_cases n0 : l0 < 0
  · rw [less_lt (by omega)]
    refine callL_fn (fn := f_laws_szIndexDef) rfl ?_
    simp [f_laws_szIndexDef, binStr, e0, n0]
  have b1 : c1.length ≤ maxLen := g1
  unfold maxLen at b1
  obtain ⟨l1, q1⟩ : ∃ x : Int, x = l0 - c1.length := ⟨_, rfl⟩
  have e1 : IntKind.i64.wrap (l0 - (c1.length : Int)) = l1 := by rw [q1, IntKind.wrap_i64]; omega
  by_cases n1 : l1 < 0
  · rw [less_lt (by omega)]
    refine callL_fn (fn := f_laws_szIndexDef) rfl ?_
    simp [f_laws_szIndexDef, binStr, e0, e1, n0, n1]
  rw [less_ge' (n := T) (l := l1) (by omega) (by omega)]
  refine callL_fn (fn := f_laws_szIndexDef) rfl ?_
  simp [f_laws_szIndexDef, binStr, e0, e1, n0, n1]
theorem eqIndexDef_ok {r : List PV} (h : HasL t_IndexDef r) : callL Ph ext 276 [.agg (r.map .pv), .agg (r.map .pv)] = some (vbool true) := by
  obtain ⟨p0, r1, rfl, g0, k1⟩ := HasL_cons h
  obtain ⟨p1, r2, rfl, g1, k2⟩ := HasL_cons k1
  obtain rfl := HasL_nil k2
  obtain ⟨c0, rfl⟩ := Has_str g0
  obtain ⟨c1, rfl⟩ := Has_str g1
  show callL Ph ext 276 [.agg [.pv (.str c0), .pv (.str c1)], .agg [.pv (.str c0), .pv (.str c1)]] = _
  refine callL_fn (fn := f_laws_eqIndexDef) rfl ?_
  simp [f_laws_eqIndexDef, binStr]
theorem toIndexDefS_ok {rows : List (List PV)} (h : Has (.lst t_IndexDefS) (.lst rows)) (hs : sz (.lst rows) ≤ 1048576) : callL Ph ext 266 [vlst rows] = some (.one (.own 2 rows)) := by
  obtain ⟨hl, hr⟩ := Has_rows h
  have hn : rows.length ≤ 1048576 := Nat.le_trans (Nat.le_add_right _ _) hs
  refine toS_ok (Φ := Ph) (ext := ext) (k := 266) (bytes := 32) (z := 2) (kx := 274) (zero := [(.str []), (.str [])]) (fl := true) rfl (fun r m => HasL_len (hr r m)) (by decide) rfl hl (by omega) (fun r m => ?_)
  exact toIndexDef_copies (hr r m) (row_le m hs)
theorem szIndexDefS_ok {rows : List (List PV)} (h : Has (.lst t_IndexDefS) (.lst rows)) {left : Int} (h0 : 0 ≤ left) (h1 : left ≤ 1048576) : callL Ph ext 263 [vlst rows, vint .i64 left] = some (vint .i64 (less left (sz (.lst rows)))) := by
  obtain ⟨hl, hr⟩ := Has_rows h
  exact szS_ok (Φ := Ph) (ext := ext) (k := 263) (z := 2) (kx := 272) rfl (fun r m => HasL_len (hr r m)) hl (fun r m => szIndexDef_ok (hr r m)) h0 h1
theorem eqIndexDefS_ok {rows : List (List PV)} (h : Has (.lst t_IndexDefS) (.lst rows)) : callL Ph ext 269 [vlst rows, vlst rows] = some (vbool true) := by
  obtain ⟨hl, hr⟩ := Has_rows h
  exact eqS_ok (Φ := Ph) (ext := ext) (k := 269) (z := 2) (kx := 276) rfl (fun r m => HasL_len (hr r m)) hl (fun r m => eqIndexDef_ok (hr r m))
theorem toDatabase_ok {c0 : List UInt8} {c1 : Int} {c2 : List (List PV)} {c3 : List (List PV)} (h0 : Has (.str) (.str c0)) (h1 : Has (.int .i64) (.int .i64 c1)) (h2 : Has (.lst t_StoreS) (.lst c2)) (h3 : Has (.lst t_IndexDefS) (.lst c3)) (hs : szL [.str c0, .int .i64 c1, .lst c2, .lst c3] ≤ 1048576) : callL Ph ext 254 [.agg [.pv (.str c0), .pv (.int .i64 c1), .pv (.lst c2), .pv (.lst c3)]] = some (.agg [.pv (.str c0), .pv (.int .i64 c1), .own 3 c2, .own 2 c3]) := by
  have e0 := (toStoreS_ok (ext := ext) h2 (Nat.le_trans (szL_at (i := 2) rfl) hs))
  have e1 := (toIndexDefS_ok (ext := ext) h3 (Nat.le_trans (szL_at (i := 3) rfl) hs))
  refine callL_fn (fn := f_laws_toDatabase) rfl ?_
  simp [f_laws_toDatabase, binStr, e0, e1]
theorem toDatabase_copies {r : List PV} (h : HasL t_Database r) (hs : szL r ≤ 1048576) : Copies Ph ext 254 false r := by
  obtain ⟨p0, r1, rfl, g0, k1⟩ := HasL_cons h
  obtain ⟨p1, r2, rfl, g1, k2⟩ := HasL_cons k1
  obtain ⟨p2, r3, rfl, g2, k3⟩ := HasL_cons k2
  obtain ⟨p3, r4, rfl, g3, k4⟩ := HasL_cons k3
  obtain rfl := HasL_nil k4
  obtain ⟨c0, rfl⟩ := Has_str g0
  obtain ⟨c1, rfl⟩ := Has_int g1
  obtain ⟨c2, rfl⟩ := Has_lst g2
  obtain ⟨c3, rfl⟩ := Has_lst g3
  exact ⟨_, toDatabase_ok g0 g1 g2 g3 hs, rfl, rfl, fun h => by cases h⟩
theorem szDatabase_ok {r : List PV} (h : HasL t_Database r) : Measures Ph ext 250 r := by
  obtain ⟨p0, r1, rfl, g0, k1⟩ := HasL_cons h
  obtain ⟨p1, r2, rfl, g1, k2⟩ := HasL_cons k1
  obtain ⟨p2, r3, rfl, g2, k3⟩ := HasL_cons k2
  obtain ⟨p3, r4, rfl, g3, k4⟩ := HasL_cons k3
  obtain rfl := HasL_nil k4
  obtain ⟨c0, rfl⟩ := Has_str g0
  obtain ⟨c1, rfl⟩ := Has_int g1
  obtain ⟨c2, rfl⟩ := Has_lst g2
  obtain ⟨c3, rfl⟩ := Has_lst g3
  intro left h0 h1
  show callL Ph ext 250 [.agg [.pv (.str c0), .pv (.int .i64 c1), .pv (.lst c2), .pv (.lst c3)], vint .i64 left] = _
  have tot : szL [.str c0, .int .i64 c1, .lst c2, .lst c3] = c0.length + (sz (.lst c2) + (sz (.lst c3))) := by simp only [szL_nil0, szL_cons0, sz_int0, sz_bool0, sz_str0, Nat.add_zero, Nat.zero_add, Nat.add_assoc]
  generalize szL [.str c0, .int .i64 c1, .lst c2, .lst c3] = T at tot ⊢
  have b0 : c0.length ≤ maxLen := g0
  unfold maxLen at b0
  obtain ⟨l0, q0⟩ : ∃ x : Int, x = left - c0.length := ⟨_, rfl⟩
  have e0 : IntKind.i64.wrap (left - (c0.length : Int)) = l0 := by rw [q0, IntKind.wrap_i64]; omega
  by_cases n0 : l0 < 0
  · rw [less_lt (by omega)]
    refine callL_fn (fn := f_laws_szDatabase) rfl ?_
    simp [f_laws_szDatabase, binStr, e0, n0]
  have e1 := szStoreS_ok (ext := ext) g2 (left := l0) (by omega) (by omega)
  generalize hS1 : sz (.lst c2) = S1 at tot e1
  generalize q1 : less l0 S1 = l1 at e1
  by_cases n1 : l1 < 0
  · have n1' := less_lt' (by omega) q1 n1
    rw [less_lt (by omega)]
    refine callL_fn (fn := f_laws_szDatabase) rfl ?_
    simp [f_laws_szDatabase, binStr, e0, e1, n0, n1]
  obtain ⟨y1, z1⟩ := less_pos (by omega) q1 n1
  have e2 := szIndexDefS_ok (ext := ext) g3 (left := l1) (by omega) (by omega)
  generalize hS2 : sz (.lst c3) = S2 at tot e2
  generalize q2 : less l1 S2 = l2 at e2
  by_cases n2 : l2 < 0
  · have n2' := less_lt' (by omega) q2 n2
    rw [less_lt (by omega)]
    refine callL_fn (fn := f_laws_szDatabase) rfl ?_
    simp [f_laws_szDatabase, binStr, e0, e1, e2, n0, n1, n2]
  obtain ⟨y2, z2⟩ := less_pos (by omega) q2 n2
  rw [less_ge' (n := T) (l := l2) (by omega) (by omega)]
  refine callL_fn (fn := f_laws_szDatabase) rfl ?_
  simp [f_laws_szDatabase, binStr, e0, e1, e2, n0, n1, n2]
theorem eqDatabase_ok {r : List PV} (h : HasL t_Database r) : callL Ph ext 258 [.agg (r.map .pv), .agg (r.map .pv)] = some (vbool true) := by
  obtain ⟨p0, r1, rfl, g0, k1⟩ := HasL_cons h
  obtain ⟨p1, r2, rfl, g1, k2⟩ := HasL_cons k1
  obtain ⟨p2, r3, rfl, g2, k3⟩ := HasL_cons k2
  obtain ⟨p3, r4, rfl, g3, k4⟩ := HasL_cons k3
  obtain rfl := HasL_nil k4
  obtain ⟨c0, rfl⟩ := Has_str g0
  obtain ⟨c1, rfl⟩ := Has_int g1
  obtain ⟨c2, rfl⟩ := Has_lst g2
  obtain ⟨c3, rfl⟩ := Has_lst g3
  show callL Ph ext 258 [.agg [.pv (.str c0), .pv (.int .i64 c1), .pv (.lst c2), .pv (.lst c3)], .agg [.pv (.str c0), .pv (.int .i64 c1), .pv (.lst c2), .pv (.lst c3)]] = _
  have e0 := eqStoreS_ok (ext := ext) g2
  have e1 := eqIndexDefS_ok (ext := ext) g3
  refine callL_fn (fn := f_laws_eqDatabase) rfl ?_
  simp [f_laws_eqDatabase, binStr, e0, e1]
theorem toDisk_ok {c0 : List UInt8} {c1 : Int} {c2 : List (List PV)} {c3 : List (List PV)} {c4 : List (List PV)} {c5 : Int} (h0 : Has (.str) (.str c0)) (h1 : Has (.int .i64) (.int .i64 c1)) (h2 : Has (.lst t_StoreS) (.lst c2)) (h3 : Has (.lst t_IndexDefS) (.lst c3)) (h4 : Has (.lst t_ByteS) (.lst c4)) (h5 : Has (.int .i64) (.int .i64 c5)) (hs : szL [.str c0, .int .i64 c1, .lst c2, .lst c3, .lst c4, .int .i64 c5] ≤ 1048576) : callL Ph ext 233 [.agg [.pv (.str c0), .pv (.int .i64 c1), .pv (.lst c2), .pv (.lst c3), .pv (.lst c4), .pv (.int .i64 c5)]] = some (.agg [.pv (.str c0), .pv (.int .i64 c1), .own 3 c2, .own 2 c3, .own 1 c4, .pv (.int .i64 c5)]) := by
  have e0 := (toDatabase_ok (ext := ext) h0 h1 h2 h3 (Nat.le_trans (szL_sub [.str c0, .int .i64 c1, .lst c2, .lst c3, .lst c4, .int .i64 c5] 0 4) hs))
  have e1 := (toByteS_ok (ext := ext) h4 (Nat.le_trans (szL_at (i := 4) rfl) hs))
  refine callL_fn (fn := f_laws_toDisk) rfl ?_
  simp [f_laws_toDisk, binStr, e0, e1]
theorem toDisk_copies {r : List PV} (h : HasL t_Disk r) (hs : szL r ≤ 1048576) : Copies Ph ext 233 false r := by
  obtain ⟨p0, r1, rfl, g0, k1⟩ := HasL_cons h
  obtain ⟨p1, r2, rfl, g1, k2⟩ := HasL_cons k1
  obtain ⟨p2, r3, rfl, g2, k3⟩ := HasL_cons k2
  obtain ⟨p3, r4, rfl, g3, k4⟩ := HasL_cons k3
  obtain ⟨p4, r5, rfl, g4, k5⟩ := HasL_cons k4
  obtain ⟨p5, r6, rfl, g5, k6⟩ := HasL_cons k5
  obtain rfl := HasL_nil k6
  obtain ⟨c0, rfl⟩ := Has_str g0
  obtain ⟨c1, rfl⟩ := Has_int g1
  obtain ⟨c2, rfl⟩ := Has_lst g2
  obtain ⟨c3, rfl⟩ := Has_lst g3
  obtain ⟨c4, rfl⟩ := Has_lst g4
  obtain ⟨c5, rfl⟩ := Has_int g5
  exact ⟨_, toDisk_ok g0 g1 g2 g3 g4 g5 hs, rfl, rfl, fun h => by cases h⟩
theorem szDisk_ok {r : List PV} (h : HasL t_Disk r) : Measures Ph ext 229 r := by
  obtain ⟨p0, r1, rfl, g0, k1⟩ := HasL_cons h
  obtain ⟨p1, r2, rfl, g1, k2⟩ := HasL_cons k1
  obtain ⟨p2, r3, rfl, g2, k3⟩ := HasL_cons k2
  obtain ⟨p3, r4, rfl, g3, k4⟩ := HasL_cons k3
  obtain ⟨p4, r5, rfl, g4, k5⟩ := HasL_cons k4
  obtain ⟨p5, r6, rfl, g5, k6⟩ := HasL_cons k5
  obtain rfl := HasL_nil k6
  obtain ⟨c0, rfl⟩ := Has_str g0
  obtain ⟨c1, rfl⟩ := Has_int g1
  obtain ⟨c2, rfl⟩ := Has_lst g2
  obtain ⟨c3, rfl⟩ := Has_lst g3
  obtain ⟨c4, rfl⟩ := Has_lst g4
  obtain ⟨c5, rfl⟩ := Has_int g5
  intro left h0 h1
  show callL Ph ext 229 [.agg [.pv (.str c0), .pv (.int .i64 c1), .pv (.lst c2), .pv (.lst c3), .pv (.lst c4), .pv (.int .i64 c5)], vint .i64 left] = _
  have tot : szL [.str c0, .int .i64 c1, .lst c2, .lst c3, .lst c4, .int .i64 c5] = szL [.str c0, .int .i64 c1, .lst c2, .lst c3] + (sz (.lst c4)) := by simp only [szL_nil0, szL_cons0, sz_int0, sz_bool0, sz_str0, Nat.add_zero, Nat.zero_add, Nat.add_assoc]
  generalize szL [.str c0, .int .i64 c1, .lst c2, .lst c3, .lst c4, .int .i64 c5] = T at tot ⊢
  have e0 : callL Ph ext 250 [.agg [.pv (.str c0), .pv (.int .i64 c1), .pv (.lst c2), .pv (.lst c3)], vint .i64 left] = some (vint .i64 (less left (szL [.str c0, .int .i64 c1, .lst c2, .lst c3]))) := szDatabase_ok (ext := ext) (r := [.str c0, .int .i64 c1, .lst c2, .lst c3]) (⟨g0, g1, g2, g3, trivial⟩) left (by omega) (by omega)
  generalize hS0 : szL [.str c0, .int .i64 c1, .lst c2, .lst c3] = S0 at tot e0
  generalize q0 : less left S0 = l0 at e0
  by_cases n0 : l0 < 0
  · have n0' := less_lt' (by omega) q0 n0
    rw [less_lt (by omega)]
    refine callL_fn (fn := f_laws_szDisk) rfl ?_
    simp [f_laws_szDisk, binStr, e0, n0]
  obtain ⟨y0, z0⟩ := less_pos (by omega) q0 n0
  have e1 := szByteS_ok (ext := ext) g4 (left := l0) (by omega) (by omega)
  generalize hS1 : sz (.lst c4) = S1 at tot e1
  generalize q1 : less l0 S1 = l1 at e1
  by_cases n1 : l1 < 0
  · have n1' := less_lt' (by omega) q1 n1
    rw [less_lt (by omega)]
    refine callL_fn (fn := f_laws_szDisk) rfl ?_
    simp [f_laws_szDisk, binStr, e0, e1, n0, n1]
  obtain ⟨y1, z1⟩ := less_pos (by omega) q1 n1
  rw [less_ge' (n := T) (l := l1) (by omega) (by omega)]
  refine callL_fn (fn := f_laws_szDisk) rfl ?_
  simp [f_laws_szDisk, binStr, e0, e1, n0, n1]
theorem eqDisk_ok {r : List PV} (h : HasL t_Disk r) : callL Ph ext 237 [.agg (r.map .pv), .agg (r.map .pv)] = some (vbool true) := by
  obtain ⟨p0, r1, rfl, g0, k1⟩ := HasL_cons h
  obtain ⟨p1, r2, rfl, g1, k2⟩ := HasL_cons k1
  obtain ⟨p2, r3, rfl, g2, k3⟩ := HasL_cons k2
  obtain ⟨p3, r4, rfl, g3, k4⟩ := HasL_cons k3
  obtain ⟨p4, r5, rfl, g4, k5⟩ := HasL_cons k4
  obtain ⟨p5, r6, rfl, g5, k6⟩ := HasL_cons k5
  obtain rfl := HasL_nil k6
  obtain ⟨c0, rfl⟩ := Has_str g0
  obtain ⟨c1, rfl⟩ := Has_int g1
  obtain ⟨c2, rfl⟩ := Has_lst g2
  obtain ⟨c3, rfl⟩ := Has_lst g3
  obtain ⟨c4, rfl⟩ := Has_lst g4
  obtain ⟨c5, rfl⟩ := Has_int g5
  show callL Ph ext 237 [.agg [.pv (.str c0), .pv (.int .i64 c1), .pv (.lst c2), .pv (.lst c3), .pv (.lst c4), .pv (.int .i64 c5)], .agg [.pv (.str c0), .pv (.int .i64 c1), .pv (.lst c2), .pv (.lst c3), .pv (.lst c4), .pv (.int .i64 c5)]] = _
  have e0 : callL Ph ext 258 [.agg [.pv (.str c0), .pv (.int .i64 c1), .pv (.lst c2), .pv (.lst c3)], .agg [.pv (.str c0), .pv (.int .i64 c1), .pv (.lst c2), .pv (.lst c3)]] = some (vbool true) := eqDatabase_ok (ext := ext) (r := [.str c0, .int .i64 c1, .lst c2, .lst c3]) (⟨g0, g1, g2, g3, trivial⟩)
  have e1 := eqByteS_ok (ext := ext) g4
  refine callL_fn (fn := f_laws_eqDisk) rfl ?_
  simp [f_laws_eqDisk, binStr, e0, e1]
theorem toOutbox_ok {c0 : Int} {c1 : Int} {c2 : List (List PV)} (h0 : Has (.int .i64) (.int .i64 c0)) (h1 : Has (.int .i64) (.int .i64 c1)) (h2 : Has (.lst t_WriteS) (.lst c2)) (hs : szL [.int .i64 c0, .int .i64 c1, .lst c2] ≤ 1048576) : callL Ph ext 267 [.agg [.pv (.int .i64 c0), .pv (.int .i64 c1), .pv (.lst c2)]] = some (.agg [.pv (.int .i64 c0), .pv (.int .i64 c1), .own 7 c2]) := by
  have e0 := (toWriteS_ok (ext := ext) h2 (Nat.le_trans (szL_at (i := 2) rfl) hs))
  refine callL_fn (fn := f_laws_toOutbox) rfl ?_
  simp [f_laws_toOutbox, binStr, e0]
theorem toOutbox_copies {r : List PV} (h : HasL t_Outbox r) (hs : szL r ≤ 1048576) : Copies Ph ext 267 false r := by
  obtain ⟨p0, r1, rfl, g0, k1⟩ := HasL_cons h
  obtain ⟨p1, r2, rfl, g1, k2⟩ := HasL_cons k1
  obtain ⟨p2, r3, rfl, g2, k3⟩ := HasL_cons k2
  obtain rfl := HasL_nil k3
  obtain ⟨c0, rfl⟩ := Has_int g0
  obtain ⟨c1, rfl⟩ := Has_int g1
  obtain ⟨c2, rfl⟩ := Has_lst g2
  exact ⟨_, toOutbox_ok g0 g1 g2 hs, rfl, rfl, fun h => by cases h⟩
theorem szOutbox_ok {r : List PV} (h : HasL t_Outbox r) : Measures Ph ext 264 r := by
  obtain ⟨p0, r1, rfl, g0, k1⟩ := HasL_cons h
  obtain ⟨p1, r2, rfl, g1, k2⟩ := HasL_cons k1
  obtain ⟨p2, r3, rfl, g2, k3⟩ := HasL_cons k2
  obtain rfl := HasL_nil k3
  obtain ⟨c0, rfl⟩ := Has_int g0
  obtain ⟨c1, rfl⟩ := Has_int g1
  obtain ⟨c2, rfl⟩ := Has_lst g2
  intro left h0 h1
  show callL Ph ext 264 [.agg [.pv (.int .i64 c0), .pv (.int .i64 c1), .pv (.lst c2)], vint .i64 left] = _
  have tot : szL [.int .i64 c0, .int .i64 c1, .lst c2] = sz (.lst c2) := by simp only [szL_nil0, szL_cons0, sz_int0, sz_bool0, sz_str0, Nat.add_zero, Nat.zero_add, Nat.add_assoc]
  generalize szL [.int .i64 c0, .int .i64 c1, .lst c2] = T at tot ⊢
  have e0 := szWriteS_ok (ext := ext) g2 (left := left) (by omega) (by omega)
  generalize hS0 : sz (.lst c2) = S0 at tot e0
  generalize q0 : less left S0 = l0 at e0
  by_cases n0 : l0 < 0
  · have n0' := less_lt' (by omega) q0 n0
    rw [less_lt (by omega)]
    refine callL_fn (fn := f_laws_szOutbox) rfl ?_
    simp [f_laws_szOutbox, binStr, e0, n0]
  obtain ⟨y0, z0⟩ := less_pos (by omega) q0 n0
  rw [less_ge' (n := T) (l := l0) (by omega) (by omega)]
  refine callL_fn (fn := f_laws_szOutbox) rfl ?_
  simp [f_laws_szOutbox, binStr, e0, n0]
theorem eqOutbox_ok {r : List PV} (h : HasL t_Outbox r) : callL Ph ext 270 [.agg (r.map .pv), .agg (r.map .pv)] = some (vbool true) := by
  obtain ⟨p0, r1, rfl, g0, k1⟩ := HasL_cons h
  obtain ⟨p1, r2, rfl, g1, k2⟩ := HasL_cons k1
  obtain ⟨p2, r3, rfl, g2, k3⟩ := HasL_cons k2
  obtain rfl := HasL_nil k3
  obtain ⟨c0, rfl⟩ := Has_int g0
  obtain ⟨c1, rfl⟩ := Has_int g1
  obtain ⟨c2, rfl⟩ := Has_lst g2
  show callL Ph ext 270 [.agg [.pv (.int .i64 c0), .pv (.int .i64 c1), .pv (.lst c2)], .agg [.pv (.int .i64 c0), .pv (.int .i64 c1), .pv (.lst c2)]] = _
  have e0 := eqWriteS_ok (ext := ext) g2
  refine callL_fn (fn := f_laws_eqOutbox) rfl ?_
  simp [f_laws_eqOutbox, binStr, e0]
theorem toSync_ok {c0 : Int} {c1 : Int} {c2 : List (List PV)} {c3 : Int} {c4 : Int} (h0 : Has (.int .i64) (.int .i64 c0)) (h1 : Has (.int .i64) (.int .i64 c1)) (h2 : Has (.lst t_WriteS) (.lst c2)) (h3 : Has (.int .i64) (.int .i64 c3)) (h4 : Has (.int .i64) (.int .i64 c4)) (hs : szL [.int .i64 c0, .int .i64 c1, .lst c2, .int .i64 c3, .int .i64 c4] ≤ 1048576) : callL Ph ext 256 [.agg [.pv (.int .i64 c0), .pv (.int .i64 c1), .pv (.lst c2), .pv (.int .i64 c3), .pv (.int .i64 c4)]] = some (.agg [.pv (.int .i64 c0), .pv (.int .i64 c1), .own 7 c2, .pv (.int .i64 c3), .pv (.int .i64 c4)]) := by
  have e0 := (toOutbox_ok (ext := ext) h0 h1 h2 (Nat.le_trans (szL_sub [.int .i64 c0, .int .i64 c1, .lst c2, .int .i64 c3, .int .i64 c4] 0 3) hs))
  refine callL_fn (fn := f_laws_toSync) rfl ?_
  simp [f_laws_toSync, binStr, e0]
theorem toSync_copies {r : List PV} (h : HasL t_Sync r) (hs : szL r ≤ 1048576) : Copies Ph ext 256 false r := by
  obtain ⟨p0, r1, rfl, g0, k1⟩ := HasL_cons h
  obtain ⟨p1, r2, rfl, g1, k2⟩ := HasL_cons k1
  obtain ⟨p2, r3, rfl, g2, k3⟩ := HasL_cons k2
  obtain ⟨p3, r4, rfl, g3, k4⟩ := HasL_cons k3
  obtain ⟨p4, r5, rfl, g4, k5⟩ := HasL_cons k4
  obtain rfl := HasL_nil k5
  obtain ⟨c0, rfl⟩ := Has_int g0
  obtain ⟨c1, rfl⟩ := Has_int g1
  obtain ⟨c2, rfl⟩ := Has_lst g2
  obtain ⟨c3, rfl⟩ := Has_int g3
  obtain ⟨c4, rfl⟩ := Has_int g4
  exact ⟨_, toSync_ok g0 g1 g2 g3 g4 hs, rfl, rfl, fun h => by cases h⟩
theorem szSync_ok {r : List PV} (h : HasL t_Sync r) : Measures Ph ext 252 r := by
  obtain ⟨p0, r1, rfl, g0, k1⟩ := HasL_cons h
  obtain ⟨p1, r2, rfl, g1, k2⟩ := HasL_cons k1
  obtain ⟨p2, r3, rfl, g2, k3⟩ := HasL_cons k2
  obtain ⟨p3, r4, rfl, g3, k4⟩ := HasL_cons k3
  obtain ⟨p4, r5, rfl, g4, k5⟩ := HasL_cons k4
  obtain rfl := HasL_nil k5
  obtain ⟨c0, rfl⟩ := Has_int g0
  obtain ⟨c1, rfl⟩ := Has_int g1
  obtain ⟨c2, rfl⟩ := Has_lst g2
  obtain ⟨c3, rfl⟩ := Has_int g3
  obtain ⟨c4, rfl⟩ := Has_int g4
  intro left h0 h1
  show callL Ph ext 252 [.agg [.pv (.int .i64 c0), .pv (.int .i64 c1), .pv (.lst c2), .pv (.int .i64 c3), .pv (.int .i64 c4)], vint .i64 left] = _
  have tot : szL [.int .i64 c0, .int .i64 c1, .lst c2, .int .i64 c3, .int .i64 c4] = szL [.int .i64 c0, .int .i64 c1, .lst c2] := by simp only [szL_nil0, szL_cons0, sz_int0, sz_bool0, sz_str0, Nat.add_zero, Nat.zero_add, Nat.add_assoc]
  generalize szL [.int .i64 c0, .int .i64 c1, .lst c2, .int .i64 c3, .int .i64 c4] = T at tot ⊢
  have e0 : callL Ph ext 264 [.agg [.pv (.int .i64 c0), .pv (.int .i64 c1), .pv (.lst c2)], vint .i64 left] = some (vint .i64 (less left (szL [.int .i64 c0, .int .i64 c1, .lst c2]))) := szOutbox_ok (ext := ext) (r := [.int .i64 c0, .int .i64 c1, .lst c2]) (⟨g0, g1, g2, trivial⟩) left (by omega) (by omega)
  generalize hS0 : szL [.int .i64 c0, .int .i64 c1, .lst c2] = S0 at tot e0
  generalize q0 : less left S0 = l0 at e0
  by_cases n0 : l0 < 0
  · have n0' := less_lt' (by omega) q0 n0
    rw [less_lt (by omega)]
    refine callL_fn (fn := f_laws_szSync) rfl ?_
    simp [f_laws_szSync, binStr, e0, n0]
  obtain ⟨y0, z0⟩ := less_pos (by omega) q0 n0
  rw [less_ge' (n := T) (l := l0) (by omega) (by omega)]
  refine callL_fn (fn := f_laws_szSync) rfl ?_
  simp [f_laws_szSync, binStr, e0, n0]
theorem eqSync_ok {r : List PV} (h : HasL t_Sync r) : callL Ph ext 260 [.agg (r.map .pv), .agg (r.map .pv)] = some (vbool true) := by
  obtain ⟨p0, r1, rfl, g0, k1⟩ := HasL_cons h
  obtain ⟨p1, r2, rfl, g1, k2⟩ := HasL_cons k1
  obtain ⟨p2, r3, rfl, g2, k3⟩ := HasL_cons k2
  obtain ⟨p3, r4, rfl, g3, k4⟩ := HasL_cons k3
  obtain ⟨p4, r5, rfl, g4, k5⟩ := HasL_cons k4
  obtain rfl := HasL_nil k5
  obtain ⟨c0, rfl⟩ := Has_int g0
  obtain ⟨c1, rfl⟩ := Has_int g1
  obtain ⟨c2, rfl⟩ := Has_lst g2
  obtain ⟨c3, rfl⟩ := Has_int g3
  obtain ⟨c4, rfl⟩ := Has_int g4
  show callL Ph ext 260 [.agg [.pv (.int .i64 c0), .pv (.int .i64 c1), .pv (.lst c2), .pv (.int .i64 c3), .pv (.int .i64 c4)], .agg [.pv (.int .i64 c0), .pv (.int .i64 c1), .pv (.lst c2), .pv (.int .i64 c3), .pv (.int .i64 c4)]] = _
  have e0 : callL Ph ext 270 [.agg [.pv (.int .i64 c0), .pv (.int .i64 c1), .pv (.lst c2)], .agg [.pv (.int .i64 c0), .pv (.int .i64 c1), .pv (.lst c2)]] = some (vbool true) := eqOutbox_ok (ext := ext) (r := [.int .i64 c0, .int .i64 c1, .lst c2]) (⟨g0, g1, g2, trivial⟩)
  refine callL_fn (fn := f_laws_eqSync) rfl ?_
  simp [f_laws_eqSync, binStr, e0]
theorem toReplica_ok {c0 : List UInt8} {c1 : List (List PV)} {c2 : Int} {c3 : Int} {c4 : Int} {c5 : Int} {c6 : List (List PV)} {c7 : Int} {c8 : Int} (h0 : Has (.str) (.str c0)) (h1 : Has (.lst t_ItemS) (.lst c1)) (h2 : Has (.int .i64) (.int .i64 c2)) (h3 : Has (.int .i64) (.int .i64 c3)) (h4 : Has (.int .i64) (.int .i64 c4)) (h5 : Has (.int .i64) (.int .i64 c5)) (h6 : Has (.lst t_WriteS) (.lst c6)) (h7 : Has (.int .i64) (.int .i64 c7)) (h8 : Has (.int .i64) (.int .i64 c8)) (hs : szL [.str c0, .lst c1, .int .i64 c2, .int .i64 c3, .int .i64 c4, .int .i64 c5, .lst c6, .int .i64 c7, .int .i64 c8] ≤ 1048576) : callL Ph ext 234 [.agg [.pv (.str c0), .pv (.lst c1), .pv (.int .i64 c2), .pv (.int .i64 c3), .pv (.int .i64 c4), .pv (.int .i64 c5), .pv (.lst c6), .pv (.int .i64 c7), .pv (.int .i64 c8)]] = some (.agg [.pv (.str c0), .own 4 c1, .pv (.int .i64 c2), .pv (.int .i64 c3), .pv (.int .i64 c4), .pv (.int .i64 c5), .own 7 c6, .pv (.int .i64 c7), .pv (.int .i64 c8)]) := by
  have e0 := (toStore_ok (ext := ext) h0 h1 h2 (Nat.le_trans (szL_sub [.str c0, .lst c1, .int .i64 c2, .int .i64 c3, .int .i64 c4, .int .i64 c5, .lst c6, .int .i64 c7, .int .i64 c8] 0 3) hs))
  have e1 := (toSync_ok (ext := ext) h4 h5 h6 h7 h8 (Nat.le_trans (szL_sub [.str c0, .lst c1, .int .i64 c2, .int .i64 c3, .int .i64 c4, .int .i64 c5, .lst c6, .int .i64 c7, .int .i64 c8] 4 5) hs))
  refine callL_fn (fn := f_laws_toReplica) rfl ?_
  simp [f_laws_toReplica, binStr, e0, e1]
theorem toReplica_copies {r : List PV} (h : HasL t_Replica r) (hs : szL r ≤ 1048576) : Copies Ph ext 234 false r := by
  obtain ⟨p0, r1, rfl, g0, k1⟩ := HasL_cons h
  obtain ⟨p1, r2, rfl, g1, k2⟩ := HasL_cons k1
  obtain ⟨p2, r3, rfl, g2, k3⟩ := HasL_cons k2
  obtain ⟨p3, r4, rfl, g3, k4⟩ := HasL_cons k3
  obtain ⟨p4, r5, rfl, g4, k5⟩ := HasL_cons k4
  obtain ⟨p5, r6, rfl, g5, k6⟩ := HasL_cons k5
  obtain ⟨p6, r7, rfl, g6, k7⟩ := HasL_cons k6
  obtain ⟨p7, r8, rfl, g7, k8⟩ := HasL_cons k7
  obtain ⟨p8, r9, rfl, g8, k9⟩ := HasL_cons k8
  obtain rfl := HasL_nil k9
  obtain ⟨c0, rfl⟩ := Has_str g0
  obtain ⟨c1, rfl⟩ := Has_lst g1
  obtain ⟨c2, rfl⟩ := Has_int g2
  obtain ⟨c3, rfl⟩ := Has_int g3
  obtain ⟨c4, rfl⟩ := Has_int g4
  obtain ⟨c5, rfl⟩ := Has_int g5
  obtain ⟨c6, rfl⟩ := Has_lst g6
  obtain ⟨c7, rfl⟩ := Has_int g7
  obtain ⟨c8, rfl⟩ := Has_int g8
  exact ⟨_, toReplica_ok g0 g1 g2 g3 g4 g5 g6 g7 g8 hs, rfl, rfl, fun h => by cases h⟩
theorem szReplica_ok {r : List PV} (h : HasL t_Replica r) : Measures Ph ext 230 r := by
  obtain ⟨p0, r1, rfl, g0, k1⟩ := HasL_cons h
  obtain ⟨p1, r2, rfl, g1, k2⟩ := HasL_cons k1
  obtain ⟨p2, r3, rfl, g2, k3⟩ := HasL_cons k2
  obtain ⟨p3, r4, rfl, g3, k4⟩ := HasL_cons k3
  obtain ⟨p4, r5, rfl, g4, k5⟩ := HasL_cons k4
  obtain ⟨p5, r6, rfl, g5, k6⟩ := HasL_cons k5
  obtain ⟨p6, r7, rfl, g6, k7⟩ := HasL_cons k6
  obtain ⟨p7, r8, rfl, g7, k8⟩ := HasL_cons k7
  obtain ⟨p8, r9, rfl, g8, k9⟩ := HasL_cons k8
  obtain rfl := HasL_nil k9
  obtain ⟨c0, rfl⟩ := Has_str g0
  obtain ⟨c1, rfl⟩ := Has_lst g1
  obtain ⟨c2, rfl⟩ := Has_int g2
  obtain ⟨c3, rfl⟩ := Has_int g3
  obtain ⟨c4, rfl⟩ := Has_int g4
  obtain ⟨c5, rfl⟩ := Has_int g5
  obtain ⟨c6, rfl⟩ := Has_lst g6
  obtain ⟨c7, rfl⟩ := Has_int g7
  obtain ⟨c8, rfl⟩ := Has_int g8
  intro left h0 h1
  show callL Ph ext 230 [.agg [.pv (.str c0), .pv (.lst c1), .pv (.int .i64 c2), .pv (.int .i64 c3), .pv (.int .i64 c4), .pv (.int .i64 c5), .pv (.lst c6), .pv (.int .i64 c7), .pv (.int .i64 c8)], vint .i64 left] = _
  have tot : szL [.str c0, .lst c1, .int .i64 c2, .int .i64 c3, .int .i64 c4, .int .i64 c5, .lst c6, .int .i64 c7, .int .i64 c8] = szL [.str c0, .lst c1, .int .i64 c2] + (szL [.int .i64 c4, .int .i64 c5, .lst c6, .int .i64 c7, .int .i64 c8]) := by simp only [szL_nil0, szL_cons0, sz_int0, sz_bool0, sz_str0, Nat.add_zero, Nat.zero_add, Nat.add_assoc]
  generalize szL [.str c0, .lst c1, .int .i64 c2, .int .i64 c3, .int .i64 c4, .int .i64 c5, .lst c6, .int .i64 c7, .int .i64 c8] = T at tot ⊢
  have e0 : callL Ph ext 20 [.agg [.pv (.str c0), .pv (.lst c1), .pv (.int .i64 c2)], vint .i64 left] = some (vint .i64 (less left (szL [.str c0, .lst c1, .int .i64 c2]))) := szStore_ok (ext := ext) (r := [.str c0, .lst c1, .int .i64 c2]) (⟨g0, g1, g2, trivial⟩) left (by omega) (by omega)
  generalize hS0 : szL [.str c0, .lst c1, .int .i64 c2] = S0 at tot e0
  generalize q0 : less left S0 = l0 at e0
  by_cases n0 : l0 < 0
  · have n0' := less_lt' (by omega) q0 n0
    rw [less_lt (by omega)]
    refine callL_fn (fn := f_laws_szReplica) rfl ?_
    simp [f_laws_szReplica, binStr, e0, n0]
  obtain ⟨y0, z0⟩ := less_pos (by omega) q0 n0
  have e1 : callL Ph ext 252 [.agg [.pv (.int .i64 c4), .pv (.int .i64 c5), .pv (.lst c6), .pv (.int .i64 c7), .pv (.int .i64 c8)], vint .i64 l0] = some (vint .i64 (less l0 (szL [.int .i64 c4, .int .i64 c5, .lst c6, .int .i64 c7, .int .i64 c8]))) := szSync_ok (ext := ext) (r := [.int .i64 c4, .int .i64 c5, .lst c6, .int .i64 c7, .int .i64 c8]) (⟨g4, g5, g6, g7, g8, trivial⟩) l0 (by omega) (by omega)
  generalize hS1 : szL [.int .i64 c4, .int .i64 c5, .lst c6, .int .i64 c7, .int .i64 c8] = S1 at tot e1
  generalize q1 : less l0 S1 = l1 at e1
  by_cases n1 : l1 < 0
  · have n1' := less_lt' (by omega) q1 n1
    rw [less_lt (by omega)]
    refine callL_fn (fn := f_laws_szReplica) rfl ?_
    simp [f_laws_szReplica, binStr, e0, e1, n0, n1]
  obtain ⟨y1, z1⟩ := less_pos (by omega) q1 n1
  rw [less_ge' (n := T) (l := l1) (by omega) (by omega)]
  refine callL_fn (fn := f_laws_szReplica) rfl ?_
  simp [f_laws_szReplica, binStr, e0, e1, n0, n1]
theorem eqReplica_ok {r : List PV} (h : HasL t_Replica r) : callL Ph ext 238 [.agg (r.map .pv), .agg (r.map .pv)] = some (vbool true) := by
  obtain ⟨p0, r1, rfl, g0, k1⟩ := HasL_cons h
  obtain ⟨p1, r2, rfl, g1, k2⟩ := HasL_cons k1
  obtain ⟨p2, r3, rfl, g2, k3⟩ := HasL_cons k2
  obtain ⟨p3, r4, rfl, g3, k4⟩ := HasL_cons k3
  obtain ⟨p4, r5, rfl, g4, k5⟩ := HasL_cons k4
  obtain ⟨p5, r6, rfl, g5, k6⟩ := HasL_cons k5
  obtain ⟨p6, r7, rfl, g6, k7⟩ := HasL_cons k6
  obtain ⟨p7, r8, rfl, g7, k8⟩ := HasL_cons k7
  obtain ⟨p8, r9, rfl, g8, k9⟩ := HasL_cons k8
  obtain rfl := HasL_nil k9
  obtain ⟨c0, rfl⟩ := Has_str g0
  obtain ⟨c1, rfl⟩ := Has_lst g1
  obtain ⟨c2, rfl⟩ := Has_int g2
  obtain ⟨c3, rfl⟩ := Has_int g3
  obtain ⟨c4, rfl⟩ := Has_int g4
  obtain ⟨c5, rfl⟩ := Has_int g5
  obtain ⟨c6, rfl⟩ := Has_lst g6
  obtain ⟨c7, rfl⟩ := Has_int g7
  obtain ⟨c8, rfl⟩ := Has_int g8
  show callL Ph ext 238 [.agg [.pv (.str c0), .pv (.lst c1), .pv (.int .i64 c2), .pv (.int .i64 c3), .pv (.int .i64 c4), .pv (.int .i64 c5), .pv (.lst c6), .pv (.int .i64 c7), .pv (.int .i64 c8)], .agg [.pv (.str c0), .pv (.lst c1), .pv (.int .i64 c2), .pv (.int .i64 c3), .pv (.int .i64 c4), .pv (.int .i64 c5), .pv (.lst c6), .pv (.int .i64 c7), .pv (.int .i64 c8)]] = _
  have e0 : callL Ph ext 24 [.agg [.pv (.str c0), .pv (.lst c1), .pv (.int .i64 c2)], .agg [.pv (.str c0), .pv (.lst c1), .pv (.int .i64 c2)]] = some (vbool true) := eqStore_ok (ext := ext) (r := [.str c0, .lst c1, .int .i64 c2]) (⟨g0, g1, g2, trivial⟩)
  have e1 : callL Ph ext 260 [.agg [.pv (.int .i64 c4), .pv (.int .i64 c5), .pv (.lst c6), .pv (.int .i64 c7), .pv (.int .i64 c8)], .agg [.pv (.int .i64 c4), .pv (.int .i64 c5), .pv (.lst c6), .pv (.int .i64 c7), .pv (.int .i64 c8)]] = some (vbool true) := eqSync_ok (ext := ext) (r := [.int .i64 c4, .int .i64 c5, .lst c6, .int .i64 c7, .int .i64 c8]) (⟨g4, g5, g6, g7, g8, trivial⟩)
  refine callL_fn (fn := f_laws_eqReplica) rfl ?_
  simp [f_laws_eqReplica, binStr, e0, e1]
end
end Gi
