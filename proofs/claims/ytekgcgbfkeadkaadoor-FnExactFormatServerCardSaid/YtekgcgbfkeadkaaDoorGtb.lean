/- What the copying, measuring and comparing functions of the laws compute, written by program. -/
import Derived.Test.YtekgcgbfkeadkaaDoorGta
namespace Gi
open Go Go.RowKit
set_option linter.unusedVariables false
set_option linter.unusedSimpArgs false
section
variable {ext : Nat → List V → Option V}
def t_FieldS : List PTy := [.str, .int .i64]
def t_Item : List PTy := [.int .i64, .int .i64, .str, .lst t_FieldS]
def t_LoadedS : List PTy := [.str, .int .i64]
def t_InstrS : List PTy := [.int .i64, .int .i64, .int .i64, .str]
def t_IntS : List PTy := [.int .i64]
def t_Page : List PTy := [.int .i64, .str, .str, .int .i64, .lst t_LoadedS, .lst t_InstrS, .int .i64, .lst t_IntS, .int .i64, .bool, .bool]
def t_ItemS : List PTy := [.int .i64, .int .i64, .str, .lst t_FieldS]
def t_AppliedS : List PTy := [.int .i64, .int .i64]
def t_WriteS : List PTy := [.int .i64, .int .i64, .int .i64, .int .i64, .str, .str, .int .i64]
def t_Server : List PTy := [.str, .lst t_ItemS, .int .i64, .lst t_AppliedS, .lst t_WriteS]
def t_Store : List PTy := [.str, .lst t_ItemS, .int .i64]
def t_OpS : List PTy := [.int .i64, .str, .int .i64, .int .i64, .str, .lst t_FieldS, .str]
def t_StoreS : List PTy := [.str, .lst t_ItemS, .int .i64]
def t_Tx : List PTy := [.int .i64, .lst t_OpS, .int .i64, .int .i64, .lst t_StoreS]
def t_Key : List PTy := [.int .i64, .int .i64, .str]
def t_Record : List PTy := [.lst t_FieldS]
def t_Machine : List PTy := [.lst t_InstrS, .int .i64, .lst t_IntS, .int .i64, .bool, .bool]
def t_Loaded : List PTy := [.str, .int .i64]
def t_Applied : List PTy := [.int .i64, .int .i64]
def t_Write : List PTy := [.int .i64, .int .i64, .int .i64, .int .i64, .str, .str, .int .i64]
def t_Op : List PTy := [.int .i64, .str, .int .i64, .int .i64, .str, .lst t_FieldS, .str]
def t_Field : List PTy := [.str, .int .i64]
def t_Instr : List PTy := [.int .i64, .int .i64, .int .i64, .str]
theorem toKey_ok {c0 : Int} {c1 : Int} {c2 : List UInt8} (h0 : Has (.int .i64) (.int .i64 c0)) (h1 : Has (.int .i64) (.int .i64 c1)) (h2 : Has (.str) (.str c2)) (hs : szL [.int .i64 c0, .int .i64 c1, .str c2] ≤ 1048576) : callL Ph ext 34 [.agg [.pv (.int .i64 c0), .pv (.int .i64 c1), .pv (.str c2)]] = some (.agg [.pv (.int .i64 c0), .pv (.int .i64 c1), .pv (.str c2)]) := by
  refine callL_fn (fn := f_laws_toKey) rfl ?_
  simp [f_laws_toKey, start, execL, exec, execOps, stepO, wants, fop, eop, Opd.ev, put, V.cells, plain, loadV, cut, isInt, isStr, isBool, bin, binInt, binStr, un, asList, L.view, viewArgs, V.view, viewL, done, finish, resultsOf, resultOf, comps, comp, giveLs, giveL, arrsOf, V.flat, L.flat, setV, setL, storeV, putAt, thaw, thawL, freezeVs, freezeLs, freezeL, V.mut, L.mut]
theorem toKey_copies {r : List PV} (h : HasL t_Key r) (hs : szL r ≤ 1048576) : Copies Ph ext 34 true r := by
  obtain ⟨p0, r1, rfl, g0, k1⟩ := HasL_cons h
  obtain ⟨p1, r2, rfl, g1, k2⟩ := HasL_cons k1
  obtain ⟨p2, r3, rfl, g2, k3⟩ := HasL_cons k2
  obtain rfl := HasL_nil k3
  obtain ⟨c0, rfl⟩ := Has_int g0
  obtain ⟨c1, rfl⟩ := Has_int g1
  obtain ⟨c2, rfl⟩ := Has_str g2
  exact ⟨_, toKey_ok g0 g1 g2 hs, rfl, rfl, fun _ => ⟨rfl, rfl⟩⟩
theorem szKey_ok {r : List PV} (h : HasL t_Key r) : Measures Ph ext 30 r := by
  obtain ⟨p0, r1, rfl, g0, k1⟩ := HasL_cons h
  obtain ⟨p1, r2, rfl, g1, k2⟩ := HasL_cons k1
  obtain ⟨p2, r3, rfl, g2, k3⟩ := HasL_cons k2
  obtain rfl := HasL_nil k3
  obtain ⟨c0, rfl⟩ := Has_int g0
  obtain ⟨c1, rfl⟩ := Has_int g1
  obtain ⟨c2, rfl⟩ := Has_str g2
  intro left h0 h1
  show callL Ph ext 30 [.agg [.pv (.int .i64 c0), .pv (.int .i64 c1), .pv (.str c2)], vint .i64 left] = _
  have b0 : c2.length ≤ maxLen := g2
  unfold maxLen at b0
  obtain ⟨l0, q0⟩ : ∃ x : Int, x = left - c2.length := ⟨_, rfl⟩
  have e0 : IntKind.i64.wrap (left - (c2.length : Int)) = l0 := by rw [q0, IntKind.wrap_i64]; omega
  by_cases n0 : l0 < 0
  · rw [less_lt (by simp only [szL, sz] at *; omega)]
    refine callL_fn (fn := f_laws_szKey) rfl ?_
    simp [f_laws_szKey, start, execL, exec, execOps, stepO, wants, fop, eop, Opd.ev, put, V.cells, plain, loadV, cut, isInt, isStr, isBool, bin, binInt, binStr, un, asList, L.view, viewArgs, V.view, viewL, done, finish, resultsOf, resultOf, comps, comp, giveLs, giveL, arrsOf, V.flat, L.flat, setV, setL, storeV, putAt, thaw, thawL, freezeVs, freezeLs, freezeL, V.mut, L.mut, e0, n0]
  rw [less_ge' (n := szL [.int .i64 c0, .int .i64 c1, .str c2]) (l := l0) (by simp only [szL, sz] at *; omega) (by simp only [szL, sz] at *; omega)]
  refine callL_fn (fn := f_laws_szKey) rfl ?_
  simp [f_laws_szKey, start, execL, exec, execOps, stepO, wants, fop, eop, Opd.ev, put, V.cells, plain, loadV, cut, isInt, isStr, isBool, bin, binInt, binStr, un, asList, L.view, viewArgs, V.view, viewL, done, finish, resultsOf, resultOf, comps, comp, giveLs, giveL, arrsOf, V.flat, L.flat, setV, setL, storeV, putAt, thaw, thawL, freezeVs, freezeLs, freezeL, V.mut, L.mut, e0, n0]
theorem eqKey_ok {r : List PV} (h : HasL t_Key r) : callL Ph ext 38 [.agg (r.map .pv), .agg (r.map .pv)] = some (vbool true) := by
  obtain ⟨p0, r1, rfl, g0, k1⟩ := HasL_cons h
  obtain ⟨p1, r2, rfl, g1, k2⟩ := HasL_cons k1
  obtain ⟨p2, r3, rfl, g2, k3⟩ := HasL_cons k2
  obtain rfl := HasL_nil k3
  obtain ⟨c0, rfl⟩ := Has_int g0
  obtain ⟨c1, rfl⟩ := Has_int g1
  obtain ⟨c2, rfl⟩ := Has_str g2
  show callL Ph ext 38 [.agg [.pv (.int .i64 c0), .pv (.int .i64 c1), .pv (.str c2)], .agg [.pv (.int .i64 c0), .pv (.int .i64 c1), .pv (.str c2)]] = _
  refine callL_fn (fn := f_laws_eqKey) rfl ?_
  simp [f_laws_eqKey, start, execL, exec, execOps, stepO, wants, fop, eop, Opd.ev, put, V.cells, plain, loadV, cut, isInt, isStr, isBool, bin, binInt, binStr, un, asList, L.view, viewArgs, V.view, viewL, done, finish, resultsOf, resultOf, comps, comp, giveLs, giveL, arrsOf, V.flat, L.flat, setV, setL, storeV, putAt, thaw, thawL, freezeVs, freezeLs, freezeL, V.mut, L.mut]
theorem toField_ok {c0 : List UInt8} {c1 : Int} (h0 : Has (.str) (.str c0)) (h1 : Has (.int .i64) (.int .i64 c1)) (hs : szL [.str c0, .int .i64 c1] ≤ 1048576) : callL Ph ext 89 [.agg [.pv (.str c0), .pv (.int .i64 c1)]] = some (.agg [.pv (.str c0), .pv (.int .i64 c1)]) := by
  refine callL_fn (fn := f_laws_toField) rfl ?_
  simp [f_laws_toField, start, execL, exec, execOps, stepO, wants, fop, eop, Opd.ev, put, V.cells, plain, loadV, cut, isInt, isStr, isBool, bin, binInt, binStr, un, asList, L.view, viewArgs, V.view, viewL, done, finish, resultsOf, resultOf, comps, comp, giveLs, giveL, arrsOf, V.flat, L.flat, setV, setL, storeV, putAt, thaw, thawL, freezeVs, freezeLs, freezeL, V.mut, L.mut]
theorem toField_copies {r : List PV} (h : HasL t_Field r) (hs : szL r ≤ 1048576) : Copies Ph ext 89 true r := by
  obtain ⟨p0, r1, rfl, g0, k1⟩ := HasL_cons h
  obtain ⟨p1, r2, rfl, g1, k2⟩ := HasL_cons k1
  obtain rfl := HasL_nil k2
  obtain ⟨c0, rfl⟩ := Has_str g0
  obtain ⟨c1, rfl⟩ := Has_int g1
  exact ⟨_, toField_ok g0 g1 hs, rfl, rfl, fun _ => ⟨rfl, rfl⟩⟩
theorem szField_ok {r : List PV} (h : HasL t_Field r) : Measures Ph ext 87 r := by
  obtain ⟨p0, r1, rfl, g0, k1⟩ := HasL_cons h
  obtain ⟨p1, r2, rfl, g1, k2⟩ := HasL_cons k1
  obtain rfl := HasL_nil k2
  obtain ⟨c0, rfl⟩ := Has_str g0
  obtain ⟨c1, rfl⟩ := Has_int g1
  intro left h0 h1
  show callL Ph ext 87 [.agg [.pv (.str c0), .pv (.int .i64 c1)], vint .i64 left] = _
  have b0 : c0.length ≤ maxLen := g0
  unfold maxLen at b0
  obtain ⟨l0, q0⟩ : ∃ x : Int, x = left - c0.length := ⟨_, rfl⟩
  have e0 : IntKind.i64.wrap (left - (c0.length : Int)) = l0 := by rw [q0, IntKind.wrap_i64]; omega
  by_cases n0 : l0 < 0
  · rw [less_lt (by simp only [szL, sz] at *; omega)]
    refine callL_fn (fn := f_laws_szField) rfl ?_
    simp [f_laws_szField, start, execL, exec, execOps, stepO, wants, fop, eop, Opd.ev, put, V.cells, plain, loadV, cut, isInt, isStr, isBool, bin, binInt, binStr, un, asList, L.view, viewArgs, V.view, viewL, done, finish, resultsOf, resultOf, comps, comp, giveLs, giveL, arrsOf, V.flat, L.flat, setV, setL, storeV, putAt, thaw, thawL, freezeVs, freezeLs, freezeL, V.mut, L.mut, e0, n0]
  rw [less_ge' (n := szL [.str c0, .int .i64 c1]) (l := l0) (by simp only [szL, sz] at *; omega) (by simp only [szL, sz] at *; omega)]
  refine callL_fn (fn := f_laws_szField) rfl ?_
  simp [f_laws_szField, start, execL, exec, execOps, stepO, wants, fop, eop, Opd.ev, put, V.cells, plain, loadV, cut, isInt, isStr, isBool, bin, binInt, binStr, un, asList, L.view, viewArgs, V.view, viewL, done, finish, resultsOf, resultOf, comps, comp, giveLs, giveL, arrsOf, V.flat, L.flat, setV, setL, storeV, putAt, thaw, thawL, freezeVs, freezeLs, freezeL, V.mut, L.mut, e0, n0]
theorem eqField_ok {r : List PV} (h : HasL t_Field r) : callL Ph ext 91 [.agg (r.map .pv), .agg (r.map .pv)] = some (vbool true) := by
  obtain ⟨p0, r1, rfl, g0, k1⟩ := HasL_cons h
  obtain ⟨p1, r2, rfl, g1, k2⟩ := HasL_cons k1
  obtain rfl := HasL_nil k2
  obtain ⟨c0, rfl⟩ := Has_str g0
  obtain ⟨c1, rfl⟩ := Has_int g1
  show callL Ph ext 91 [.agg [.pv (.str c0), .pv (.int .i64 c1)], .agg [.pv (.str c0), .pv (.int .i64 c1)]] = _
  refine callL_fn (fn := f_laws_eqField) rfl ?_
  simp [f_laws_eqField, start, execL, exec, execOps, stepO, wants, fop, eop, Opd.ev, put, V.cells, plain, loadV, cut, isInt, isStr, isBool, bin, binInt, binStr, un, asList, L.view, viewArgs, V.view, viewL, done, finish, resultsOf, resultOf, comps, comp, giveLs, giveL, arrsOf, V.flat, L.flat, setV, setL, storeV, putAt, thaw, thawL, freezeVs, freezeLs, freezeL, V.mut, L.mut]
theorem toFieldS_ok {rows : List (List PV)} (h : Has (.lst t_FieldS) (.lst rows)) (hs : sz (.lst rows) ≤ 1048576) : callL Ph ext 66 [vlst rows] = some (.one (.own 2 rows)) := by
  obtain ⟨hl, hr⟩ := Has_rows h
  have hn : rows.length ≤ 1048576 := Nat.le_trans (Nat.le_add_right _ _) hs
  refine toS_ok (Φ := Ph) (ext := ext) (k := 66) (bytes := 24) (z := 2) (kx := 89) (zero := [(.str []), (.int .i64 0)]) (fl := true) rfl (fun r m => HasL_len (hr r m)) (by decide) rfl hl (by omega) (fun r m => ?_)
  exact toField_copies (hr r m) (row_le m hs)
theorem szFieldS_ok {rows : List (List PV)} (h : Has (.lst t_FieldS) (.lst rows)) {left : Int} (h0 : 0 ≤ left) (h1 : left ≤ 1048576) : callL Ph ext 64 [vlst rows, vint .i64 left] = some (vint .i64 (less left (sz (.lst rows)))) := by
  obtain ⟨hl, hr⟩ := Has_rows h
  exact szS_ok (Φ := Ph) (ext := ext) (k := 64) (z := 2) (kx := 87) rfl (fun r m => HasL_len (hr r m)) hl (fun r m => szField_ok (hr r m)) h0 h1
theorem eqFieldS_ok {rows : List (List PV)} (h : Has (.lst t_FieldS) (.lst rows)) : callL Ph ext 69 [vlst rows, vlst rows] = some (vbool true) := by
  obtain ⟨hl, hr⟩ := Has_rows h
  exact eqS_ok (Φ := Ph) (ext := ext) (k := 69) (z := 2) (kx := 91) rfl (fun r m => HasL_len (hr r m)) hl (fun r m => eqField_ok (hr r m))
theorem toRecord_ok {c0 : List (List PV)} (h0 : Has (.lst t_FieldS) (.lst c0)) (hs : szL [.lst c0] ≤ 1048576) : callL Ph ext 35 [.agg [.pv (.lst c0)]] = some (.agg [.own 2 c0]) := by
  have e0 := (toFieldS_ok (ext := ext) h0 (by simp only [szL, sz] at hs ⊢; omega))
  refine callL_fn (fn := f_laws_toRecord) rfl ?_
  simp [f_laws_toRecord, start, execL, exec, execOps, stepO, wants, fop, eop, Opd.ev, put, V.cells, plain, loadV, cut, isInt, isStr, isBool, bin, binInt, binStr, un, asList, L.view, viewArgs, V.view, viewL, done, finish, resultsOf, resultOf, comps, comp, giveLs, giveL, arrsOf, V.flat, L.flat, setV, setL, storeV, putAt, thaw, thawL, freezeVs, freezeLs, freezeL, V.mut, L.mut, e0]
theorem toRecord_copies {r : List PV} (h : HasL t_Record r) (hs : szL r ≤ 1048576) : Copies Ph ext 35 false r := by
  obtain ⟨p0, r1, rfl, g0, k1⟩ := HasL_cons h
  obtain rfl := HasL_nil k1
  obtain ⟨c0, rfl⟩ := Has_lst g0
  exact ⟨_, toRecord_ok g0 hs, rfl, rfl, fun h => by cases h⟩
theorem szRecord_ok {r : List PV} (h : HasL t_Record r) : Measures Ph ext 31 r := by
  obtain ⟨p0, r1, rfl, g0, k1⟩ := HasL_cons h
  obtain rfl := HasL_nil k1
  obtain ⟨c0, rfl⟩ := Has_lst g0
  intro left h0 h1
  show callL Ph ext 31 [.agg [.pv (.lst c0)], vint .i64 left] = _
  have e0 := szFieldS_ok (ext := ext) g0 (left := left) (by omega) (by omega)
  generalize q0 : less left (sz (.lst c0)) = l0 at e0
  by_cases n0 : l0 < 0
  · have n0' := less_lt' (by omega) q0 n0
    rw [less_lt (by simp only [szL, sz] at *; omega)]
    refine callL_fn (fn := f_laws_szRecord) rfl ?_
    simp [f_laws_szRecord, start, execL, exec, execOps, stepO, wants, fop, eop, Opd.ev, put, V.cells, plain, loadV, cut, isInt, isStr, isBool, bin, binInt, binStr, un, asList, L.view, viewArgs, V.view, viewL, done, finish, resultsOf, resultOf, comps, comp, giveLs, giveL, arrsOf, V.flat, L.flat, setV, setL, storeV, putAt, thaw, thawL, freezeVs, freezeLs, freezeL, V.mut, L.mut, e0, n0]
  obtain ⟨y0, z0⟩ := less_pos (by omega) q0 n0
  rw [less_ge' (n := szL [.lst c0]) (l := l0) (by simp only [szL, sz] at *; omega) (by simp only [szL, sz] at *; omega)]
  refine callL_fn (fn := f_laws_szRecord) rfl ?_
  simp [f_laws_szRecord, start, execL, exec, execOps, stepO, wants, fop, eop, Opd.ev, put, V.cells, plain, loadV, cut, isInt, isStr, isBool, bin, binInt, binStr, un, asList, L.view, viewArgs, V.view, viewL, done, finish, resultsOf, resultOf, comps, comp, giveLs, giveL, arrsOf, V.flat, L.flat, setV, setL, storeV, putAt, thaw, thawL, freezeVs, freezeLs, freezeL, V.mut, L.mut, e0, n0]
theorem eqRecord_ok {r : List PV} (h : HasL t_Record r) : callL Ph ext 39 [.agg (r.map .pv), .agg (r.map .pv)] = some (vbool true) := by
  obtain ⟨p0, r1, rfl, g0, k1⟩ := HasL_cons h
  obtain rfl := HasL_nil k1
  obtain ⟨c0, rfl⟩ := Has_lst g0
  show callL Ph ext 39 [.agg [.pv (.lst c0)], .agg [.pv (.lst c0)]] = _
  have e0 := eqFieldS_ok (ext := ext) g0
  refine callL_fn (fn := f_laws_eqRecord) rfl ?_
  simp [f_laws_eqRecord, start, execL, exec, execOps, stepO, wants, fop, eop, Opd.ev, put, V.cells, plain, loadV, cut, isInt, isStr, isBool, bin, binInt, binStr, un, asList, L.view, viewArgs, V.view, viewL, done, finish, resultsOf, resultOf, comps, comp, giveLs, giveL, arrsOf, V.flat, L.flat, setV, setL, storeV, putAt, thaw, thawL, freezeVs, freezeLs, freezeL, V.mut, L.mut, e0]
theorem toItem_ok {c0 : Int} {c1 : Int} {c2 : List UInt8} {c3 : List (List PV)} (h0 : Has (.int .i64) (.int .i64 c0)) (h1 : Has (.int .i64) (.int .i64 c1)) (h2 : Has (.str) (.str c2)) (h3 : Has (.lst t_FieldS) (.lst c3)) (hs : szL [.int .i64 c0, .int .i64 c1, .str c2, .lst c3] ≤ 1048576) : callL Ph ext 7 [.agg [.pv (.int .i64 c0), .pv (.int .i64 c1), .pv (.str c2), .pv (.lst c3)]] = some (.agg [.pv (.int .i64 c0), .pv (.int .i64 c1), .pv (.str c2), .own 2 c3]) := by
  have e0 := (toKey_ok (ext := ext) h0 h1 h2 (by simp only [szL, sz] at hs ⊢; omega))
  have e1 := (toRecord_ok (ext := ext) h3 (by simp only [szL, sz] at hs ⊢; omega))
  refine callL_fn (fn := f_laws_toItem) rfl ?_
  simp [f_laws_toItem, start, execL, exec, execOps, stepO, wants, fop, eop, Opd.ev, put, V.cells, plain, loadV, cut, isInt, isStr, isBool, bin, binInt, binStr, un, asList, L.view, viewArgs, V.view, viewL, done, finish, resultsOf, resultOf, comps, comp, giveLs, giveL, arrsOf, V.flat, L.flat, setV, setL, storeV, putAt, thaw, thawL, freezeVs, freezeLs, freezeL, V.mut, L.mut, e0, e1]
theorem toItem_copies {r : List PV} (h : HasL t_Item r) (hs : szL r ≤ 1048576) : Copies Ph ext 7 false r := by
  obtain ⟨p0, r1, rfl, g0, k1⟩ := HasL_cons h
  obtain ⟨p1, r2, rfl, g1, k2⟩ := HasL_cons k1
  obtain ⟨p2, r3, rfl, g2, k3⟩ := HasL_cons k2
  obtain ⟨p3, r4, rfl, g3, k4⟩ := HasL_cons k3
  obtain rfl := HasL_nil k4
  obtain ⟨c0, rfl⟩ := Has_int g0
  obtain ⟨c1, rfl⟩ := Has_int g1
  obtain ⟨c2, rfl⟩ := Has_str g2
  obtain ⟨c3, rfl⟩ := Has_lst g3
  exact ⟨_, toItem_ok g0 g1 g2 g3 hs, rfl, rfl, fun h => by cases h⟩
theorem szItem_ok {r : List PV} (h : HasL t_Item r) : Measures Ph ext 5 r := by
  obtain ⟨p0, r1, rfl, g0, k1⟩ := HasL_cons h
  obtain ⟨p1, r2, rfl, g1, k2⟩ := HasL_cons k1
  obtain ⟨p2, r3, rfl, g2, k3⟩ := HasL_cons k2
  obtain ⟨p3, r4, rfl, g3, k4⟩ := HasL_cons k3
  obtain rfl := HasL_nil k4
  obtain ⟨c0, rfl⟩ := Has_int g0
  obtain ⟨c1, rfl⟩ := Has_int g1
  obtain ⟨c2, rfl⟩ := Has_str g2
  obtain ⟨c3, rfl⟩ := Has_lst g3
  intro left h0 h1
  show callL Ph ext 5 [.agg [.pv (.int .i64 c0), .pv (.int .i64 c1), .pv (.str c2), .pv (.lst c3)], vint .i64 left] = _
  have e0 : callL Ph ext 30 [.agg [.pv (.int .i64 c0), .pv (.int .i64 c1), .pv (.str c2)], vint .i64 left] = some (vint .i64 (less left (szL [.int .i64 c0, .int .i64 c1, .str c2]))) := szKey_ok (ext := ext) (r := [.int .i64 c0, .int .i64 c1, .str c2]) (⟨g0, g1, g2, trivial⟩) left (by omega) (by omega)
  generalize q0 : less left (szL [.int .i64 c0, .int .i64 c1, .str c2]) = l0 at e0
  by_cases n0 : l0 < 0
  · have n0' := less_lt' (by omega) q0 n0
    rw [less_lt (by simp only [szL, sz] at *; omega)]
    refine callL_fn (fn := f_laws_szItem) rfl ?_
    simp [f_laws_szItem, start, execL, exec, execOps, stepO, wants, fop, eop, Opd.ev, put, V.cells, plain, loadV, cut, isInt, isStr, isBool, bin, binInt, binStr, un, asList, L.view, viewArgs, V.view, viewL, done, finish, resultsOf, resultOf, comps, comp, giveLs, giveL, arrsOf, V.flat, L.flat, setV, setL, storeV, putAt, thaw, thawL, freezeVs, freezeLs, freezeL, V.mut, L.mut, e0, n0]
  obtain ⟨y0, z0⟩ := less_pos (by omega) q0 n0
  have e1 : callL Ph ext 31 [.agg [.pv (.lst c3)], vint .i64 l0] = some (vint .i64 (less l0 (szL [.lst c3]))) := szRecord_ok (ext := ext) (r := [.lst c3]) (⟨g3, trivial⟩) l0 (by omega) (by omega)
  generalize q1 : less l0 (szL [.lst c3]) = l1 at e1
  by_cases n1 : l1 < 0
  · have n1' := less_lt' (by omega) q1 n1
    rw [less_lt (by simp only [szL, sz] at *; omega)]
    refine callL_fn (fn := f_laws_szItem) rfl ?_
    simp [f_laws_szItem, start, execL, exec, execOps, stepO, wants, fop, eop, Opd.ev, put, V.cells, plain, loadV, cut, isInt, isStr, isBool, bin, binInt, binStr, un, asList, L.view, viewArgs, V.view, viewL, done, finish, resultsOf, resultOf, comps, comp, giveLs, giveL, arrsOf, V.flat, L.flat, setV, setL, storeV, putAt, thaw, thawL, freezeVs, freezeLs, freezeL, V.mut, L.mut, e0, e1, n0, n1]
  obtain ⟨y1, z1⟩ := less_pos (by omega) q1 n1
  rw [less_ge' (n := szL [.int .i64 c0, .int .i64 c1, .str c2, .lst c3]) (l := l1) (by simp only [szL, sz] at *; omega) (by simp only [szL, sz] at *; omega)]
  refine callL_fn (fn := f_laws_szItem) rfl ?_
  simp [f_laws_szItem, start, execL, exec, execOps, stepO, wants, fop, eop, Opd.ev, put, V.cells, plain, loadV, cut, isInt, isStr, isBool, bin, binInt, binStr, un, asList, L.view, viewArgs, V.view, viewL, done, finish, resultsOf, resultOf, comps, comp, giveLs, giveL, arrsOf, V.flat, L.flat, setV, setL, storeV, putAt, thaw, thawL, freezeVs, freezeLs, freezeL, V.mut, L.mut, e0, e1, n0, n1]
theorem eqItem_ok {r : List PV} (h : HasL t_Item r) : callL Ph ext 9 [.agg (r.map .pv), .agg (r.map .pv)] = some (vbool true) := by
  obtain ⟨p0, r1, rfl, g0, k1⟩ := HasL_cons h
  obtain ⟨p1, r2, rfl, g1, k2⟩ := HasL_cons k1
  obtain ⟨p2, r3, rfl, g2, k3⟩ := HasL_cons k2
  obtain ⟨p3, r4, rfl, g3, k4⟩ := HasL_cons k3
  obtain rfl := HasL_nil k4
  obtain ⟨c0, rfl⟩ := Has_int g0
  obtain ⟨c1, rfl⟩ := Has_int g1
  obtain ⟨c2, rfl⟩ := Has_str g2
  obtain ⟨c3, rfl⟩ := Has_lst g3
  show callL Ph ext 9 [.agg [.pv (.int .i64 c0), .pv (.int .i64 c1), .pv (.str c2), .pv (.lst c3)], .agg [.pv (.int .i64 c0), .pv (.int .i64 c1), .pv (.str c2), .pv (.lst c3)]] = _
  have e0 : callL Ph ext 38 [.agg [.pv (.int .i64 c0), .pv (.int .i64 c1), .pv (.str c2)], .agg [.pv (.int .i64 c0), .pv (.int .i64 c1), .pv (.str c2)]] = some (vbool true) := eqKey_ok (ext := ext) (r := [.int .i64 c0, .int .i64 c1, .str c2]) (⟨g0, g1, g2, trivial⟩)
  have e1 : callL Ph ext 39 [.agg [.pv (.lst c3)], .agg [.pv (.lst c3)]] = some (vbool true) := eqRecord_ok (ext := ext) (r := [.lst c3]) (⟨g3, trivial⟩)
  refine callL_fn (fn := f_laws_eqItem) rfl ?_
  simp [f_laws_eqItem, start, execL, exec, execOps, stepO, wants, fop, eop, Opd.ev, put, V.cells, plain, loadV, cut, isInt, isStr, isBool, bin, binInt, binStr, un, asList, L.view, viewArgs, V.view, viewL, done, finish, resultsOf, resultOf, comps, comp, giveLs, giveL, arrsOf, V.flat, L.flat, setV, setL, storeV, putAt, thaw, thawL, freezeVs, freezeLs, freezeL, V.mut, L.mut, e0, e1]
theorem toLoaded_ok {c0 : List UInt8} {c1 : Int} (h0 : Has (.str) (.str c0)) (h1 : Has (.int .i64) (.int .i64 c1)) (hs : szL [.str c0, .int .i64 c1] ≤ 1048576) : callL Ph ext 73 [.agg [.pv (.str c0), .pv (.int .i64 c1)]] = some (.agg [.pv (.str c0), .pv (.int .i64 c1)]) := by
  refine callL_fn (fn := f_laws_toLoaded) rfl ?_
  simp [f_laws_toLoaded, start, execL, exec, execOps, stepO, wants, fop, eop, Opd.ev, put, V.cells, plain, loadV, cut, isInt, isStr, isBool, bin, binInt, binStr, un, asList, L.view, viewArgs, V.view, viewL, done, finish, resultsOf, resultOf, comps, comp, giveLs, giveL, arrsOf, V.flat, L.flat, setV, setL, storeV, putAt, thaw, thawL, freezeVs, freezeLs, freezeL, V.mut, L.mut]
theorem toLoaded_copies {r : List PV} (h : HasL t_Loaded r) (hs : szL r ≤ 1048576) : Copies Ph ext 73 true r := by
  obtain ⟨p0, r1, rfl, g0, k1⟩ := HasL_cons h
  obtain ⟨p1, r2, rfl, g1, k2⟩ := HasL_cons k1
  obtain rfl := HasL_nil k2
  obtain ⟨c0, rfl⟩ := Has_str g0
  obtain ⟨c1, rfl⟩ := Has_int g1
  exact ⟨_, toLoaded_ok g0 g1 hs, rfl, rfl, fun _ => ⟨rfl, rfl⟩⟩
theorem szLoaded_ok {r : List PV} (h : HasL t_Loaded r) : Measures Ph ext 70 r := by
  obtain ⟨p0, r1, rfl, g0, k1⟩ := HasL_cons h
  obtain ⟨p1, r2, rfl, g1, k2⟩ := HasL_cons k1
  obtain rfl := HasL_nil k2
  obtain ⟨c0, rfl⟩ := Has_str g0
  obtain ⟨c1, rfl⟩ := Has_int g1
  intro left h0 h1
  show callL Ph ext 70 [.agg [.pv (.str c0), .pv (.int .i64 c1)], vint .i64 left] = _
  have b0 : c0.length ≤ maxLen := g0
  unfold maxLen at b0
  obtain ⟨l0, q0⟩ : ∃ x : Int, x = left - c0.length := ⟨_, rfl⟩
  have e0 : IntKind.i64.wrap (left - (c0.length : Int)) = l0 := by rw [q0, IntKind.wrap_i64]; omega
  by_cases n0 : l0 < 0
  · rw [less_lt (by simp only [szL, sz] at *; omega)]
    refine callL_fn (fn := f_laws_szLoaded) rfl ?_
    simp [f_laws_szLoaded, start, execL, exec, execOps, stepO, wants, fop, eop, Opd.ev, put, V.cells, plain, loadV, cut, isInt, isStr, isBool, bin, binInt, binStr, un, asList, L.view, viewArgs, V.view, viewL, done, finish, resultsOf, resultOf, comps, comp, giveLs, giveL, arrsOf, V.flat, L.flat, setV, setL, storeV, putAt, thaw, thawL, freezeVs, freezeLs, freezeL, V.mut, L.mut, e0, n0]
  rw [less_ge' (n := szL [.str c0, .int .i64 c1]) (l := l0) (by simp only [szL, sz] at *; omega) (by simp only [szL, sz] at *; omega)]
  refine callL_fn (fn := f_laws_szLoaded) rfl ?_
  simp [f_laws_szLoaded, start, execL, exec, execOps, stepO, wants, fop, eop, Opd.ev, put, V.cells, plain, loadV, cut, isInt, isStr, isBool, bin, binInt, binStr, un, asList, L.view, viewArgs, V.view, viewL, done, finish, resultsOf, resultOf, comps, comp, giveLs, giveL, arrsOf, V.flat, L.flat, setV, setL, storeV, putAt, thaw, thawL, freezeVs, freezeLs, freezeL, V.mut, L.mut, e0, n0]
theorem eqLoaded_ok {r : List PV} (h : HasL t_Loaded r) : callL Ph ext 76 [.agg (r.map .pv), .agg (r.map .pv)] = some (vbool true) := by
  obtain ⟨p0, r1, rfl, g0, k1⟩ := HasL_cons h
  obtain ⟨p1, r2, rfl, g1, k2⟩ := HasL_cons k1
  obtain rfl := HasL_nil k2
  obtain ⟨c0, rfl⟩ := Has_str g0
  obtain ⟨c1, rfl⟩ := Has_int g1
  show callL Ph ext 76 [.agg [.pv (.str c0), .pv (.int .i64 c1)], .agg [.pv (.str c0), .pv (.int .i64 c1)]] = _
  refine callL_fn (fn := f_laws_eqLoaded) rfl ?_
  simp [f_laws_eqLoaded, start, execL, exec, execOps, stepO, wants, fop, eop, Opd.ev, put, V.cells, plain, loadV, cut, isInt, isStr, isBool, bin, binInt, binStr, un, asList, L.view, viewArgs, V.view, viewL, done, finish, resultsOf, resultOf, comps, comp, giveLs, giveL, arrsOf, V.flat, L.flat, setV, setL, storeV, putAt, thaw, thawL, freezeVs, freezeLs, freezeL, V.mut, L.mut]
theorem toLoadedS_ok {rows : List (List PV)} (h : Has (.lst t_LoadedS) (.lst rows)) (hs : sz (.lst rows) ≤ 1048576) : callL Ph ext 42 [vlst rows] = some (.one (.own 2 rows)) := by
  obtain ⟨hl, hr⟩ := Has_rows h
  have hn : rows.length ≤ 1048576 := Nat.le_trans (Nat.le_add_right _ _) hs
  refine toS_ok (Φ := Ph) (ext := ext) (k := 42) (bytes := 24) (z := 2) (kx := 73) (zero := [(.str []), (.int .i64 0)]) (fl := true) rfl (fun r m => HasL_len (hr r m)) (by decide) rfl hl (by omega) (fun r m => ?_)
  exact toLoaded_copies (hr r m) (row_le m hs)
theorem szLoadedS_ok {rows : List (List PV)} (h : Has (.lst t_LoadedS) (.lst rows)) {left : Int} (h0 : 0 ≤ left) (h1 : left ≤ 1048576) : callL Ph ext 40 [vlst rows, vint .i64 left] = some (vint .i64 (less left (sz (.lst rows)))) := by
  obtain ⟨hl, hr⟩ := Has_rows h
  exact szS_ok (Φ := Ph) (ext := ext) (k := 40) (z := 2) (kx := 70) rfl (fun r m => HasL_len (hr r m)) hl (fun r m => szLoaded_ok (hr r m)) h0 h1
theorem eqLoadedS_ok {rows : List (List PV)} (h : Has (.lst t_LoadedS) (.lst rows)) : callL Ph ext 44 [vlst rows, vlst rows] = some (vbool true) := by
  obtain ⟨hl, hr⟩ := Has_rows h
  exact eqS_ok (Φ := Ph) (ext := ext) (k := 44) (z := 2) (kx := 76) rfl (fun r m => HasL_len (hr r m)) hl (fun r m => eqLoaded_ok (hr r m))
theorem toInstr_ok {c0 : Int} {c1 : Int} {c2 : Int} {c3 : List UInt8} (h0 : Has (.int .i64) (.int .i64 c0)) (h1 : Has (.int .i64) (.int .i64 c1)) (h2 : Has (.int .i64) (.int .i64 c2)) (h3 : Has (.str) (.str c3)) (hs : szL [.int .i64 c0, .int .i64 c1, .int .i64 c2, .str c3] ≤ 1048576) : callL Ph ext 93 [.agg [.pv (.int .i64 c0), .pv (.int .i64 c1), .pv (.int .i64 c2), .pv (.str c3)]] = some (.agg [.pv (.int .i64 c0), .pv (.int .i64 c1), .pv (.int .i64 c2), .pv (.str c3)]) := by
  refine callL_fn (fn := f_laws_toInstr) rfl ?_
  simp [f_laws_toInstr, start, execL, exec, execOps, stepO, wants, fop, eop, Opd.ev, put, V.cells, plain, loadV, cut, isInt, isStr, isBool, bin, binInt, binStr, un, asList, L.view, viewArgs, V.view, viewL, done, finish, resultsOf, resultOf, comps, comp, giveLs, giveL, arrsOf, V.flat, L.flat, setV, setL, storeV, putAt, thaw, thawL, freezeVs, freezeLs, freezeL, V.mut, L.mut]
theorem toInstr_copies {r : List PV} (h : HasL t_Instr r) (hs : szL r ≤ 1048576) : Copies Ph ext 93 true r := by
  obtain ⟨p0, r1, rfl, g0, k1⟩ := HasL_cons h
  obtain ⟨p1, r2, rfl, g1, k2⟩ := HasL_cons k1
  obtain ⟨p2, r3, rfl, g2, k3⟩ := HasL_cons k2
  obtain ⟨p3, r4, rfl, g3, k4⟩ := HasL_cons k3
  obtain rfl := HasL_nil k4
  obtain ⟨c0, rfl⟩ := Has_int g0
  obtain ⟨c1, rfl⟩ := Has_int g1
  obtain ⟨c2, rfl⟩ := Has_int g2
  obtain ⟨c3, rfl⟩ := Has_str g3
  exact ⟨_, toInstr_ok g0 g1 g2 g3 hs, rfl, rfl, fun _ => ⟨rfl, rfl⟩⟩
theorem szInstr_ok {r : List PV} (h : HasL t_Instr r) : Measures Ph ext 92 r := by
  obtain ⟨p0, r1, rfl, g0, k1⟩ := HasL_cons h
  obtain ⟨p1, r2, rfl, g1, k2⟩ := HasL_cons k1
  obtain ⟨p2, r3, rfl, g2, k3⟩ := HasL_cons k2
  obtain ⟨p3, r4, rfl, g3, k4⟩ := HasL_cons k3
  obtain rfl := HasL_nil k4
  obtain ⟨c0, rfl⟩ := Has_int g0
  obtain ⟨c1, rfl⟩ := Has_int g1
  obtain ⟨c2, rfl⟩ := Has_int g2
  obtain ⟨c3, rfl⟩ := Has_str g3
  intro left h0 h1
  show callL Ph ext 92 [.agg [.pv (.int .i64 c0), .pv (.int .i64 c1), .pv (.int .i64 c2), .pv (.str c3)], vint .i64 left] = _
  have b0 : c3.length ≤ maxLen := g3
  unfold maxLen at b0
  obtain ⟨l0, q0⟩ : ∃ x : Int, x = left - c3.length := ⟨_, rfl⟩
  have e0 : IntKind.i64.wrap (left - (c3.length : Int)) = l0 := by rw [q0, IntKind.wrap_i64]; omega
  by_cases n0 : l0 < 0
  · rw [less_lt (by simp only [szL, sz] at *; omega)]
    refine callL_fn (fn := f_laws_szInstr) rfl ?_
    simp [f_laws_szInstr, start, execL, exec, execOps, stepO, wants, fop, eop, Opd.ev, put, V.cells, plain, loadV, cut, isInt, isStr, isBool, bin, binInt, binStr, un, asList, L.view, viewArgs, V.view, viewL, done, finish, resultsOf, resultOf, comps, comp, giveLs, giveL, arrsOf, V.flat, L.flat, setV, setL, storeV, putAt, thaw, thawL, freezeVs, freezeLs, freezeL, V.mut, L.mut, e0, n0]
  rw [less_ge' (n := szL [.int .i64 c0, .int .i64 c1, .int .i64 c2, .str c3]) (l := l0) (by simp only [szL, sz] at *; omega) (by simp only [szL, sz] at *; omega)]
  refine callL_fn (fn := f_laws_szInstr) rfl ?_
  simp [f_laws_szInstr, start, execL, exec, execOps, stepO, wants, fop, eop, Opd.ev, put, V.cells, plain, loadV, cut, isInt, isStr, isBool, bin, binInt, binStr, un, asList, L.view, viewArgs, V.view, viewL, done, finish, resultsOf, resultOf, comps, comp, giveLs, giveL, arrsOf, V.flat, L.flat, setV, setL, storeV, putAt, thaw, thawL, freezeVs, freezeLs, freezeL, V.mut, L.mut, e0, n0]
theorem eqInstr_ok {r : List PV} (h : HasL t_Instr r) : callL Ph ext 94 [.agg (r.map .pv), .agg (r.map .pv)] = some (vbool true) := by
  obtain ⟨p0, r1, rfl, g0, k1⟩ := HasL_cons h
  obtain ⟨p1, r2, rfl, g1, k2⟩ := HasL_cons k1
  obtain ⟨p2, r3, rfl, g2, k3⟩ := HasL_cons k2
  obtain ⟨p3, r4, rfl, g3, k4⟩ := HasL_cons k3
  obtain rfl := HasL_nil k4
  obtain ⟨c0, rfl⟩ := Has_int g0
  obtain ⟨c1, rfl⟩ := Has_int g1
  obtain ⟨c2, rfl⟩ := Has_int g2
  obtain ⟨c3, rfl⟩ := Has_str g3
  show callL Ph ext 94 [.agg [.pv (.int .i64 c0), .pv (.int .i64 c1), .pv (.int .i64 c2), .pv (.str c3)], .agg [.pv (.int .i64 c0), .pv (.int .i64 c1), .pv (.int .i64 c2), .pv (.str c3)]] = _
  refine callL_fn (fn := f_laws_eqInstr) rfl ?_
  simp [f_laws_eqInstr, start, execL, exec, execOps, stepO, wants, fop, eop, Opd.ev, put, V.cells, plain, loadV, cut, isInt, isStr, isBool, bin, binInt, binStr, un, asList, L.view, viewArgs, V.view, viewL, done, finish, resultsOf, resultOf, comps, comp, giveLs, giveL, arrsOf, V.flat, L.flat, setV, setL, storeV, putAt, thaw, thawL, freezeVs, freezeLs, freezeL, V.mut, L.mut]
theorem toInstrS_ok {rows : List (List PV)} (h : Has (.lst t_InstrS) (.lst rows)) (hs : sz (.lst rows) ≤ 1048576) : callL Ph ext 74 [vlst rows] = some (.one (.own 4 rows)) := by
  obtain ⟨hl, hr⟩ := Has_rows h
  have hn : rows.length ≤ 1048576 := Nat.le_trans (Nat.le_add_right _ _) hs
  refine toS_ok (Φ := Ph) (ext := ext) (k := 74) (bytes := 40) (z := 4) (kx := 93) (zero := [(.int .i64 0), (.int .i64 0), (.int .i64 0), (.str [])]) (fl := true) rfl (fun r m => HasL_len (hr r m)) (by decide) rfl hl (by omega) (fun r m => ?_)
  exact toInstr_copies (hr r m) (row_le m hs)
theorem szInstrS_ok {rows : List (List PV)} (h : Has (.lst t_InstrS) (.lst rows)) {left : Int} (h0 : 0 ≤ left) (h1 : left ≤ 1048576) : callL Ph ext 71 [vlst rows, vint .i64 left] = some (vint .i64 (less left (sz (.lst rows)))) := by
  obtain ⟨hl, hr⟩ := Has_rows h
  exact szS_ok (Φ := Ph) (ext := ext) (k := 71) (z := 4) (kx := 92) rfl (fun r m => HasL_len (hr r m)) hl (fun r m => szInstr_ok (hr r m)) h0 h1
theorem eqInstrS_ok {rows : List (List PV)} (h : Has (.lst t_InstrS) (.lst rows)) : callL Ph ext 77 [vlst rows, vlst rows] = some (vbool true) := by
  obtain ⟨hl, hr⟩ := Has_rows h
  exact eqS_ok (Φ := Ph) (ext := ext) (k := 77) (z := 4) (kx := 94) rfl (fun r m => HasL_len (hr r m)) hl (fun r m => eqInstr_ok (hr r m))
theorem toIntS_ok {rows : List (List PV)} (h : Has (.lst t_IntS) (.lst rows)) (hs : sz (.lst rows) ≤ 1048576) : callL Ph ext 75 [vlst rows] = some (.one (.own 1 rows)) := by
  obtain ⟨hl, hr⟩ := Has_rows h
  have hn : rows.length ≤ 1048576 := Nat.le_trans (Nat.le_add_right _ _) hs
  obtain ⟨qs, rfl⟩ := singles hr
  exact toF_ok (Φ := Ph) (ext := ext) (k := 75) (bytes := 8) (zero := (.int .i64 0)) rfl (by simpa using hl) (by simp at hn; omega)
theorem szIntS_ok {rows : List (List PV)} (h : Has (.lst t_IntS) (.lst rows)) {left : Int} (h0 : 0 ≤ left) (h1 : left ≤ 1048576) : callL Ph ext 72 [vlst rows, vint .i64 left] = some (vint .i64 (less left (sz (.lst rows)))) := by
  obtain ⟨hl, hr⟩ := Has_rows h
  rw [sz_lst, szRows_zero (ts := t_IntS) (by decide) hr]
  exact szF_ok (Φ := Ph) (ext := ext) (k := 72) rfl hl h0 h1
theorem eqIntS_ok {rows : List (List PV)} (h : Has (.lst t_IntS) (.lst rows)) : callL Ph ext 78 [vlst rows, vlst rows] = some (vbool true) := by
  obtain ⟨hl, hr⟩ := Has_rows h
  obtain ⟨qs, rfl⟩ := singles hr
  exact eqF_ok (Φ := Ph) (ext := ext) (k := 78) rfl (plains (by decide) hr) (by simpa using hl)
theorem toMachine_ok {c0 : List (List PV)} {c1 : Int} {c2 : List (List PV)} {c3 : Int} {c4 : Bool} {c5 : Bool} (h0 : Has (.lst t_InstrS) (.lst c0)) (h1 : Has (.int .i64) (.int .i64 c1)) (h2 : Has (.lst t_IntS) (.lst c2)) (h3 : Has (.int .i64) (.int .i64 c3)) (h4 : Has (.bool) (.bool c4)) (h5 : Has (.bool) (.bool c5)) (hs : szL [.lst c0, .int .i64 c1, .lst c2, .int .i64 c3, .bool c4, .bool c5] ≤ 1048576) : callL Ph ext 43 [.agg [.pv (.lst c0), .pv (.int .i64 c1), .pv (.lst c2), .pv (.int .i64 c3), .pv (.bool c4), .pv (.bool c5)]] = some (.agg [.own 4 c0, .pv (.int .i64 c1), .own 1 c2, .pv (.int .i64 c3), .pv (.bool c4), .pv (.bool c5)]) := by
  have e0 := (toInstrS_ok (ext := ext) h0 (by simp only [szL, sz] at hs ⊢; omega))
  have e1 := (toIntS_ok (ext := ext) h2 (by simp only [szL, sz] at hs ⊢; omega))
  refine callL_fn (fn := f_laws_toMachine) rfl ?_
  simp [f_laws_toMachine, start, execL, exec, execOps, stepO, wants, fop, eop, Opd.ev, put, V.cells, plain, loadV, cut, isInt, isStr, isBool, bin, binInt, binStr, un, asList, L.view, viewArgs, V.view, viewL, done, finish, resultsOf, resultOf, comps, comp, giveLs, giveL, arrsOf, V.flat, L.flat, setV, setL, storeV, putAt, thaw, thawL, freezeVs, freezeLs, freezeL, V.mut, L.mut, e0, e1]
theorem toMachine_copies {r : List PV} (h : HasL t_Machine r) (hs : szL r ≤ 1048576) : Copies Ph ext 43 false r := by
  obtain ⟨p0, r1, rfl, g0, k1⟩ := HasL_cons h
  obtain ⟨p1, r2, rfl, g1, k2⟩ := HasL_cons k1
  obtain ⟨p2, r3, rfl, g2, k3⟩ := HasL_cons k2
  obtain ⟨p3, r4, rfl, g3, k4⟩ := HasL_cons k3
  obtain ⟨p4, r5, rfl, g4, k5⟩ := HasL_cons k4
  obtain ⟨p5, r6, rfl, g5, k6⟩ := HasL_cons k5
  obtain rfl := HasL_nil k6
  obtain ⟨c0, rfl⟩ := Has_lst g0
  obtain ⟨c1, rfl⟩ := Has_int g1
  obtain ⟨c2, rfl⟩ := Has_lst g2
  obtain ⟨c3, rfl⟩ := Has_int g3
  obtain ⟨c4, rfl⟩ := Has_bool g4
  obtain ⟨c5, rfl⟩ := Has_bool g5
  exact ⟨_, toMachine_ok g0 g1 g2 g3 g4 g5 hs, rfl, rfl, fun h => by cases h⟩
theorem szMachine_ok {r : List PV} (h : HasL t_Machine r) : Measures Ph ext 41 r := by
  obtain ⟨p0, r1, rfl, g0, k1⟩ := HasL_cons h
  obtain ⟨p1, r2, rfl, g1, k2⟩ := HasL_cons k1
  obtain ⟨p2, r3, rfl, g2, k3⟩ := HasL_cons k2
  obtain ⟨p3, r4, rfl, g3, k4⟩ := HasL_cons k3
  obtain ⟨p4, r5, rfl, g4, k5⟩ := HasL_cons k4
  obtain ⟨p5, r6, rfl, g5, k6⟩ := HasL_cons k5
  obtain rfl := HasL_nil k6
  obtain ⟨c0, rfl⟩ := Has_lst g0
  obtain ⟨c1, rfl⟩ := Has_int g1
  obtain ⟨c2, rfl⟩ := Has_lst g2
  obtain ⟨c3, rfl⟩ := Has_int g3
  obtain ⟨c4, rfl⟩ := Has_bool g4
  obtain ⟨c5, rfl⟩ := Has_bool g5
  intro left h0 h1
  show callL Ph ext 41 [.agg [.pv (.lst c0), .pv (.int .i64 c1), .pv (.lst c2), .pv (.int .i64 c3), .pv (.bool c4), .pv (.bool c5)], vint .i64 left] = _
  have e0 := szInstrS_ok (ext := ext) g0 (left := left) (by omega) (by omega)
  generalize q0 : less left (sz (.lst c0)) = l0 at e0
  by_cases n0 : l0 < 0
  · have n0' := less_lt' (by omega) q0 n0
    rw [less_lt (by simp only [szL, sz] at *; omega)]
    refine callL_fn (fn := f_laws_szMachine) rfl ?_
    simp [f_laws_szMachine, start, execL, exec, execOps, stepO, wants, fop, eop, Opd.ev, put, V.cells, plain, loadV, cut, isInt, isStr, isBool, bin, binInt, binStr, un, asList, L.view, viewArgs, V.view, viewL, done, finish, resultsOf, resultOf, comps, comp, giveLs, giveL, arrsOf, V.flat, L.flat, setV, setL, storeV, putAt, thaw, thawL, freezeVs, freezeLs, freezeL, V.mut, L.mut, e0, n0]
  obtain ⟨y0, z0⟩ := less_pos (by omega) q0 n0
  have e1 := szIntS_ok (ext := ext) g2 (left := l0) (by omega) (by omega)
  generalize q1 : less l0 (sz (.lst c2)) = l1 at e1
  by_cases n1 : l1 < 0
  · have n1' := less_lt' (by omega) q1 n1
    rw [less_lt (by simp only [szL, sz] at *; omega)]
    refine callL_fn (fn := f_laws_szMachine) rfl ?_
    simp [f_laws_szMachine, start, execL, exec, execOps, stepO, wants, fop, eop, Opd.ev, put, V.cells, plain, loadV, cut, isInt, isStr, isBool, bin, binInt, binStr, un, asList, L.view, viewArgs, V.view, viewL, done, finish, resultsOf, resultOf, comps, comp, giveLs, giveL, arrsOf, V.flat, L.flat, setV, setL, storeV, putAt, thaw, thawL, freezeVs, freezeLs, freezeL, V.mut, L.mut, e0, e1, n0, n1]
  obtain ⟨y1, z1⟩ := less_pos (by omega) q1 n1
  rw [less_ge' (n := szL [.lst c0, .int .i64 c1, .lst c2, .int .i64 c3, .bool c4, .bool c5]) (l := l1) (by simp only [szL, sz] at *; omega) (by simp only [szL, sz] at *; omega)]
  refine callL_fn (fn := f_laws_szMachine) rfl ?_
  simp [f_laws_szMachine, start, execL, exec, execOps, stepO, wants, fop, eop, Opd.ev, put, V.cells, plain, loadV, cut, isInt, isStr, isBool, bin, binInt, binStr, un, asList, L.view, viewArgs, V.view, viewL, done, finish, resultsOf, resultOf, comps, comp, giveLs, giveL, arrsOf, V.flat, L.flat, setV, setL, storeV, putAt, thaw, thawL, freezeVs, freezeLs, freezeL, V.mut, L.mut, e0, e1, n0, n1]
theorem eqMachine_ok {r : List PV} (h : HasL t_Machine r) : callL Ph ext 45 [.agg (r.map .pv), .agg (r.map .pv)] = some (vbool true) := by
  obtain ⟨p0, r1, rfl, g0, k1⟩ := HasL_cons h
  obtain ⟨p1, r2, rfl, g1, k2⟩ := HasL_cons k1
  obtain ⟨p2, r3, rfl, g2, k3⟩ := HasL_cons k2
  obtain ⟨p3, r4, rfl, g3, k4⟩ := HasL_cons k3
  obtain ⟨p4, r5, rfl, g4, k5⟩ := HasL_cons k4
  obtain ⟨p5, r6, rfl, g5, k6⟩ := HasL_cons k5
  obtain rfl := HasL_nil k6
  obtain ⟨c0, rfl⟩ := Has_lst g0
  obtain ⟨c1, rfl⟩ := Has_int g1
  obtain ⟨c2, rfl⟩ := Has_lst g2
  obtain ⟨c3, rfl⟩ := Has_int g3
  obtain ⟨c4, rfl⟩ := Has_bool g4
  obtain ⟨c5, rfl⟩ := Has_bool g5
  show callL Ph ext 45 [.agg [.pv (.lst c0), .pv (.int .i64 c1), .pv (.lst c2), .pv (.int .i64 c3), .pv (.bool c4), .pv (.bool c5)], .agg [.pv (.lst c0), .pv (.int .i64 c1), .pv (.lst c2), .pv (.int .i64 c3), .pv (.bool c4), .pv (.bool c5)]] = _
  have e0 := eqInstrS_ok (ext := ext) g0
  have e1 := eqIntS_ok (ext := ext) g2
  refine callL_fn (fn := f_laws_eqMachine) rfl ?_
  simp [f_laws_eqMachine, start, execL, exec, execOps, stepO, wants, fop, eop, Opd.ev, put, V.cells, plain, loadV, cut, isInt, isStr, isBool, bin, binInt, binStr, un, asList, L.view, viewArgs, V.view, viewL, done, finish, resultsOf, resultOf, comps, comp, giveLs, giveL, arrsOf, V.flat, L.flat, setV, setL, storeV, putAt, thaw, thawL, freezeVs, freezeLs, freezeL, V.mut, L.mut, e0, e1]
theorem toPage_ok {c0 : Int} {c1 : List UInt8} {c2 : List UInt8} {c3 : Int} {c4 : List (List PV)} {c5 : List (List PV)} {c6 : Int} {c7 : List (List PV)} {c8 : Int} {c9 : Bool} {c10 : Bool} (h0 : Has (.int .i64) (.int .i64 c0)) (h1 : Has (.str) (.str c1)) (h2 : Has (.str) (.str c2)) (h3 : Has (.int .i64) (.int .i64 c3)) (h4 : Has (.lst t_LoadedS) (.lst c4)) (h5 : Has (.lst t_InstrS) (.lst c5)) (h6 : Has (.int .i64) (.int .i64 c6)) (h7 : Has (.lst t_IntS) (.lst c7)) (h8 : Has (.int .i64) (.int .i64 c8)) (h9 : Has (.bool) (.bool c9)) (h10 : Has (.bool) (.bool c10)) (hs : szL [.int .i64 c0, .str c1, .str c2, .int .i64 c3, .lst c4, .lst c5, .int .i64 c6, .lst c7, .int .i64 c8, .bool c9, .bool c10] ≤ 1048576) : callL Ph ext 12 [.agg [.pv (.int .i64 c0), .pv (.str c1), .pv (.str c2), .pv (.int .i64 c3), .pv (.lst c4), .pv (.lst c5), .pv (.int .i64 c6), .pv (.lst c7), .pv (.int .i64 c8), .pv (.bool c9), .pv (.bool c10)]] = some (.agg [.pv (.int .i64 c0), .pv (.str c1), .pv (.str c2), .pv (.int .i64 c3), .own 2 c4, .own 4 c5, .pv (.int .i64 c6), .own 1 c7, .pv (.int .i64 c8), .pv (.bool c9), .pv (.bool c10)]) := by
  have e0 := (toLoadedS_ok (ext := ext) h4 (by simp only [szL, sz] at hs ⊢; omega))
  have e1 := (toMachine_ok (ext := ext) h5 h6 h7 h8 h9 h10 (by simp only [szL, sz] at hs ⊢; omega))
  refine callL_fn (fn := f_laws_toPage) rfl ?_
  simp [f_laws_toPage, start, execL, exec, execOps, stepO, wants, fop, eop, Opd.ev, put, V.cells, plain, loadV, cut, isInt, isStr, isBool, bin, binInt, binStr, un, asList, L.view, viewArgs, V.view, viewL, done, finish, resultsOf, resultOf, comps, comp, giveLs, giveL, arrsOf, V.flat, L.flat, setV, setL, storeV, putAt, thaw, thawL, freezeVs, freezeLs, freezeL, V.mut, L.mut, e0, e1]
theorem toPage_copies {r : List PV} (h : HasL t_Page r) (hs : szL r ≤ 1048576) : Copies Ph ext 12 false r := by
  obtain ⟨p0, r1, rfl, g0, k1⟩ := HasL_cons h
  obtain ⟨p1, r2, rfl, g1, k2⟩ := HasL_cons k1
  obtain ⟨p2, r3, rfl, g2, k3⟩ := HasL_cons k2
  obtain ⟨p3, r4, rfl, g3, k4⟩ := HasL_cons k3
  obtain ⟨p4, r5, rfl, g4, k5⟩ := HasL_cons k4
  obtain ⟨p5, r6, rfl, g5, k6⟩ := HasL_cons k5
  obtain ⟨p6, r7, rfl, g6, k7⟩ := HasL_cons k6
  obtain ⟨p7, r8, rfl, g7, k8⟩ := HasL_cons k7
  obtain ⟨p8, r9, rfl, g8, k9⟩ := HasL_cons k8
  obtain ⟨p9, r10, rfl, g9, k10⟩ := HasL_cons k9
  obtain ⟨p10, r11, rfl, g10, k11⟩ := HasL_cons k10
  obtain rfl := HasL_nil k11
  obtain ⟨c0, rfl⟩ := Has_int g0
  obtain ⟨c1, rfl⟩ := Has_str g1
  obtain ⟨c2, rfl⟩ := Has_str g2
  obtain ⟨c3, rfl⟩ := Has_int g3
  obtain ⟨c4, rfl⟩ := Has_lst g4
  obtain ⟨c5, rfl⟩ := Has_lst g5
  obtain ⟨c6, rfl⟩ := Has_int g6
  obtain ⟨c7, rfl⟩ := Has_lst g7
  obtain ⟨c8, rfl⟩ := Has_int g8
  obtain ⟨c9, rfl⟩ := Has_bool g9
  obtain ⟨c10, rfl⟩ := Has_bool g10
  exact ⟨_, toPage_ok g0 g1 g2 g3 g4 g5 g6 g7 g8 g9 g10 hs, rfl, rfl, fun h => by cases h⟩
theorem szPage_ok {r : List PV} (h : HasL t_Page r) : Measures Ph ext 10 r := by
  obtain ⟨p0, r1, rfl, g0, k1⟩ := HasL_cons h
  obtain ⟨p1, r2, rfl, g1, k2⟩ := HasL_cons k1
  obtain ⟨p2, r3, rfl, g2, k3⟩ := HasL_cons k2
  obtain ⟨p3, r4, rfl, g3, k4⟩ := HasL_cons k3
  obtain ⟨p4, r5, rfl, g4, k5⟩ := HasL_cons k4
  obtain ⟨p5, r6, rfl, g5, k6⟩ := HasL_cons k5
  obtain ⟨p6, r7, rfl, g6, k7⟩ := HasL_cons k6
  obtain ⟨p7, r8, rfl, g7, k8⟩ := HasL_cons k7
  obtain ⟨p8, r9, rfl, g8, k9⟩ := HasL_cons k8
  obtain ⟨p9, r10, rfl, g9, k10⟩ := HasL_cons k9
  obtain ⟨p10, r11, rfl, g10, k11⟩ := HasL_cons k10
  obtain rfl := HasL_nil k11
  obtain ⟨c0, rfl⟩ := Has_int g0
  obtain ⟨c1, rfl⟩ := Has_str g1
  obtain ⟨c2, rfl⟩ := Has_str g2
  obtain ⟨c3, rfl⟩ := Has_int g3
  obtain ⟨c4, rfl⟩ := Has_lst g4
  obtain ⟨c5, rfl⟩ := Has_lst g5
  obtain ⟨c6, rfl⟩ := Has_int g6
  obtain ⟨c7, rfl⟩ := Has_lst g7
  obtain ⟨c8, rfl⟩ := Has_int g8
  obtain ⟨c9, rfl⟩ := Has_bool g9
  obtain ⟨c10, rfl⟩ := Has_bool g10
  intro left h0 h1
  show callL Ph ext 10 [.agg [.pv (.int .i64 c0), .pv (.str c1), .pv (.str c2), .pv (.int .i64 c3), .pv (.lst c4), .pv (.lst c5), .pv (.int .i64 c6), .pv (.lst c7), .pv (.int .i64 c8), .pv (.bool c9), .pv (.bool c10)], vint .i64 left] = _
  have b0 : c1.length ≤ maxLen := g1
  unfold maxLen at b0
  obtain ⟨l0, q0⟩ : ∃ x : Int, x = left - c1.length := ⟨_, rfl⟩
  have e0 : IntKind.i64.wrap (left - (c1.length : Int)) = l0 := by rw [q0, IntKind.wrap_i64]; omega
  by_cases n0 : l0 < 0
  · rw [less_lt (by simp only [szL, sz] at *; omega)]
    refine callL_fn (fn := f_laws_szPage) rfl ?_
    simp [f_laws_szPage, start, execL, exec, execOps, stepO, wants, fop, eop, Opd.ev, put, V.cells, plain, loadV, cut, isInt, isStr, isBool, bin, binInt, binStr, un, asList, L.view, viewArgs, V.view, viewL, done, finish, resultsOf, resultOf, comps, comp, giveLs, giveL, arrsOf, V.flat, L.flat, setV, setL, storeV, putAt, thaw, thawL, freezeVs, freezeLs, freezeL, V.mut, L.mut, e0, n0]
  have b1 : c2.length ≤ maxLen := g2
  unfold maxLen at b1
  obtain ⟨l1, q1⟩ : ∃ x : Int, x = l0 - c2.length := ⟨_, rfl⟩
  have e1 : IntKind.i64.wrap (l0 - (c2.length : Int)) = l1 := by rw [q1, IntKind.wrap_i64]; omega
  by_cases n1 : l1 < 0
  · rw [less_lt (by simp only [szL, sz] at *; omega)]
    refine callL_fn (fn := f_laws_szPage) rfl ?_
    simp [f_laws_szPage, start, execL, exec, execOps, stepO, wants, fop, eop, Opd.ev, put, V.cells, plain, loadV, cut, isInt, isStr, isBool, bin, binInt, binStr, un, asList, L.view, viewArgs, V.view, viewL, done, finish, resultsOf, resultOf, comps, comp, giveLs, giveL, arrsOf, V.flat, L.flat, setV, setL, storeV, putAt, thaw, thawL, freezeVs, freezeLs, freezeL, V.mut, L.mut, e0, e1, n0, n1]
  have e2 := szLoadedS_ok (ext := ext) g4 (left := l1) (by omega) (by omega)
  generalize q2 : less l1 (sz (.lst c4)) = l2 at e2
  by_cases n2 : l2 < 0
  · have n2' := less_lt' (by omega) q2 n2
    rw [less_lt (by simp only [szL, sz] at *; omega)]
    refine callL_fn (fn := f_laws_szPage) rfl ?_
    simp [f_laws_szPage, start, execL, exec, execOps, stepO, wants, fop, eop, Opd.ev, put, V.cells, plain, loadV, cut, isInt, isStr, isBool, bin, binInt, binStr, un, asList, L.view, viewArgs, V.view, viewL, done, finish, resultsOf, resultOf, comps, comp, giveLs, giveL, arrsOf, V.flat, L.flat, setV, setL, storeV, putAt, thaw, thawL, freezeVs, freezeLs, freezeL, V.mut, L.mut, e0, e1, e2, n0, n1, n2]
  obtain ⟨y2, z2⟩ := less_pos (by omega) q2 n2
  have e3 : callL Ph ext 41 [.agg [.pv (.lst c5), .pv (.int .i64 c6), .pv (.lst c7), .pv (.int .i64 c8), .pv (.bool c9), .pv (.bool c10)], vint .i64 l2] = some (vint .i64 (less l2 (szL [.lst c5, .int .i64 c6, .lst c7, .int .i64 c8, .bool c9, .bool c10]))) := szMachine_ok (ext := ext) (r := [.lst c5, .int .i64 c6, .lst c7, .int .i64 c8, .bool c9, .bool c10]) (⟨g5, g6, g7, g8, g9, g10, trivial⟩) l2 (by omega) (by omega)
  generalize q3 : less l2 (szL [.lst c5, .int .i64 c6, .lst c7, .int .i64 c8, .bool c9, .bool c10]) = l3 at e3
  by_cases n3 : l3 < 0
  · have n3' := less_lt' (by omega) q3 n3
    rw [less_lt (by simp only [szL, sz] at *; omega)]
    refine callL_fn (fn := f_laws_szPage) rfl ?_
    simp [f_laws_szPage, start, execL, exec, execOps, stepO, wants, fop, eop, Opd.ev, put, V.cells, plain, loadV, cut, isInt, isStr, isBool, bin, binInt, binStr, un, asList, L.view, viewArgs, V.view, viewL, done, finish, resultsOf, resultOf, comps, comp, giveLs, giveL, arrsOf, V.flat, L.flat, setV, setL, storeV, putAt, thaw, thawL, freezeVs, freezeLs, freezeL, V.mut, L.mut, e0, e1, e2, e3, n0, n1, n2, n3]
  obtain ⟨y3, z3⟩ := less_pos (by omega) q3 n3
  rw [less_ge' (n := szL [.int .i64 c0, .str c1, .str c2, .int .i64 c3, .lst c4, .lst c5, .int .i64 c6, .lst c7, .int .i64 c8, .bool c9, .bool c10]) (l := l3) (by simp only [szL, sz] at *; omega) (by simp only [szL, sz] at *; omega)]
  refine callL_fn (fn := f_laws_szPage) rfl ?_
  simp [f_laws_szPage, start, execL, exec, execOps, stepO, wants, fop, eop, Opd.ev, put, V.cells, plain, loadV, cut, isInt, isStr, isBool, bin, binInt, binStr, un, asList, L.view, viewArgs, V.view, viewL, done, finish, resultsOf, resultOf, comps, comp, giveLs, giveL, arrsOf, V.flat, L.flat, setV, setL, storeV, putAt, thaw, thawL, freezeVs, freezeLs, freezeL, V.mut, L.mut, e0, e1, e2, e3, n0, n1, n2, n3]
theorem eqPage_ok {r : List PV} (h : HasL t_Page r) : callL Ph ext 14 [.agg (r.map .pv), .agg (r.map .pv)] = some (vbool true) := by
  obtain ⟨p0, r1, rfl, g0, k1⟩ := HasL_cons h
  obtain ⟨p1, r2, rfl, g1, k2⟩ := HasL_cons k1
  obtain ⟨p2, r3, rfl, g2, k3⟩ := HasL_cons k2
  obtain ⟨p3, r4, rfl, g3, k4⟩ := HasL_cons k3
  obtain ⟨p4, r5, rfl, g4, k5⟩ := HasL_cons k4
  obtain ⟨p5, r6, rfl, g5, k6⟩ := HasL_cons k5
  obtain ⟨p6, r7, rfl, g6, k7⟩ := HasL_cons k6
  obtain ⟨p7, r8, rfl, g7, k8⟩ := HasL_cons k7
  obtain ⟨p8, r9, rfl, g8, k9⟩ := HasL_cons k8
  obtain ⟨p9, r10, rfl, g9, k10⟩ := HasL_cons k9
  obtain ⟨p10, r11, rfl, g10, k11⟩ := HasL_cons k10
  obtain rfl := HasL_nil k11
  obtain ⟨c0, rfl⟩ := Has_int g0
  obtain ⟨c1, rfl⟩ := Has_str g1
  obtain ⟨c2, rfl⟩ := Has_str g2
  obtain ⟨c3, rfl⟩ := Has_int g3
  obtain ⟨c4, rfl⟩ := Has_lst g4
  obtain ⟨c5, rfl⟩ := Has_lst g5
  obtain ⟨c6, rfl⟩ := Has_int g6
  obtain ⟨c7, rfl⟩ := Has_lst g7
  obtain ⟨c8, rfl⟩ := Has_int g8
  obtain ⟨c9, rfl⟩ := Has_bool g9
  obtain ⟨c10, rfl⟩ := Has_bool g10
  show callL Ph ext 14 [.agg [.pv (.int .i64 c0), .pv (.str c1), .pv (.str c2), .pv (.int .i64 c3), .pv (.lst c4), .pv (.lst c5), .pv (.int .i64 c6), .pv (.lst c7), .pv (.int .i64 c8), .pv (.bool c9), .pv (.bool c10)], .agg [.pv (.int .i64 c0), .pv (.str c1), .pv (.str c2), .pv (.int .i64 c3), .pv (.lst c4), .pv (.lst c5), .pv (.int .i64 c6), .pv (.lst c7), .pv (.int .i64 c8), .pv (.bool c9), .pv (.bool c10)]] = _
  have e0 := eqLoadedS_ok (ext := ext) g4
  have e1 : callL Ph ext 45 [.agg [.pv (.lst c5), .pv (.int .i64 c6), .pv (.lst c7), .pv (.int .i64 c8), .pv (.bool c9), .pv (.bool c10)], .agg [.pv (.lst c5), .pv (.int .i64 c6), .pv (.lst c7), .pv (.int .i64 c8), .pv (.bool c9), .pv (.bool c10)]] = some (vbool true) := eqMachine_ok (ext := ext) (r := [.lst c5, .int .i64 c6, .lst c7, .int .i64 c8, .bool c9, .bool c10]) (⟨g5, g6, g7, g8, g9, g10, trivial⟩)
  refine callL_fn (fn := f_laws_eqPage) rfl ?_
  simp [f_laws_eqPage, start, execL, exec, execOps, stepO, wants, fop, eop, Opd.ev, put, V.cells, plain, loadV, cut, isInt, isStr, isBool, bin, binInt, binStr, un, asList, L.view, viewArgs, V.view, viewL, done, finish, resultsOf, resultOf, comps, comp, giveLs, giveL, arrsOf, V.flat, L.flat, setV, setL, storeV, putAt, thaw, thawL, freezeVs, freezeLs, freezeL, V.mut, L.mut, e0, e1]
theorem toItemS_ok {rows : List (List PV)} (h : Has (.lst t_ItemS) (.lst rows)) (hs : sz (.lst rows) ≤ 1048576) : callL Ph ext 53 [vlst rows] = some (.one (.own 4 rows)) := by
  obtain ⟨hl, hr⟩ := Has_rows h
  have hn : rows.length ≤ 1048576 := Nat.le_trans (Nat.le_add_right _ _) hs
  refine toS_ok (Φ := Ph) (ext := ext) (k := 53) (bytes := 56) (z := 4) (kx := 7) (zero := [(.int .i64 0), (.int .i64 0), (.str []), (.lst [])]) (fl := false) rfl (fun r m => HasL_len (hr r m)) (by decide) rfl hl (by omega) (fun r m => ?_)
  exact toItem_copies (hr r m) (row_le m hs)
theorem szItemS_ok {rows : List (List PV)} (h : Has (.lst t_ItemS) (.lst rows)) {left : Int} (h0 : 0 ≤ left) (h1 : left ≤ 1048576) : callL Ph ext 52 [vlst rows, vint .i64 left] = some (vint .i64 (less left (sz (.lst rows)))) := by
  obtain ⟨hl, hr⟩ := Has_rows h
  exact szS_ok (Φ := Ph) (ext := ext) (k := 52) (z := 4) (kx := 5) rfl (fun r m => HasL_len (hr r m)) hl (fun r m => szItem_ok (hr r m)) h0 h1
theorem eqItemS_ok {rows : List (List PV)} (h : Has (.lst t_ItemS) (.lst rows)) : callL Ph ext 55 [vlst rows, vlst rows] = some (vbool true) := by
  obtain ⟨hl, hr⟩ := Has_rows h
  exact eqS_ok (Φ := Ph) (ext := ext) (k := 55) (z := 4) (kx := 9) rfl (fun r m => HasL_len (hr r m)) hl (fun r m => eqItem_ok (hr r m))
theorem toStore_ok {c0 : List UInt8} {c1 : List (List PV)} {c2 : Int} (h0 : Has (.str) (.str c0)) (h1 : Has (.lst t_ItemS) (.lst c1)) (h2 : Has (.int .i64) (.int .i64 c2)) (hs : szL [.str c0, .lst c1, .int .i64 c2] ≤ 1048576) : callL Ph ext 22 [.agg [.pv (.str c0), .pv (.lst c1), .pv (.int .i64 c2)]] = some (.agg [.pv (.str c0), .own 4 c1, .pv (.int .i64 c2)]) := by
  have e0 := (toItemS_ok (ext := ext) h1 (by simp only [szL, sz] at hs ⊢; omega))
  refine callL_fn (fn := f_laws_toStore) rfl ?_
  simp [f_laws_toStore, start, execL, exec, execOps, stepO, wants, fop, eop, Opd.ev, put, V.cells, plain, loadV, cut, isInt, isStr, isBool, bin, binInt, binStr, un, asList, L.view, viewArgs, V.view, viewL, done, finish, resultsOf, resultOf, comps, comp, giveLs, giveL, arrsOf, V.flat, L.flat, setV, setL, storeV, putAt, thaw, thawL, freezeVs, freezeLs, freezeL, V.mut, L.mut, e0]
theorem toStore_copies {r : List PV} (h : HasL t_Store r) (hs : szL r ≤ 1048576) : Copies Ph ext 22 false r := by
  obtain ⟨p0, r1, rfl, g0, k1⟩ := HasL_cons h
  obtain ⟨p1, r2, rfl, g1, k2⟩ := HasL_cons k1
  obtain ⟨p2, r3, rfl, g2, k3⟩ := HasL_cons k2
  obtain rfl := HasL_nil k3
  obtain ⟨c0, rfl⟩ := Has_str g0
  obtain ⟨c1, rfl⟩ := Has_lst g1
  obtain ⟨c2, rfl⟩ := Has_int g2
  exact ⟨_, toStore_ok g0 g1 g2 hs, rfl, rfl, fun h => by cases h⟩
theorem szStore_ok {r : List PV} (h : HasL t_Store r) : Measures Ph ext 20 r := by
  obtain ⟨p0, r1, rfl, g0, k1⟩ := HasL_cons h
  obtain ⟨p1, r2, rfl, g1, k2⟩ := HasL_cons k1
  obtain ⟨p2, r3, rfl, g2, k3⟩ := HasL_cons k2
  obtain rfl := HasL_nil k3
  obtain ⟨c0, rfl⟩ := Has_str g0
  obtain ⟨c1, rfl⟩ := Has_lst g1
  obtain ⟨c2, rfl⟩ := Has_int g2
  intro left h0 h1
  show callL Ph ext 20 [.agg [.pv (.str c0), .pv (.lst c1), .pv (.int .i64 c2)], vint .i64 left] = _
  have b0 : c0.length ≤ maxLen := g0
  unfold maxLen at b0
  obtain ⟨l0, q0⟩ : ∃ x : Int, x = left - c0.length := ⟨_, rfl⟩
  have e0 : IntKind.i64.wrap (left - (c0.length : Int)) = l0 := by rw [q0, IntKind.wrap_i64]; omega
  by_cases n0 : l0 < 0
  · rw [less_lt (by simp only [szL, sz] at *; omega)]
    refine callL_fn (fn := f_laws_szStore) rfl ?_
    simp [f_laws_szStore, start, execL, exec, execOps, stepO, wants, fop, eop, Opd.ev, put, V.cells, plain, loadV, cut, isInt, isStr, isBool, bin, binInt, binStr, un, asList, L.view, viewArgs, V.view, viewL, done, finish, resultsOf, resultOf, comps, comp, giveLs, giveL, arrsOf, V.flat, L.flat, setV, setL, storeV, putAt, thaw, thawL, freezeVs, freezeLs, freezeL, V.mut, L.mut, e0, n0]
  have e1 := szItemS_ok (ext := ext) g1 (left := l0) (by omega) (by omega)
  generalize q1 : less l0 (sz (.lst c1)) = l1 at e1
  by_cases n1 : l1 < 0
  · have n1' := less_lt' (by omega) q1 n1
    rw [less_lt (by simp only [szL, sz] at *; omega)]
    refine callL_fn (fn := f_laws_szStore) rfl ?_
    simp [f_laws_szStore, start, execL, exec, execOps, stepO, wants, fop, eop, Opd.ev, put, V.cells, plain, loadV, cut, isInt, isStr, isBool, bin, binInt, binStr, un, asList, L.view, viewArgs, V.view, viewL, done, finish, resultsOf, resultOf, comps, comp, giveLs, giveL, arrsOf, V.flat, L.flat, setV, setL, storeV, putAt, thaw, thawL, freezeVs, freezeLs, freezeL, V.mut, L.mut, e0, e1, n0, n1]
  obtain ⟨y1, z1⟩ := less_pos (by omega) q1 n1
  rw [less_ge' (n := szL [.str c0, .lst c1, .int .i64 c2]) (l := l1) (by simp only [szL, sz] at *; omega) (by simp only [szL, sz] at *; omega)]
  refine callL_fn (fn := f_laws_szStore) rfl ?_
  simp [f_laws_szStore, start, execL, exec, execOps, stepO, wants, fop, eop, Opd.ev, put, V.cells, plain, loadV, cut, isInt, isStr, isBool, bin, binInt, binStr, un, asList, L.view, viewArgs, V.view, viewL, done, finish, resultsOf, resultOf, comps, comp, giveLs, giveL, arrsOf, V.flat, L.flat, setV, setL, storeV, putAt, thaw, thawL, freezeVs, freezeLs, freezeL, V.mut, L.mut, e0, e1, n0, n1]
theorem eqStore_ok {r : List PV} (h : HasL t_Store r) : callL Ph ext 24 [.agg (r.map .pv), .agg (r.map .pv)] = some (vbool true) := by
  obtain ⟨p0, r1, rfl, g0, k1⟩ := HasL_cons h
  obtain ⟨p1, r2, rfl, g1, k2⟩ := HasL_cons k1
  obtain ⟨p2, r3, rfl, g2, k3⟩ := HasL_cons k2
  obtain rfl := HasL_nil k3
  obtain ⟨c0, rfl⟩ := Has_str g0
  obtain ⟨c1, rfl⟩ := Has_lst g1
  obtain ⟨c2, rfl⟩ := Has_int g2
  show callL Ph ext 24 [.agg [.pv (.str c0), .pv (.lst c1), .pv (.int .i64 c2)], .agg [.pv (.str c0), .pv (.lst c1), .pv (.int .i64 c2)]] = _
  have e0 := eqItemS_ok (ext := ext) g1
  refine callL_fn (fn := f_laws_eqStore) rfl ?_
  simp [f_laws_eqStore, start, execL, exec, execOps, stepO, wants, fop, eop, Opd.ev, put, V.cells, plain, loadV, cut, isInt, isStr, isBool, bin, binInt, binStr, un, asList, L.view, viewArgs, V.view, viewL, done, finish, resultsOf, resultOf, comps, comp, giveLs, giveL, arrsOf, V.flat, L.flat, setV, setL, storeV, putAt, thaw, thawL, freezeVs, freezeLs, freezeL, V.mut, L.mut, e0]
theorem toApplied_ok {c0 : Int} {c1 : Int} (h0 : Has (.int .i64) (.int .i64 c0)) (h1 : Has (.int .i64) (.int .i64 c1)) (hs : szL [.int .i64 c0, .int .i64 c1] ≤ 1048576) : callL Ph ext 80 [.agg [.pv (.int .i64 c0), .pv (.int .i64 c1)]] = some (.agg [.pv (.int .i64 c0), .pv (.int .i64 c1)]) := by
  refine callL_fn (fn := f_laws_toApplied) rfl ?_
  simp [f_laws_toApplied, start, execL, exec, execOps, stepO, wants, fop, eop, Opd.ev, put, V.cells, plain, loadV, cut, isInt, isStr, isBool, bin, binInt, binStr, un, asList, L.view, viewArgs, V.view, viewL, done, finish, resultsOf, resultOf, comps, comp, giveLs, giveL, arrsOf, V.flat, L.flat, setV, setL, storeV, putAt, thaw, thawL, freezeVs, freezeLs, freezeL, V.mut, L.mut]
theorem toApplied_copies {r : List PV} (h : HasL t_Applied r) (hs : szL r ≤ 1048576) : Copies Ph ext 80 true r := by
  obtain ⟨p0, r1, rfl, g0, k1⟩ := HasL_cons h
  obtain ⟨p1, r2, rfl, g1, k2⟩ := HasL_cons k1
  obtain rfl := HasL_nil k2
  obtain ⟨c0, rfl⟩ := Has_int g0
  obtain ⟨c1, rfl⟩ := Has_int g1
  exact ⟨_, toApplied_ok g0 g1 hs, rfl, rfl, fun _ => ⟨rfl, rfl⟩⟩
theorem eqApplied_ok {r : List PV} (h : HasL t_Applied r) : callL Ph ext 82 [.agg (r.map .pv), .agg (r.map .pv)] = some (vbool true) := by
  obtain ⟨p0, r1, rfl, g0, k1⟩ := HasL_cons h
  obtain ⟨p1, r2, rfl, g1, k2⟩ := HasL_cons k1
  obtain rfl := HasL_nil k2
  obtain ⟨c0, rfl⟩ := Has_int g0
  obtain ⟨c1, rfl⟩ := Has_int g1
  show callL Ph ext 82 [.agg [.pv (.int .i64 c0), .pv (.int .i64 c1)], .agg [.pv (.int .i64 c0), .pv (.int .i64 c1)]] = _
  refine callL_fn (fn := f_laws_eqApplied) rfl ?_
  simp [f_laws_eqApplied, start, execL, exec, execOps, stepO, wants, fop, eop, Opd.ev, put, V.cells, plain, loadV, cut, isInt, isStr, isBool, bin, binInt, binStr, un, asList, L.view, viewArgs, V.view, viewL, done, finish, resultsOf, resultOf, comps, comp, giveLs, giveL, arrsOf, V.flat, L.flat, setV, setL, storeV, putAt, thaw, thawL, freezeVs, freezeLs, freezeL, V.mut, L.mut]
theorem toAppliedS_ok {rows : List (List PV)} (h : Has (.lst t_AppliedS) (.lst rows)) (hs : sz (.lst rows) ≤ 1048576) : callL Ph ext 48 [vlst rows] = some (.one (.own 2 rows)) := by
  obtain ⟨hl, hr⟩ := Has_rows h
  have hn : rows.length ≤ 1048576 := Nat.le_trans (Nat.le_add_right _ _) hs
  refine toS_ok (Φ := Ph) (ext := ext) (k := 48) (bytes := 16) (z := 2) (kx := 80) (zero := [(.int .i64 0), (.int .i64 0)]) (fl := true) rfl (fun r m => HasL_len (hr r m)) (by decide) rfl hl (by omega) (fun r m => ?_)
  exact toApplied_copies (hr r m) (row_le m hs)
theorem szAppliedS_ok {rows : List (List PV)} (h : Has (.lst t_AppliedS) (.lst rows)) {left : Int} (h0 : 0 ≤ left) (h1 : left ≤ 1048576) : callL Ph ext 46 [vlst rows, vint .i64 left] = some (vint .i64 (less left (sz (.lst rows)))) := by
  obtain ⟨hl, hr⟩ := Has_rows h
  rw [sz_lst, szRows_zero (ts := t_AppliedS) (by decide) hr]
  exact szF_ok (Φ := Ph) (ext := ext) (k := 46) rfl hl h0 h1
theorem eqAppliedS_ok {rows : List (List PV)} (h : Has (.lst t_AppliedS) (.lst rows)) : callL Ph ext 50 [vlst rows, vlst rows] = some (vbool true) := by
  obtain ⟨hl, hr⟩ := Has_rows h
  exact eqS_ok (Φ := Ph) (ext := ext) (k := 50) (z := 2) (kx := 82) rfl (fun r m => HasL_len (hr r m)) hl (fun r m => eqApplied_ok (hr r m))
theorem toWrite_ok {c0 : Int} {c1 : Int} {c2 : Int} {c3 : Int} {c4 : List UInt8} {c5 : List UInt8} {c6 : Int} (h0 : Has (.int .i64) (.int .i64 c0)) (h1 : Has (.int .i64) (.int .i64 c1)) (h2 : Has (.int .i64) (.int .i64 c2)) (h3 : Has (.int .i64) (.int .i64 c3)) (h4 : Has (.str) (.str c4)) (h5 : Has (.str) (.str c5)) (h6 : Has (.int .i64) (.int .i64 c6)) (hs : szL [.int .i64 c0, .int .i64 c1, .int .i64 c2, .int .i64 c3, .str c4, .str c5, .int .i64 c6] ≤ 1048576) : callL Ph ext 81 [.agg [.pv (.int .i64 c0), .pv (.int .i64 c1), .pv (.int .i64 c2), .pv (.int .i64 c3), .pv (.str c4), .pv (.str c5), .pv (.int .i64 c6)]] = some (.agg [.pv (.int .i64 c0), .pv (.int .i64 c1), .pv (.int .i64 c2), .pv (.int .i64 c3), .pv (.str c4), .pv (.str c5), .pv (.int .i64 c6)]) := by
  have e0 := (toKey_ok (ext := ext) h2 h3 h4 (by simp only [szL, sz] at hs ⊢; omega))
  refine callL_fn (fn := f_laws_toWrite) rfl ?_
  simp [f_laws_toWrite, start, execL, exec, execOps, stepO, wants, fop, eop, Opd.ev, put, V.cells, plain, loadV, cut, isInt, isStr, isBool, bin, binInt, binStr, un, asList, L.view, viewArgs, V.view, viewL, done, finish, resultsOf, resultOf, comps, comp, giveLs, giveL, arrsOf, V.flat, L.flat, setV, setL, storeV, putAt, thaw, thawL, freezeVs, freezeLs, freezeL, V.mut, L.mut, e0]
theorem toWrite_copies {r : List PV} (h : HasL t_Write r) (hs : szL r ≤ 1048576) : Copies Ph ext 81 true r := by
  obtain ⟨p0, r1, rfl, g0, k1⟩ := HasL_cons h
  obtain ⟨p1, r2, rfl, g1, k2⟩ := HasL_cons k1
  obtain ⟨p2, r3, rfl, g2, k3⟩ := HasL_cons k2
  obtain ⟨p3, r4, rfl, g3, k4⟩ := HasL_cons k3
  obtain ⟨p4, r5, rfl, g4, k5⟩ := HasL_cons k4
  obtain ⟨p5, r6, rfl, g5, k6⟩ := HasL_cons k5
  obtain ⟨p6, r7, rfl, g6, k7⟩ := HasL_cons k6
  obtain rfl := HasL_nil k7
  obtain ⟨c0, rfl⟩ := Has_int g0
  obtain ⟨c1, rfl⟩ := Has_int g1
  obtain ⟨c2, rfl⟩ := Has_int g2
  obtain ⟨c3, rfl⟩ := Has_int g3
  obtain ⟨c4, rfl⟩ := Has_str g4
  obtain ⟨c5, rfl⟩ := Has_str g5
  obtain ⟨c6, rfl⟩ := Has_int g6
  exact ⟨_, toWrite_ok g0 g1 g2 g3 g4 g5 g6 hs, rfl, rfl, fun _ => ⟨rfl, rfl⟩⟩
theorem szWrite_ok {r : List PV} (h : HasL t_Write r) : Measures Ph ext 79 r := by
  obtain ⟨p0, r1, rfl, g0, k1⟩ := HasL_cons h
  obtain ⟨p1, r2, rfl, g1, k2⟩ := HasL_cons k1
  obtain ⟨p2, r3, rfl, g2, k3⟩ := HasL_cons k2
  obtain ⟨p3, r4, rfl, g3, k4⟩ := HasL_cons k3
  obtain ⟨p4, r5, rfl, g4, k5⟩ := HasL_cons k4
  obtain ⟨p5, r6, rfl, g5, k6⟩ := HasL_cons k5
  obtain ⟨p6, r7, rfl, g6, k7⟩ := HasL_cons k6
  obtain rfl := HasL_nil k7
  obtain ⟨c0, rfl⟩ := Has_int g0
  obtain ⟨c1, rfl⟩ := Has_int g1
  obtain ⟨c2, rfl⟩ := Has_int g2
  obtain ⟨c3, rfl⟩ := Has_int g3
  obtain ⟨c4, rfl⟩ := Has_str g4
  obtain ⟨c5, rfl⟩ := Has_str g5
  obtain ⟨c6, rfl⟩ := Has_int g6
  intro left h0 h1
  show callL Ph ext 79 [.agg [.pv (.int .i64 c0), .pv (.int .i64 c1), .pv (.int .i64 c2), .pv (.int .i64 c3), .pv (.str c4), .pv (.str c5), .pv (.int .i64 c6)], vint .i64 left] = _
  have e0 : callL Ph ext 30 [.agg [.pv (.int .i64 c2), .pv (.int .i64 c3), .pv (.str c4)], vint .i64 left] = some (vint .i64 (less left (szL [.int .i64 c2, .int .i64 c3, .str c4]))) := szKey_ok (ext := ext) (r := [.int .i64 c2, .int .i64 c3, .str c4]) (⟨g2, g3, g4, trivial⟩) left (by omega) (by omega)
  generalize q0 : less left (szL [.int .i64 c2, .int .i64 c3, .str c4]) = l0 at e0
  by_cases n0 : l0 < 0
  · have n0' := less_lt' (by omega) q0 n0
    rw [less_lt (by simp only [szL, sz] at *; omega)]
    refine callL_fn (fn := f_laws_szWrite) rfl ?_
    simp [f_laws_szWrite, start, execL, exec, execOps, stepO, wants, fop, eop, Opd.ev, put, V.cells, plain, loadV, cut, isInt, isStr, isBool, bin, binInt, binStr, un, asList, L.view, viewArgs, V.view, viewL, done, finish, resultsOf, resultOf, comps, comp, giveLs, giveL, arrsOf, V.flat, L.flat, setV, setL, storeV, putAt, thaw, thawL, freezeVs, freezeLs, freezeL, V.mut, L.mut, e0, n0]
  obtain ⟨y0, z0⟩ := less_pos (by omega) q0 n0
  have b1 : c5.length ≤ maxLen := g5
  unfold maxLen at b1
  obtain ⟨l1, q1⟩ : ∃ x : Int, x = l0 - c5.length := ⟨_, rfl⟩
  have e1 : IntKind.i64.wrap (l0 - (c5.length : Int)) = l1 := by rw [q1, IntKind.wrap_i64]; omega
  by_cases n1 : l1 < 0
  · rw [less_lt (by simp only [szL, sz] at *; omega)]
    refine callL_fn (fn := f_laws_szWrite) rfl ?_
    simp [f_laws_szWrite, start, execL, exec, execOps, stepO, wants, fop, eop, Opd.ev, put, V.cells, plain, loadV, cut, isInt, isStr, isBool, bin, binInt, binStr, un, asList, L.view, viewArgs, V.view, viewL, done, finish, resultsOf, resultOf, comps, comp, giveLs, giveL, arrsOf, V.flat, L.flat, setV, setL, storeV, putAt, thaw, thawL, freezeVs, freezeLs, freezeL, V.mut, L.mut, e0, e1, n0, n1]
  rw [less_ge' (n := szL [.int .i64 c0, .int .i64 c1, .int .i64 c2, .int .i64 c3, .str c4, .str c5, .int .i64 c6]) (l := l1) (by simp only [szL, sz] at *; omega) (by simp only [szL, sz] at *; omega)]
  refine callL_fn (fn := f_laws_szWrite) rfl ?_
  simp [f_laws_szWrite, start, execL, exec, execOps, stepO, wants, fop, eop, Opd.ev, put, V.cells, plain, loadV, cut, isInt, isStr, isBool, bin, binInt, binStr, un, asList, L.view, viewArgs, V.view, viewL, done, finish, resultsOf, resultOf, comps, comp, giveLs, giveL, arrsOf, V.flat, L.flat, setV, setL, storeV, putAt, thaw, thawL, freezeVs, freezeLs, freezeL, V.mut, L.mut, e0, e1, n0, n1]
theorem eqWrite_ok {r : List PV} (h : HasL t_Write r) : callL Ph ext 83 [.agg (r.map .pv), .agg (r.map .pv)] = some (vbool true) := by
  obtain ⟨p0, r1, rfl, g0, k1⟩ := HasL_cons h
  obtain ⟨p1, r2, rfl, g1, k2⟩ := HasL_cons k1
  obtain ⟨p2, r3, rfl, g2, k3⟩ := HasL_cons k2
  obtain ⟨p3, r4, rfl, g3, k4⟩ := HasL_cons k3
  obtain ⟨p4, r5, rfl, g4, k5⟩ := HasL_cons k4
  obtain ⟨p5, r6, rfl, g5, k6⟩ := HasL_cons k5
  obtain ⟨p6, r7, rfl, g6, k7⟩ := HasL_cons k6
  obtain rfl := HasL_nil k7
  obtain ⟨c0, rfl⟩ := Has_int g0
  obtain ⟨c1, rfl⟩ := Has_int g1
  obtain ⟨c2, rfl⟩ := Has_int g2
  obtain ⟨c3, rfl⟩ := Has_int g3
  obtain ⟨c4, rfl⟩ := Has_str g4
  obtain ⟨c5, rfl⟩ := Has_str g5
  obtain ⟨c6, rfl⟩ := Has_int g6
  show callL Ph ext 83 [.agg [.pv (.int .i64 c0), .pv (.int .i64 c1), .pv (.int .i64 c2), .pv (.int .i64 c3), .pv (.str c4), .pv (.str c5), .pv (.int .i64 c6)], .agg [.pv (.int .i64 c0), .pv (.int .i64 c1), .pv (.int .i64 c2), .pv (.int .i64 c3), .pv (.str c4), .pv (.str c5), .pv (.int .i64 c6)]] = _
  have e0 : callL Ph ext 38 [.agg [.pv (.int .i64 c2), .pv (.int .i64 c3), .pv (.str c4)], .agg [.pv (.int .i64 c2), .pv (.int .i64 c3), .pv (.str c4)]] = some (vbool true) := eqKey_ok (ext := ext) (r := [.int .i64 c2, .int .i64 c3, .str c4]) (⟨g2, g3, g4, trivial⟩)
  refine callL_fn (fn := f_laws_eqWrite) rfl ?_
  simp [f_laws_eqWrite, start, execL, exec, execOps, stepO, wants, fop, eop, Opd.ev, put, V.cells, plain, loadV, cut, isInt, isStr, isBool, bin, binInt, binStr, un, asList, L.view, viewArgs, V.view, viewL, done, finish, resultsOf, resultOf, comps, comp, giveLs, giveL, arrsOf, V.flat, L.flat, setV, setL, storeV, putAt, thaw, thawL, freezeVs, freezeLs, freezeL, V.mut, L.mut, e0]
theorem toWriteS_ok {rows : List (List PV)} (h : Has (.lst t_WriteS) (.lst rows)) (hs : sz (.lst rows) ≤ 1048576) : callL Ph ext 49 [vlst rows] = some (.one (.own 7 rows)) := by
  obtain ⟨hl, hr⟩ := Has_rows h
  have hn : rows.length ≤ 1048576 := Nat.le_trans (Nat.le_add_right _ _) hs
  refine toS_ok (Φ := Ph) (ext := ext) (k := 49) (bytes := 72) (z := 7) (kx := 81) (zero := [(.int .i64 0), (.int .i64 0), (.int .i64 0), (.int .i64 0), (.str []), (.str []), (.int .i64 0)]) (fl := true) rfl (fun r m => HasL_len (hr r m)) (by decide) rfl hl (by omega) (fun r m => ?_)
  exact toWrite_copies (hr r m) (row_le m hs)
theorem szWriteS_ok {rows : List (List PV)} (h : Has (.lst t_WriteS) (.lst rows)) {left : Int} (h0 : 0 ≤ left) (h1 : left ≤ 1048576) : callL Ph ext 47 [vlst rows, vint .i64 left] = some (vint .i64 (less left (sz (.lst rows)))) := by
  obtain ⟨hl, hr⟩ := Has_rows h
  exact szS_ok (Φ := Ph) (ext := ext) (k := 47) (z := 7) (kx := 79) rfl (fun r m => HasL_len (hr r m)) hl (fun r m => szWrite_ok (hr r m)) h0 h1
theorem eqWriteS_ok {rows : List (List PV)} (h : Has (.lst t_WriteS) (.lst rows)) : callL Ph ext 51 [vlst rows, vlst rows] = some (vbool true) := by
  obtain ⟨hl, hr⟩ := Has_rows h
  exact eqS_ok (Φ := Ph) (ext := ext) (k := 51) (z := 7) (kx := 83) rfl (fun r m => HasL_len (hr r m)) hl (fun r m => eqWrite_ok (hr r m))
theorem toServer_ok {c0 : List UInt8} {c1 : List (List PV)} {c2 : Int} {c3 : List (List PV)} {c4 : List (List PV)} (h0 : Has (.str) (.str c0)) (h1 : Has (.lst t_ItemS) (.lst c1)) (h2 : Has (.int .i64) (.int .i64 c2)) (h3 : Has (.lst t_AppliedS) (.lst c3)) (h4 : Has (.lst t_WriteS) (.lst c4)) (hs : szL [.str c0, .lst c1, .int .i64 c2, .lst c3, .lst c4] ≤ 1048576) : callL Ph ext 17 [.agg [.pv (.str c0), .pv (.lst c1), .pv (.int .i64 c2), .pv (.lst c3), .pv (.lst c4)]] = some (.agg [.pv (.str c0), .own 4 c1, .pv (.int .i64 c2), .own 2 c3, .own 7 c4]) := by
  have e0 := (toStore_ok (ext := ext) h0 h1 h2 (by simp only [szL, sz] at hs ⊢; omega))
  have e1 := (toAppliedS_ok (ext := ext) h3 (by simp only [szL, sz] at hs ⊢; omega))
  have e2 := (toWriteS_ok (ext := ext) h4 (by simp only [szL, sz] at hs ⊢; omega))
  refine callL_fn (fn := f_laws_toServer) rfl ?_
  simp [f_laws_toServer, start, execL, exec, execOps, stepO, wants, fop, eop, Opd.ev, put, V.cells, plain, loadV, cut, isInt, isStr, isBool, bin, binInt, binStr, un, asList, L.view, viewArgs, V.view, viewL, done, finish, resultsOf, resultOf, comps, comp, giveLs, giveL, arrsOf, V.flat, L.flat, setV, setL, storeV, putAt, thaw, thawL, freezeVs, freezeLs, freezeL, V.mut, L.mut, e0, e1, e2]
theorem toServer_copies {r : List PV} (h : HasL t_Server r) (hs : szL r ≤ 1048576) : Copies Ph ext 17 false r := by
  obtain ⟨p0, r1, rfl, g0, k1⟩ := HasL_cons h
  obtain ⟨p1, r2, rfl, g1, k2⟩ := HasL_cons k1
  obtain ⟨p2, r3, rfl, g2, k3⟩ := HasL_cons k2
  obtain ⟨p3, r4, rfl, g3, k4⟩ := HasL_cons k3
  obtain ⟨p4, r5, rfl, g4, k5⟩ := HasL_cons k4
  obtain rfl := HasL_nil k5
  obtain ⟨c0, rfl⟩ := Has_str g0
  obtain ⟨c1, rfl⟩ := Has_lst g1
  obtain ⟨c2, rfl⟩ := Has_int g2
  obtain ⟨c3, rfl⟩ := Has_lst g3
  obtain ⟨c4, rfl⟩ := Has_lst g4
  exact ⟨_, toServer_ok g0 g1 g2 g3 g4 hs, rfl, rfl, fun h => by cases h⟩
theorem szServer_ok {r : List PV} (h : HasL t_Server r) : Measures Ph ext 15 r := by
  obtain ⟨p0, r1, rfl, g0, k1⟩ := HasL_cons h
  obtain ⟨p1, r2, rfl, g1, k2⟩ := HasL_cons k1
  obtain ⟨p2, r3, rfl, g2, k3⟩ := HasL_cons k2
  obtain ⟨p3, r4, rfl, g3, k4⟩ := HasL_cons k3
  obtain ⟨p4, r5, rfl, g4, k5⟩ := HasL_cons k4
  obtain rfl := HasL_nil k5
  obtain ⟨c0, rfl⟩ := Has_str g0
  obtain ⟨c1, rfl⟩ := Has_lst g1
  obtain ⟨c2, rfl⟩ := Has_int g2
  obtain ⟨c3, rfl⟩ := Has_lst g3
  obtain ⟨c4, rfl⟩ := Has_lst g4
  intro left h0 h1
  show callL Ph ext 15 [.agg [.pv (.str c0), .pv (.lst c1), .pv (.int .i64 c2), .pv (.lst c3), .pv (.lst c4)], vint .i64 left] = _
  have e0 : callL Ph ext 20 [.agg [.pv (.str c0), .pv (.lst c1), .pv (.int .i64 c2)], vint .i64 left] = some (vint .i64 (less left (szL [.str c0, .lst c1, .int .i64 c2]))) := szStore_ok (ext := ext) (r := [.str c0, .lst c1, .int .i64 c2]) (⟨g0, g1, g2, trivial⟩) left (by omega) (by omega)
  generalize q0 : less left (szL [.str c0, .lst c1, .int .i64 c2]) = l0 at e0
  by_cases n0 : l0 < 0
  · have n0' := less_lt' (by omega) q0 n0
    rw [less_lt (by simp only [szL, sz] at *; omega)]
    refine callL_fn (fn := f_laws_szServer) rfl ?_
    simp [f_laws_szServer, start, execL, exec, execOps, stepO, wants, fop, eop, Opd.ev, put, V.cells, plain, loadV, cut, isInt, isStr, isBool, bin, binInt, binStr, un, asList, L.view, viewArgs, V.view, viewL, done, finish, resultsOf, resultOf, comps, comp, giveLs, giveL, arrsOf, V.flat, L.flat, setV, setL, storeV, putAt, thaw, thawL, freezeVs, freezeLs, freezeL, V.mut, L.mut, e0, n0]
  obtain ⟨y0, z0⟩ := less_pos (by omega) q0 n0
  have e1 := szAppliedS_ok (ext := ext) g3 (left := l0) (by omega) (by omega)
  generalize q1 : less l0 (sz (.lst c3)) = l1 at e1
  by_cases n1 : l1 < 0
  · have n1' := less_lt' (by omega) q1 n1
    rw [less_lt (by simp only [szL, sz] at *; omega)]
    refine callL_fn (fn := f_laws_szServer) rfl ?_
    simp [f_laws_szServer, start, execL, exec, execOps, stepO, wants, fop, eop, Opd.ev, put, V.cells, plain, loadV, cut, isInt, isStr, isBool, bin, binInt, binStr, un, asList, L.view, viewArgs, V.view, viewL, done, finish, resultsOf, resultOf, comps, comp, giveLs, giveL, arrsOf, V.flat, L.flat, setV, setL, storeV, putAt, thaw, thawL, freezeVs, freezeLs, freezeL, V.mut, L.mut, e0, e1, n0, n1]
  obtain ⟨y1, z1⟩ := less_pos (by omega) q1 n1
  have e2 := szWriteS_ok (ext := ext) g4 (left := l1) (by omega) (by omega)
  generalize q2 : less l1 (sz (.lst c4)) = l2 at e2
  by_cases n2 : l2 < 0
  · have n2' := less_lt' (by omega) q2 n2
    rw [less_lt (by simp only [szL, sz] at *; omega)]
    refine callL_fn (fn := f_laws_szServer) rfl ?_
    simp [f_laws_szServer, start, execL, exec, execOps, stepO, wants, fop, eop, Opd.ev, put, V.cells, plain, loadV, cut, isInt, isStr, isBool, bin, binInt, binStr, un, asList, L.view, viewArgs, V.view, viewL, done, finish, resultsOf, resultOf, comps, comp, giveLs, giveL, arrsOf, V.flat, L.flat, setV, setL, storeV, putAt, thaw, thawL, freezeVs, freezeLs, freezeL, V.mut, L.mut, e0, e1, e2, n0, n1, n2]
  obtain ⟨y2, z2⟩ := less_pos (by omega) q2 n2
  rw [less_ge' (n := szL [.str c0, .lst c1, .int .i64 c2, .lst c3, .lst c4]) (l := l2) (by simp only [szL, sz] at *; omega) (by simp only [szL, sz] at *; omega)]
  refine callL_fn (fn := f_laws_szServer) rfl ?_
  simp [f_laws_szServer, start, execL, exec, execOps, stepO, wants, fop, eop, Opd.ev, put, V.cells, plain, loadV, cut, isInt, isStr, isBool, bin, binInt, binStr, un, asList, L.view, viewArgs, V.view, viewL, done, finish, resultsOf, resultOf, comps, comp, giveLs, giveL, arrsOf, V.flat, L.flat, setV, setL, storeV, putAt, thaw, thawL, freezeVs, freezeLs, freezeL, V.mut, L.mut, e0, e1, e2, n0, n1, n2]
theorem eqServer_ok {r : List PV} (h : HasL t_Server r) : callL Ph ext 19 [.agg (r.map .pv), .agg (r.map .pv)] = some (vbool true) := by
  obtain ⟨p0, r1, rfl, g0, k1⟩ := HasL_cons h
  obtain ⟨p1, r2, rfl, g1, k2⟩ := HasL_cons k1
  obtain ⟨p2, r3, rfl, g2, k3⟩ := HasL_cons k2
  obtain ⟨p3, r4, rfl, g3, k4⟩ := HasL_cons k3
  obtain ⟨p4, r5, rfl, g4, k5⟩ := HasL_cons k4
  obtain rfl := HasL_nil k5
  obtain ⟨c0, rfl⟩ := Has_str g0
  obtain ⟨c1, rfl⟩ := Has_lst g1
  obtain ⟨c2, rfl⟩ := Has_int g2
  obtain ⟨c3, rfl⟩ := Has_lst g3
  obtain ⟨c4, rfl⟩ := Has_lst g4
  show callL Ph ext 19 [.agg [.pv (.str c0), .pv (.lst c1), .pv (.int .i64 c2), .pv (.lst c3), .pv (.lst c4)], .agg [.pv (.str c0), .pv (.lst c1), .pv (.int .i64 c2), .pv (.lst c3), .pv (.lst c4)]] = _
  have e0 : callL Ph ext 24 [.agg [.pv (.str c0), .pv (.lst c1), .pv (.int .i64 c2)], .agg [.pv (.str c0), .pv (.lst c1), .pv (.int .i64 c2)]] = some (vbool true) := eqStore_ok (ext := ext) (r := [.str c0, .lst c1, .int .i64 c2]) (⟨g0, g1, g2, trivial⟩)
  have e1 := eqAppliedS_ok (ext := ext) g3
  have e2 := eqWriteS_ok (ext := ext) g4
  refine callL_fn (fn := f_laws_eqServer) rfl ?_
  simp [f_laws_eqServer, start, execL, exec, execOps, stepO, wants, fop, eop, Opd.ev, put, V.cells, plain, loadV, cut, isInt, isStr, isBool, bin, binInt, binStr, un, asList, L.view, viewArgs, V.view, viewL, done, finish, resultsOf, resultOf, comps, comp, giveLs, giveL, arrsOf, V.flat, L.flat, setV, setL, storeV, putAt, thaw, thawL, freezeVs, freezeLs, freezeL, V.mut, L.mut, e0, e1, e2]
theorem toOp_ok {c0 : Int} {c1 : List UInt8} {c2 : Int} {c3 : Int} {c4 : List UInt8} {c5 : List (List PV)} {c6 : List UInt8} (h0 : Has (.int .i64) (.int .i64 c0)) (h1 : Has (.str) (.str c1)) (h2 : Has (.int .i64) (.int .i64 c2)) (h3 : Has (.int .i64) (.int .i64 c3)) (h4 : Has (.str) (.str c4)) (h5 : Has (.lst t_FieldS) (.lst c5)) (h6 : Has (.str) (.str c6)) (hs : szL [.int .i64 c0, .str c1, .int .i64 c2, .int .i64 c3, .str c4, .lst c5, .str c6] ≤ 1048576) : callL Ph ext 85 [.agg [.pv (.int .i64 c0), .pv (.str c1), .pv (.int .i64 c2), .pv (.int .i64 c3), .pv (.str c4), .pv (.lst c5), .pv (.str c6)]] = some (.agg [.pv (.int .i64 c0), .pv (.str c1), .pv (.int .i64 c2), .pv (.int .i64 c3), .pv (.str c4), .own 2 c5, .pv (.str c6)]) := by
  have e0 := (toKey_ok (ext := ext) h2 h3 h4 (by simp only [szL, sz] at hs ⊢; omega))
  have e1 := (toRecord_ok (ext := ext) h5 (by simp only [szL, sz] at hs ⊢; omega))
  refine callL_fn (fn := f_laws_toOp) rfl ?_
  simp [f_laws_toOp, start, execL, exec, execOps, stepO, wants, fop, eop, Opd.ev, put, V.cells, plain, loadV, cut, isInt, isStr, isBool, bin, binInt, binStr, un, asList, L.view, viewArgs, V.view, viewL, done, finish, resultsOf, resultOf, comps, comp, giveLs, giveL, arrsOf, V.flat, L.flat, setV, setL, storeV, putAt, thaw, thawL, freezeVs, freezeLs, freezeL, V.mut, L.mut, e0, e1]
theorem toOp_copies {r : List PV} (h : HasL t_Op r) (hs : szL r ≤ 1048576) : Copies Ph ext 85 false r := by
  obtain ⟨p0, r1, rfl, g0, k1⟩ := HasL_cons h
  obtain ⟨p1, r2, rfl, g1, k2⟩ := HasL_cons k1
  obtain ⟨p2, r3, rfl, g2, k3⟩ := HasL_cons k2
  obtain ⟨p3, r4, rfl, g3, k4⟩ := HasL_cons k3
  obtain ⟨p4, r5, rfl, g4, k5⟩ := HasL_cons k4
  obtain ⟨p5, r6, rfl, g5, k6⟩ := HasL_cons k5
  obtain ⟨p6, r7, rfl, g6, k7⟩ := HasL_cons k6
  obtain rfl := HasL_nil k7
  obtain ⟨c0, rfl⟩ := Has_int g0
  obtain ⟨c1, rfl⟩ := Has_str g1
  obtain ⟨c2, rfl⟩ := Has_int g2
  obtain ⟨c3, rfl⟩ := Has_int g3
  obtain ⟨c4, rfl⟩ := Has_str g4
  obtain ⟨c5, rfl⟩ := Has_lst g5
  obtain ⟨c6, rfl⟩ := Has_str g6
  exact ⟨_, toOp_ok g0 g1 g2 g3 g4 g5 g6 hs, rfl, rfl, fun h => by cases h⟩
theorem szOp_ok {r : List PV} (h : HasL t_Op r) : Measures Ph ext 84 r := by
  obtain ⟨p0, r1, rfl, g0, k1⟩ := HasL_cons h
  obtain ⟨p1, r2, rfl, g1, k2⟩ := HasL_cons k1
  obtain ⟨p2, r3, rfl, g2, k3⟩ := HasL_cons k2
  obtain ⟨p3, r4, rfl, g3, k4⟩ := HasL_cons k3
  obtain ⟨p4, r5, rfl, g4, k5⟩ := HasL_cons k4
  obtain ⟨p5, r6, rfl, g5, k6⟩ := HasL_cons k5
  obtain ⟨p6, r7, rfl, g6, k7⟩ := HasL_cons k6
  obtain rfl := HasL_nil k7
  obtain ⟨c0, rfl⟩ := Has_int g0
  obtain ⟨c1, rfl⟩ := Has_str g1
  obtain ⟨c2, rfl⟩ := Has_int g2
  obtain ⟨c3, rfl⟩ := Has_int g3
  obtain ⟨c4, rfl⟩ := Has_str g4
  obtain ⟨c5, rfl⟩ := Has_lst g5
  obtain ⟨c6, rfl⟩ := Has_str g6
  intro left h0 h1
  show callL Ph ext 84 [.agg [.pv (.int .i64 c0), .pv (.str c1), .pv (.int .i64 c2), .pv (.int .i64 c3), .pv (.str c4), .pv (.lst c5), .pv (.str c6)], vint .i64 left] = _
  have b0 : c1.length ≤ maxLen := g1
  unfold maxLen at b0
  obtain ⟨l0, q0⟩ : ∃ x : Int, x = left - c1.length := ⟨_, rfl⟩
  have e0 : IntKind.i64.wrap (left - (c1.length : Int)) = l0 := by rw [q0, IntKind.wrap_i64]; omega
  by_cases n0 : l0 < 0
  · rw [less_lt (by simp only [szL, sz] at *; omega)]
    refine callL_fn (fn := f_laws_szOp) rfl ?_
    simp [f_laws_szOp, start, execL, exec, execOps, stepO, wants, fop, eop, Opd.ev, put, V.cells, plain, loadV, cut, isInt, isStr, isBool, bin, binInt, binStr, un, asList, L.view, viewArgs, V.view, viewL, done, finish, resultsOf, resultOf, comps, comp, giveLs, giveL, arrsOf, V.flat, L.flat, setV, setL, storeV, putAt, thaw, thawL, freezeVs, freezeLs, freezeL, V.mut, L.mut, e0, n0]
  have e1 : callL Ph ext 30 [.agg [.pv (.int .i64 c2), .pv (.int .i64 c3), .pv (.str c4)], vint .i64 l0] = some (vint .i64 (less l0 (szL [.int .i64 c2, .int .i64 c3, .str c4]))) := szKey_ok (ext := ext) (r := [.int .i64 c2, .int .i64 c3, .str c4]) (⟨g2, g3, g4, trivial⟩) l0 (by omega) (by omega)
  generalize q1 : less l0 (szL [.int .i64 c2, .int .i64 c3, .str c4]) = l1 at e1
  by_cases n1 : l1 < 0
  · have n1' := less_lt' (by omega) q1 n1
    rw [less_lt (by simp only [szL, sz] at *; omega)]
    refine callL_fn (fn := f_laws_szOp) rfl ?_
    simp [f_laws_szOp, start, execL, exec, execOps, stepO, wants, fop, eop, Opd.ev, put, V.cells, plain, loadV, cut, isInt, isStr, isBool, bin, binInt, binStr, un, asList, L.view, viewArgs, V.view, viewL, done, finish, resultsOf, resultOf, comps, comp, giveLs, giveL, arrsOf, V.flat, L.flat, setV, setL, storeV, putAt, thaw, thawL, freezeVs, freezeLs, freezeL, V.mut, L.mut, e0, e1, n0, n1]
  obtain ⟨y1, z1⟩ := less_pos (by omega) q1 n1
  have e2 : callL Ph ext 31 [.agg [.pv (.lst c5)], vint .i64 l1] = some (vint .i64 (less l1 (szL [.lst c5]))) := szRecord_ok (ext := ext) (r := [.lst c5]) (⟨g5, trivial⟩) l1 (by omega) (by omega)
  generalize q2 : less l1 (szL [.lst c5]) = l2 at e2
  by_cases n2 : l2 < 0
  · have n2' := less_lt' (by omega) q2 n2
    rw [less_lt (by simp only [szL, sz] at *; omega)]
    refine callL_fn (fn := f_laws_szOp) rfl ?_
    simp [f_laws_szOp, start, execL, exec, execOps, stepO, wants, fop, eop, Opd.ev, put, V.cells, plain, loadV, cut, isInt, isStr, isBool, bin, binInt, binStr, un, asList, L.view, viewArgs, V.view, viewL, done, finish, resultsOf, resultOf, comps, comp, giveLs, giveL, arrsOf, V.flat, L.flat, setV, setL, storeV, putAt, thaw, thawL, freezeVs, freezeLs, freezeL, V.mut, L.mut, e0, e1, e2, n0, n1, n2]
  obtain ⟨y2, z2⟩ := less_pos (by omega) q2 n2
  have b3 : c6.length ≤ maxLen := g6
  unfold maxLen at b3
  obtain ⟨l3, q3⟩ : ∃ x : Int, x = l2 - c6.length := ⟨_, rfl⟩
  have e3 : IntKind.i64.wrap (l2 - (c6.length : Int)) = l3 := by rw [q3, IntKind.wrap_i64]; omega
  by_cases n3 : l3 < 0
  · rw [less_lt (by simp only [szL, sz] at *; omega)]
    refine callL_fn (fn := f_laws_szOp) rfl ?_
    simp [f_laws_szOp, start, execL, exec, execOps, stepO, wants, fop, eop, Opd.ev, put, V.cells, plain, loadV, cut, isInt, isStr, isBool, bin, binInt, binStr, un, asList, L.view, viewArgs, V.view, viewL, done, finish, resultsOf, resultOf, comps, comp, giveLs, giveL, arrsOf, V.flat, L.flat, setV, setL, storeV, putAt, thaw, thawL, freezeVs, freezeLs, freezeL, V.mut, L.mut, e0, e1, e2, e3, n0, n1, n2, n3]
  rw [less_ge' (n := szL [.int .i64 c0, .str c1, .int .i64 c2, .int .i64 c3, .str c4, .lst c5, .str c6]) (l := l3) (by simp only [szL, sz] at *; omega) (by simp only [szL, sz] at *; omega)]
  refine callL_fn (fn := f_laws_szOp) rfl ?_
  simp [f_laws_szOp, start, execL, exec, execOps, stepO, wants, fop, eop, Opd.ev, put, V.cells, plain, loadV, cut, isInt, isStr, isBool, bin, binInt, binStr, un, asList, L.view, viewArgs, V.view, viewL, done, finish, resultsOf, resultOf, comps, comp, giveLs, giveL, arrsOf, V.flat, L.flat, setV, setL, storeV, putAt, thaw, thawL, freezeVs, freezeLs, freezeL, V.mut, L.mut, e0, e1, e2, e3, n0, n1, n2, n3]
theorem eqOp_ok {r : List PV} (h : HasL t_Op r) : callL Ph ext 86 [.agg (r.map .pv), .agg (r.map .pv)] = some (vbool true) := by
  obtain ⟨p0, r1, rfl, g0, k1⟩ := HasL_cons h
  obtain ⟨p1, r2, rfl, g1, k2⟩ := HasL_cons k1
  obtain ⟨p2, r3, rfl, g2, k3⟩ := HasL_cons k2
  obtain ⟨p3, r4, rfl, g3, k4⟩ := HasL_cons k3
  obtain ⟨p4, r5, rfl, g4, k5⟩ := HasL_cons k4
  obtain ⟨p5, r6, rfl, g5, k6⟩ := HasL_cons k5
  obtain ⟨p6, r7, rfl, g6, k7⟩ := HasL_cons k6
  obtain rfl := HasL_nil k7
  obtain ⟨c0, rfl⟩ := Has_int g0
  obtain ⟨c1, rfl⟩ := Has_str g1
  obtain ⟨c2, rfl⟩ := Has_int g2
  obtain ⟨c3, rfl⟩ := Has_int g3
  obtain ⟨c4, rfl⟩ := Has_str g4
  obtain ⟨c5, rfl⟩ := Has_lst g5
  obtain ⟨c6, rfl⟩ := Has_str g6
  show callL Ph ext 86 [.agg [.pv (.int .i64 c0), .pv (.str c1), .pv (.int .i64 c2), .pv (.int .i64 c3), .pv (.str c4), .pv (.lst c5), .pv (.str c6)], .agg [.pv (.int .i64 c0), .pv (.str c1), .pv (.int .i64 c2), .pv (.int .i64 c3), .pv (.str c4), .pv (.lst c5), .pv (.str c6)]] = _
  have e0 : callL Ph ext 38 [.agg [.pv (.int .i64 c2), .pv (.int .i64 c3), .pv (.str c4)], .agg [.pv (.int .i64 c2), .pv (.int .i64 c3), .pv (.str c4)]] = some (vbool true) := eqKey_ok (ext := ext) (r := [.int .i64 c2, .int .i64 c3, .str c4]) (⟨g2, g3, g4, trivial⟩)
  have e1 : callL Ph ext 39 [.agg [.pv (.lst c5)], .agg [.pv (.lst c5)]] = some (vbool true) := eqRecord_ok (ext := ext) (r := [.lst c5]) (⟨g5, trivial⟩)
  refine callL_fn (fn := f_laws_eqOp) rfl ?_
  simp [f_laws_eqOp, start, execL, exec, execOps, stepO, wants, fop, eop, Opd.ev, put, V.cells, plain, loadV, cut, isInt, isStr, isBool, bin, binInt, binStr, un, asList, L.view, viewArgs, V.view, viewL, done, finish, resultsOf, resultOf, comps, comp, giveLs, giveL, arrsOf, V.flat, L.flat, setV, setL, storeV, putAt, thaw, thawL, freezeVs, freezeLs, freezeL, V.mut, L.mut, e0, e1]
theorem toOpS_ok {rows : List (List PV)} (h : Has (.lst t_OpS) (.lst rows)) (hs : sz (.lst rows) ≤ 1048576) : callL Ph ext 59 [vlst rows] = some (.one (.own 7 rows)) := by
  obtain ⟨hl, hr⟩ := Has_rows h
  have hn : rows.length ≤ 1048576 := Nat.le_trans (Nat.le_add_right _ _) hs
  refine toS_ok (Φ := Ph) (ext := ext) (k := 59) (bytes := 96) (z := 7) (kx := 85) (zero := [(.int .i64 0), (.str []), (.int .i64 0), (.int .i64 0), (.str []), (.lst []), (.str [])]) (fl := false) rfl (fun r m => HasL_len (hr r m)) (by decide) rfl hl (by omega) (fun r m => ?_)
  exact toOp_copies (hr r m) (row_le m hs)
theorem szOpS_ok {rows : List (List PV)} (h : Has (.lst t_OpS) (.lst rows)) {left : Int} (h0 : 0 ≤ left) (h1 : left ≤ 1048576) : callL Ph ext 56 [vlst rows, vint .i64 left] = some (vint .i64 (less left (sz (.lst rows)))) := by
  obtain ⟨hl, hr⟩ := Has_rows h
  exact szS_ok (Φ := Ph) (ext := ext) (k := 56) (z := 7) (kx := 84) rfl (fun r m => HasL_len (hr r m)) hl (fun r m => szOp_ok (hr r m)) h0 h1
theorem eqOpS_ok {rows : List (List PV)} (h : Has (.lst t_OpS) (.lst rows)) : callL Ph ext 62 [vlst rows, vlst rows] = some (vbool true) := by
  obtain ⟨hl, hr⟩ := Has_rows h
  exact eqS_ok (Φ := Ph) (ext := ext) (k := 62) (z := 7) (kx := 86) rfl (fun r m => HasL_len (hr r m)) hl (fun r m => eqOp_ok (hr r m))
theorem toStoreS_ok {rows : List (List PV)} (h : Has (.lst t_StoreS) (.lst rows)) (hs : sz (.lst rows) ≤ 1048576) : callL Ph ext 60 [vlst rows] = some (.one (.own 3 rows)) := by
  obtain ⟨hl, hr⟩ := Has_rows h
  have hn : rows.length ≤ 1048576 := Nat.le_trans (Nat.le_add_right _ _) hs
  refine toS_ok (Φ := Ph) (ext := ext) (k := 60) (bytes := 48) (z := 3) (kx := 22) (zero := [(.str []), (.lst []), (.int .i64 0)]) (fl := false) rfl (fun r m => HasL_len (hr r m)) (by decide) rfl hl (by omega) (fun r m => ?_)
  exact toStore_copies (hr r m) (row_le m hs)
theorem szStoreS_ok {rows : List (List PV)} (h : Has (.lst t_StoreS) (.lst rows)) {left : Int} (h0 : 0 ≤ left) (h1 : left ≤ 1048576) : callL Ph ext 57 [vlst rows, vint .i64 left] = some (vint .i64 (less left (sz (.lst rows)))) := by
  obtain ⟨hl, hr⟩ := Has_rows h
  exact szS_ok (Φ := Ph) (ext := ext) (k := 57) (z := 3) (kx := 20) rfl (fun r m => HasL_len (hr r m)) hl (fun r m => szStore_ok (hr r m)) h0 h1
theorem eqStoreS_ok {rows : List (List PV)} (h : Has (.lst t_StoreS) (.lst rows)) : callL Ph ext 63 [vlst rows, vlst rows] = some (vbool true) := by
  obtain ⟨hl, hr⟩ := Has_rows h
  exact eqS_ok (Φ := Ph) (ext := ext) (k := 63) (z := 3) (kx := 24) rfl (fun r m => HasL_len (hr r m)) hl (fun r m => eqStore_ok (hr r m))
theorem toTx_ok {c0 : Int} {c1 : List (List PV)} {c2 : Int} {c3 : Int} {c4 : List (List PV)} (h0 : Has (.int .i64) (.int .i64 c0)) (h1 : Has (.lst t_OpS) (.lst c1)) (h2 : Has (.int .i64) (.int .i64 c2)) (h3 : Has (.int .i64) (.int .i64 c3)) (h4 : Has (.lst t_StoreS) (.lst c4)) (hs : szL [.int .i64 c0, .lst c1, .int .i64 c2, .int .i64 c3, .lst c4] ≤ 1048576) : callL Ph ext 27 [.agg [.pv (.int .i64 c0), .pv (.lst c1), .pv (.int .i64 c2), .pv (.int .i64 c3), .pv (.lst c4)]] = some (.agg [.pv (.int .i64 c0), .own 7 c1, .pv (.int .i64 c2), .pv (.int .i64 c3), .own 3 c4]) := by
  have e0 := (toOpS_ok (ext := ext) h1 (by simp only [szL, sz] at hs ⊢; omega))
  have e1 := (toStoreS_ok (ext := ext) h4 (by simp only [szL, sz] at hs ⊢; omega))
  refine callL_fn (fn := f_laws_toTx) rfl ?_
  simp [f_laws_toTx, start, execL, exec, execOps, stepO, wants, fop, eop, Opd.ev, put, V.cells, plain, loadV, cut, isInt, isStr, isBool, bin, binInt, binStr, un, asList, L.view, viewArgs, V.view, viewL, done, finish, resultsOf, resultOf, comps, comp, giveLs, giveL, arrsOf, V.flat, L.flat, setV, setL, storeV, putAt, thaw, thawL, freezeVs, freezeLs, freezeL, V.mut, L.mut, e0, e1]
theorem toTx_copies {r : List PV} (h : HasL t_Tx r) (hs : szL r ≤ 1048576) : Copies Ph ext 27 false r := by
  obtain ⟨p0, r1, rfl, g0, k1⟩ := HasL_cons h
  obtain ⟨p1, r2, rfl, g1, k2⟩ := HasL_cons k1
  obtain ⟨p2, r3, rfl, g2, k3⟩ := HasL_cons k2
  obtain ⟨p3, r4, rfl, g3, k4⟩ := HasL_cons k3
  obtain ⟨p4, r5, rfl, g4, k5⟩ := HasL_cons k4
  obtain rfl := HasL_nil k5
  obtain ⟨c0, rfl⟩ := Has_int g0
  obtain ⟨c1, rfl⟩ := Has_lst g1
  obtain ⟨c2, rfl⟩ := Has_int g2
  obtain ⟨c3, rfl⟩ := Has_int g3
  obtain ⟨c4, rfl⟩ := Has_lst g4
  exact ⟨_, toTx_ok g0 g1 g2 g3 g4 hs, rfl, rfl, fun h => by cases h⟩
theorem szTx_ok {r : List PV} (h : HasL t_Tx r) : Measures Ph ext 25 r := by
  obtain ⟨p0, r1, rfl, g0, k1⟩ := HasL_cons h
  obtain ⟨p1, r2, rfl, g1, k2⟩ := HasL_cons k1
  obtain ⟨p2, r3, rfl, g2, k3⟩ := HasL_cons k2
  obtain ⟨p3, r4, rfl, g3, k4⟩ := HasL_cons k3
  obtain ⟨p4, r5, rfl, g4, k5⟩ := HasL_cons k4
  obtain rfl := HasL_nil k5
  obtain ⟨c0, rfl⟩ := Has_int g0
  obtain ⟨c1, rfl⟩ := Has_lst g1
  obtain ⟨c2, rfl⟩ := Has_int g2
  obtain ⟨c3, rfl⟩ := Has_int g3
  obtain ⟨c4, rfl⟩ := Has_lst g4
  intro left h0 h1
  show callL Ph ext 25 [.agg [.pv (.int .i64 c0), .pv (.lst c1), .pv (.int .i64 c2), .pv (.int .i64 c3), .pv (.lst c4)], vint .i64 left] = _
  have e0 := szOpS_ok (ext := ext) g1 (left := left) (by omega) (by omega)
  generalize q0 : less left (sz (.lst c1)) = l0 at e0
  by_cases n0 : l0 < 0
  · have n0' := less_lt' (by omega) q0 n0
    rw [less_lt (by simp only [szL, sz] at *; omega)]
    refine callL_fn (fn := f_laws_szTx) rfl ?_
    simp [f_laws_szTx, start, execL, exec, execOps, stepO, wants, fop, eop, Opd.ev, put, V.cells, plain, loadV, cut, isInt, isStr, isBool, bin, binInt, binStr, un, asList, L.view, viewArgs, V.view, viewL, done, finish, resultsOf, resultOf, comps, comp, giveLs, giveL, arrsOf, V.flat, L.flat, setV, setL, storeV, putAt, thaw, thawL, freezeVs, freezeLs, freezeL, V.mut, L.mut, e0, n0]
  obtain ⟨y0, z0⟩ := less_pos (by omega) q0 n0
  have e1 := szStoreS_ok (ext := ext) g4 (left := l0) (by omega) (by omega)
  generalize q1 : less l0 (sz (.lst c4)) = l1 at e1
  by_cases n1 : l1 < 0
  · have n1' := less_lt' (by omega) q1 n1
    rw [less_lt (by simp only [szL, sz] at *; omega)]
    refine callL_fn (fn := f_laws_szTx) rfl ?_
    simp [f_laws_szTx, start, execL, exec, execOps, stepO, wants, fop, eop, Opd.ev, put, V.cells, plain, loadV, cut, isInt, isStr, isBool, bin, binInt, binStr, un, asList, L.view, viewArgs, V.view, viewL, done, finish, resultsOf, resultOf, comps, comp, giveLs, giveL, arrsOf, V.flat, L.flat, setV, setL, storeV, putAt, thaw, thawL, freezeVs, freezeLs, freezeL, V.mut, L.mut, e0, e1, n0, n1]
  obtain ⟨y1, z1⟩ := less_pos (by omega) q1 n1
  rw [less_ge' (n := szL [.int .i64 c0, .lst c1, .int .i64 c2, .int .i64 c3, .lst c4]) (l := l1) (by simp only [szL, sz] at *; omega) (by simp only [szL, sz] at *; omega)]
  refine callL_fn (fn := f_laws_szTx) rfl ?_
  simp [f_laws_szTx, start, execL, exec, execOps, stepO, wants, fop, eop, Opd.ev, put, V.cells, plain, loadV, cut, isInt, isStr, isBool, bin, binInt, binStr, un, asList, L.view, viewArgs, V.view, viewL, done, finish, resultsOf, resultOf, comps, comp, giveLs, giveL, arrsOf, V.flat, L.flat, setV, setL, storeV, putAt, thaw, thawL, freezeVs, freezeLs, freezeL, V.mut, L.mut, e0, e1, n0, n1]
theorem eqTx_ok {r : List PV} (h : HasL t_Tx r) : callL Ph ext 29 [.agg (r.map .pv), .agg (r.map .pv)] = some (vbool true) := by
  obtain ⟨p0, r1, rfl, g0, k1⟩ := HasL_cons h
  obtain ⟨p1, r2, rfl, g1, k2⟩ := HasL_cons k1
  obtain ⟨p2, r3, rfl, g2, k3⟩ := HasL_cons k2
  obtain ⟨p3, r4, rfl, g3, k4⟩ := HasL_cons k3
  obtain ⟨p4, r5, rfl, g4, k5⟩ := HasL_cons k4
  obtain rfl := HasL_nil k5
  obtain ⟨c0, rfl⟩ := Has_int g0
  obtain ⟨c1, rfl⟩ := Has_lst g1
  obtain ⟨c2, rfl⟩ := Has_int g2
  obtain ⟨c3, rfl⟩ := Has_int g3
  obtain ⟨c4, rfl⟩ := Has_lst g4
  show callL Ph ext 29 [.agg [.pv (.int .i64 c0), .pv (.lst c1), .pv (.int .i64 c2), .pv (.int .i64 c3), .pv (.lst c4)], .agg [.pv (.int .i64 c0), .pv (.lst c1), .pv (.int .i64 c2), .pv (.int .i64 c3), .pv (.lst c4)]] = _
  have e0 := eqOpS_ok (ext := ext) g1
  have e1 := eqStoreS_ok (ext := ext) g4
  refine callL_fn (fn := f_laws_eqTx) rfl ?_
  simp [f_laws_eqTx, start, execL, exec, execOps, stepO, wants, fop, eop, Opd.ev, put, V.cells, plain, loadV, cut, isInt, isStr, isBool, bin, binInt, binStr, un, asList, L.view, viewArgs, V.view, viewL, done, finish, resultsOf, resultOf, comps, comp, giveLs, giveL, arrsOf, V.flat, L.flat, setV, setL, storeV, putAt, thaw, thawL, freezeVs, freezeLs, freezeL, V.mut, L.mut, e0, e1]
end
end Gi
