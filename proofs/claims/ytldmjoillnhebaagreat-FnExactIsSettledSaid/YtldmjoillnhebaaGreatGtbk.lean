/- What the copying, measuring and comparing functions of the laws compute, written by program. -/
import Derived.Test.YtldmjoillnhebaaGreatGtbs
namespace Gi
open Go Go.RowKit
set_option linter.unusedVariables false
set_option linter.unusedSimpArgs false
set_option maxHeartbeats 4000000
attribute [local simp] start execL exec execOps stepO wants fop eop Opd.ev put V.cells plain loadV cut isInt isStr isBool bin binInt un asList L.view viewArgs V.view viewL done finish resultsOf resultOf comps comp giveLs giveL arrsOf V.flat L.flat setV setL storeV putAt thaw thawL freezeVs freezeLs freezeL V.mut L.mut
section
variable {ext : Nat → List V → Option V}
def t_FieldS : List PTy := [.str, .int .i64]
def t_Item : List PTy := [.int .i64, .int .i64, .str, .lst t_FieldS]
def t_LoadedS : List PTy := [.str, .int .i64]
def t_InstrS : List PTy := [.int .i64, .int .i64, .int .i64, .str]
def t_IntS : List PTy := [.int .i64]
def t_Page : List PTy := [.int .i64, .str, .str, .int .i64, .lst t_LoadedS, .lst t_InstrS, .int .i64, .lst t_IntS, .int .i64, .bool, .bool]
def t_ItemS : List PTy := [.int .i64, .int .i64, .str, .lst t_FieldS]
def t_AppliedS : List PTy := [.int .i64, .int .i64]
def t_WriteS : List PTy := [.int .i64, .int .i64, .int .i64, .int .i64, .str, .str, .int .i64]
def t_Server : List PTy := [.str, .lst t_ItemS, .int .i64, .lst t_AppliedS, .lst t_WriteS]
def t_Store : List PTy := [.str, .lst t_ItemS, .int .i64]
def t_Key : List PTy := [.int .i64, .int .i64, .str]
def t_Record : List PTy := [.lst t_FieldS]
def t_Machine : List PTy := [.lst t_InstrS, .int .i64, .lst t_IntS, .int .i64, .bool, .bool]
def t_StoreS : List PTy := [.str, .lst t_ItemS, .int .i64]
def t_Loaded : List PTy := [.str, .int .i64]
def t_Applied : List PTy := [.int .i64, .int .i64]
def t_Write : List PTy := [.int .i64, .int .i64, .int .i64, .int .i64, .str, .str, .int .i64]
def t_Op : List PTy := [.int .i64, .str, .int .i64, .int .i64, .str, .lst t_FieldS, .str]
def t_Field : List PTy := [.str, .int .i64]
def t_Instr : List PTy := [.int .i64, .int .i64, .int .i64, .str]
def t_ByteS : List PTy := [.int .u8]
def t_CachedS : List PTy := [.str, .str, .int .i64, .int .i64, .int .i64, .lst t_ByteS, .bool]
def t_CacheS : List PTy := [.int .i64, .lst t_CachedS]
def t_IndexDefS : List PTy := [.str, .str]
def t_BucketS : List PTy := [.str, .str, .str, .int .i64, .int .i64, .int .i64, .lst t_CacheS, .str, .int .i64, .lst t_StoreS, .lst t_IndexDefS, .lst t_ByteS, .int .i64, .str, .lst t_ItemS, .int .i64, .int .i64, .int .i64, .int .i64, .lst t_WriteS, .int .i64, .int .i64, .int .i64, .bool]
def t_PageS : List PTy := [.int .i64, .str, .str, .int .i64, .lst t_LoadedS, .lst t_InstrS, .int .i64, .lst t_IntS, .int .i64, .bool, .bool]
def t_LockS : List PTy := [.str, .int .i64, .bool, .bool]
def t_MailS : List PTy := [.int .i64, .int .i64, .int .i64]
def t_StringS : List PTy := [.str]
def t_SiteS : List PTy := [.str, .int .i64, .lst t_StringS, .bool]
def t_ServerS : List PTy := [.str, .lst t_ItemS, .int .i64, .lst t_AppliedS, .lst t_WriteS]
def t_World : List PTy := [.int .i64, .bool, .int .i64, .lst t_BucketS, .lst t_PageS, .int .i64, .lst t_LockS, .lst t_MailS, .lst t_SiteS, .lst t_ServerS]
def t_Storage : List PTy := [.lst t_BucketS]
def t_LockTable : List PTy := [.lst t_LockS]
def t_Channel : List PTy := [.lst t_MailS]
def t_Site : List PTy := [.str, .int .i64, .lst t_StringS, .bool]
def t_Bucket : List PTy := [.str, .str, .str, .int .i64, .int .i64, .int .i64, .lst t_CacheS, .str, .int .i64, .lst t_StoreS, .lst t_IndexDefS, .lst t_ByteS, .int .i64, .str, .lst t_ItemS, .int .i64, .int .i64, .int .i64, .int .i64, .lst t_WriteS, .int .i64, .int .i64, .int .i64, .bool]
def t_Lock : List PTy := [.str, .int .i64, .bool, .bool]
def t_Mail : List PTy := [.int .i64, .int .i64, .int .i64]
def t_Registration : List PTy := [.str, .int .i64, .int .i64, .int .i64]
def t_CacheSet : List PTy := [.lst t_CacheS]
def t_Disk : List PTy := [.str, .int .i64, .lst t_StoreS, .lst t_IndexDefS, .lst t_ByteS, .int .i64]
def t_Replica : List PTy := [.str, .lst t_ItemS, .int .i64, .int .i64, .int .i64, .int .i64, .lst t_WriteS, .int .i64, .int .i64]
def t_Database : List PTy := [.str, .int .i64, .lst t_StoreS, .lst t_IndexDefS]
def t_Sync : List PTy := [.int .i64, .int .i64, .lst t_WriteS, .int .i64, .int .i64]
def t_Cache : List PTy := [.int .i64, .lst t_CachedS]
def t_Outbox : List PTy := [.int .i64, .int .i64, .lst t_WriteS]
def t_IndexDef : List PTy := [.str, .str]
def t_Cached : List PTy := [.str, .str, .int .i64, .int .i64, .int .i64, .lst t_ByteS, .bool]
def t_Response : List PTy := [.int .i64, .int .i64, .int .i64, .lst t_ByteS, .bool]
theorem strs {rows : List (List PV)} (h : Has (.lst t_StringS) (.lst rows)) : ∀ r ∈ rows, ∃ s : List UInt8, r = [.str s] ∧ s.length ≤ maxLen := by
  obtain ⟨_, hr⟩ := Has_rows h
  intro r m
  obtain ⟨p0, r1, rfl, g0, k1⟩ := HasL_cons (hr r m)
  obtain rfl := HasL_nil k1
  obtain ⟨c0, rfl⟩ := Has_str g0
  exact ⟨c0, rfl, g0⟩
theorem toKey_ok {c0 : Int} {c1 : Int} {c2 : List UInt8} (h0 : Has (.int .i64) (.int .i64 c0)) (h1 : Has (.int .i64) (.int .i64 c1)) (h2 : Has (.str) (.str c2)) (hs : szL [.int .i64 c0, .int .i64 c1, .str c2] ≤ 1048576) : callL Ph ext 34 [.agg [.pv (.int .i64 c0), .pv (.int .i64 c1), .pv (.str c2)]] = some (.agg [.pv (.int .i64 c0), .pv (.int .i64 c1), .pv (.str c2)]) := by
  refine callL_fn (fn := f_laws_toKey) rfl ?_
  simp [f_laws_toKey, binStr]
theorem toKey_copies {r : List PV} (h : HasL t_Key r) (hs : szL r ≤ 1048576) : Copies Ph ext 34 true r := by
  obtain ⟨p0, r1, rfl, g0, k1⟩ := HasL_cons h
  obtain ⟨p1, r2, rfl, g1, k2⟩ := HasL_cons k1
  obtain ⟨p2, r3, rfl, g2, k3⟩ := HasL_cons k2
  obtain rfl := HasL_nil k3
  obtain ⟨c0, rfl⟩ := Has_int g0
  obtain ⟨c1, rfl⟩ := Has_int g1
  obtain ⟨c2, rfl⟩ := Has_str g2
  exact ⟨_, toKey_ok g0 g1 g2 hs, rfl, rfl, fun _ => ⟨rfl, rfl⟩⟩
theorem szKey_ok {r : List PV} (h : HasL t_Key r) : Measures Ph ext 30 r := by
  obtain ⟨p0, r1, rfl, g0, k1⟩ := HasL_cons h
  obtain ⟨p1, r2, rfl, g1, k2⟩ := HasL_cons k1
  obtain ⟨p2, r3, rfl, g2, k3⟩ := HasL_cons k2
  obtain rfl := HasL_nil k3
  obtain ⟨c0, rfl⟩ := Has_int g0
  obtain ⟨c1, rfl⟩ := Has_int g1
  obtain ⟨c2, rfl⟩ := Has_str g2
  intro left h0 h1
  show callL Ph ext 30 [.agg [.pv (.int .i64 c0), .pv (.int .i64 c1), .pv (.str c2)], vint .i64 left] = _
  have tot : szL [.int .i64 c0, .int .i64 c1, .str c2] = c2.length := by simp only [szL_nil0, szL_cons0, sz_int0, sz_bool0, sz_str0, Nat.add_zero, Nat.zero_add, Nat.add_assoc]
  generalize szL [.int .i64 c0, .int .i64 c1, .str c2] = T at tot ⊢
  have b0 : c2.length ≤ maxLen := g2
  unfold maxLen at b0
  obtain ⟨l0, q0⟩ : ∃ x : Int, x = left - c2.length := ⟨_, rfl⟩
  have e0 : IntKind.i64.wrap (left - (c2.length : Int)) = l0 := by rw [q0, IntKind.wrap_i64]; omega
  by_cases n0 : l0 < 0
  · rw [less_lt (by omega)]
    refine callL_fn (fn := f_laws_szKey) rfl ?_
    simp [f_laws_szKey, binStr, e0, n0]
  rw [less_ge' (n := T) (l := l0) (by omega) (by omega)]
  refine callL_fn (fn := f_laws_szKey) rfl ?_
  simp [f_laws_szKey, binStr, e0, n0]
theorem eqKey_ok {r : List PV} (h : HasL t_Key r) : callL Ph ext 38 [.agg (r.map .pv), .agg (r.map .pv)] = some (vbool true) := by
  obtain ⟨p0, r1, rfl, g0, k1⟩ := HasL_cons h
  obtain ⟨p1, r2, rfl, g1, k2⟩ := HasL_cons k1
  obtain ⟨p2, r3, rfl, g2, k3⟩ := HasL_cons k2
  obtain rfl := HasL_nil k3
  obtain ⟨c0, rfl⟩ := Has_int g0
  obtain ⟨c1, rfl⟩ := Has_int g1
  obtain ⟨c2, rfl⟩ := Has_str g2
  show callL Ph ext 38 [.agg [.pv (.int .i64 c0), .pv (.int .i64 c1), .pv (.str c2)], .agg [.pv (.int .i64 c0), .pv (.int .i64 c1), .pv (.str c2)]] = _
  refine callL_fn (fn := f_laws_eqKey) rfl ?_
  simp [f_laws_eqKey, binStr]
theorem toField_ok {c0 : List UInt8} {c1 : Int} (h0 : Has (.str) (.str c0)) (h1 : Has (.int .i64) (.int .i64 c1)) (hs : szL [.str c0, .int .i64 c1] ≤ 1048576) : callL Ph ext 89 [.agg [.pv (.str c0), .pv (.int .i64 c1)]] = some (.agg [.pv (.str c0), .pv (.int .i64 c1)]) := by
  refine callL_fn (fn := f_laws_toField) rfl ?_
  simp [f_laws_toField, binStr]
theorem toField_copies {r : List PV} (h : HasL t_Field r) (hs : szL r ≤ 1048576) : Copies Ph ext 89 true r := by
  obtain ⟨p0, r1, rfl, g0, k1⟩ := HasL_cons h
  obtain ⟨p1, r2, rfl, g1, k2⟩ := HasL_cons k1
  obtain rfl := HasL_nil k2
  obtain ⟨c0, rfl⟩ := Has_str g0
  obtain ⟨c1, rfl⟩ := Has_int g1
  exact ⟨_, toField_ok g0 g1 hs, rfl, rfl, fun _ => ⟨rfl, rfl⟩⟩
theorem szField_ok {r : List PV} (h : HasL t_Field r) : Measures Ph ext 87 r := by
  obtain ⟨p0, r1, rfl, g0, k1⟩ := HasL_cons h
  obtain ⟨p1, r2, rfl, g1, k2⟩ := HasL_cons k1
  obtain rfl := HasL_nil k2
  obtain ⟨c0, rfl⟩ := Has_str g0
  obtain ⟨c1, rfl⟩ := Has_int g1
  intro left h0 h1
  show callL Ph ext 87 [.agg [.pv (.str c0), .pv (.int .i64 c1)], vint .i64 left] = _
  have tot : szL [.str c0, .int .i64 c1] = c0.length := by simp only [szL_nil0, szL_cons0, sz_int0, sz_bool0, sz_str0, Nat.add_zero, Nat.zero_add, Nat.add_assoc]
  generalize szL [.str c0, .int .i64 c1] = T at tot ⊢
  have b0 : c0.length ≤ maxLen := g0
  unfold maxLen at b0
  obtain ⟨l0, q0⟩ : ∃ x : Int, x = left - c0.length := ⟨_, rfl⟩
  have e0 : IntKind.i64.wrap (left - (c0.length : Int)) = l0 := by rw [q0, IntKind.wrap_i64]; omega
  by_cases n0 : l0 < 0
  · rw [less_lt (by omega)]
    refine callL_fn (fn := f_laws_szField) rfl ?_
    simp [f_laws_szField, binStr, e0, n0]
  rw [less_ge' (n := T) (l := l0) (by omega) (by omega)]
  refine callL_fn (fn := f_laws_szField) rfl ?_
  simp [f_laws_szField, binStr, e0, n0]
theorem eqField_ok {r : List PV} (h : HasL t_Field r) : callL Ph ext 91 [.agg (r.map .pv), .agg (r.map .pv)] = some (vbool true) := by
  obtain ⟨p0, r1, rfl, g0, k1⟩ := HasL_cons h
  obtain ⟨p1, r2, rfl, g1, k2⟩ := HasL_cons k1
  obtain rfl := HasL_nil k2
  obtain ⟨c0, rfl⟩ := Has_str g0
  obtain ⟨c1, rfl⟩ := Has_int g1
  show callL Ph ext 91 [.agg [.pv (.str c0), .pv (.int .i64 c1)], .agg [.pv (.str c0), .pv (.int .i64 c1)]] = _
  refine callL_fn (fn := f_laws_eqField) rfl ?_
  simp [f_laws_eqField, binStr]
theorem toFieldS_ok {rows : List (List PV)} (h : Has (.lst t_FieldS) (.lst rows)) (hs : sz (.lst rows) ≤ 1048576) : callL Ph ext 66 [vlst rows] = some (.one (.own 2 rows)) := by
  obtain ⟨hl, hr⟩ := Has_rows h
  have hn : rows.length ≤ 1048576 := Nat.le_trans (Nat.le_add_right _ _) hs
  refine toS_ok (Φ := Ph) (ext := ext) (k := 66) (bytes := 24) (z := 2) (kx := 89) (zero := [(.str []), (.int .i64 0)]) (fl := true) rfl (fun r m => HasL_len (hr r m)) (by decide) rfl hl (by omega) (fun r m => ?_)
  exact toField_copies (hr r m) (row_le m hs)
theorem szFieldS_ok {rows : List (List PV)} (h : Has (.lst t_FieldS) (.lst rows)) {left : Int} (h0 : 0 ≤ left) (h1 : left ≤ 1048576) : callL Ph ext 64 [vlst rows, vint .i64 left] = some (vint .i64 (less left (sz (.lst rows)))) := by
  obtain ⟨hl, hr⟩ := Has_rows h
  exact szS_ok (Φ := Ph) (ext := ext) (k := 64) (z := 2) (kx := 87) rfl (fun r m => HasL_len (hr r m)) hl (fun r m => szField_ok (hr r m)) h0 h1
theorem eqFieldS_ok {rows : List (List PV)} (h : Has (.lst t_FieldS) (.lst rows)) : callL Ph ext 69 [vlst rows, vlst rows] = some (vbool true) := by
  obtain ⟨hl, hr⟩ := Has_rows h
  exact eqS_ok (Φ := Ph) (ext := ext) (k := 69) (z := 2) (kx := 91) rfl (fun r m => HasL_len (hr r m)) hl (fun r m => eqField_ok (hr r m))
theorem toRecord_ok {c0 : List (List PV)} (h0 : Has (.lst t_FieldS) (.lst c0)) (hs : szL [.lst c0] ≤ 1048576) : callL Ph ext 35 [.agg [.pv (.lst c0)]] = some (.agg [.own 2 c0]) := by
  have e0 := (toFieldS_ok (ext := ext) h0 (Nat.le_trans (szL_at (i := 0) rfl) hs))
  refine callL_fn (fn := f_laws_toRecord) rfl ?_
  simp [f_laws_toRecord, binStr, e0]
theorem toRecord_copies {r : List PV} (h : HasL t_Record r) (hs : szL r ≤ 1048576) : Copies Ph ext 35 false r := by
  obtain ⟨p0, r1, rfl, g0, k1⟩ := HasL_cons h
  obtain rfl := HasL_nil k1
  obtain ⟨c0, rfl⟩ := Has_lst g0
  exact ⟨_, toRecord_ok g0 hs, rfl, rfl, fun h => by cases h⟩
theorem szRecord_ok {r : List PV} (h : HasL t_Record r) : Measures Ph ext 31 r := by
  obtain ⟨p0, r1, rfl, g0, k1⟩ := HasL_cons h
  obtain rfl := HasL_nil k1
  obtain ⟨c0, rfl⟩ := Has_lst g0
  intro left h0 h1
  show callL Ph ext 31 [.agg [.pv (.lst c0)], vint .i64 left] = _
  have tot : szL [.lst c0] = sz (.lst c0) := by simp only [szL_nil0, szL_cons0, sz_int0, sz_bool0, sz_str0, Nat.add_zero, Nat.zero_add, Nat.add_assoc]
  generalize szL [.lst c0] = T at tot ⊢
  have e0 := szFieldS_ok (ext := ext) g0 (left := left) (by omega) (by omega)
  generalize hS0 : sz (.lst c0) = S0 at tot e0
  generalize q0 : less left S0 = l0 at e0
  by_cases n0 : l0 < 0
  · have n0' := less_lt' (by omega) q0 n0
    rw [less_lt (by omega)]
    refine callL_fn (fn := f_laws_szRecord) rfl ?_
    simp [f_laws_szRecord, binStr, e0, n0]
  obtain ⟨y0, z0⟩ := less_pos (by omega) q0 n0
  rw [less_ge' (n := T) (l := l0) (by omega) (by omega)]
  refine callL_fn (fn := f_laws_szRecord) rfl ?_
  simp [f_laws_szRecord, binStr, e0, n0]
theorem eqRecord_ok {r : List PV} (h : HasL t_Record r) : callL Ph ext 39 [.agg (r.map .pv), .agg (r.map .pv)] = some (vbool true) := by
  obtain ⟨p0, r1, rfl, g0, k1⟩ := HasL_cons h
  obtain rfl := HasL_nil k1
  obtain ⟨c0, rfl⟩ := Has_lst g0
  show callL Ph ext 39 [.agg [.pv (.lst c0)], .agg [.pv (.lst c0)]] = _
  have e0 := eqFieldS_ok (ext := ext) g0
  refine callL_fn (fn := f_laws_eqRecord) rfl ?_
  simp [f_laws_eqRecord, binStr, e0]
theorem toItem_ok {c0 : Int} {c1 : Int} {c2 : List UInt8} {c3 : List (List PV)} (h0 : Has (.int .i64) (.int .i64 c0)) (h1 : Has (.int .i64) (.int .i64 c1)) (h2 : Has (.str) (.str c2)) (h3 : Has (.lst t_FieldS) (.lst c3)) (hs : szL [.int .i64 c0, .int .i64 c1, .str c2, .lst c3] ≤ 1048576) : callL Ph ext 7 [.agg [.pv (.int .i64 c0), .pv (.int .i64 c1), .pv (.str c2), .pv (.lst c3)]] = some (.agg [.pv (.int .i64 c0), .pv (.int .i64 c1), .pv (.str c2), .own 2 c3]) := by
  have e0 := (toKey_ok (ext := ext) h0 h1 h2 (Nat.le_trans (szL_sub [.int .i64 c0, .int .i64 c1, .str c2, .lst c3] 0 3) hs))
  have e1 := (toRecord_ok (ext := ext) h3 (Nat.le_trans (szL_sub [.int .i64 c0, .int .i64 c1, .str c2, .lst c3] 3 1) hs))
  refine callL_fn (fn := f_laws_toItem) rfl ?_
  simp [f_laws_toItem, binStr, e0, e1]
theorem toItem_copies {r : List PV} (h : HasL t_Item r) (hs : szL r ≤ 1048576) : Copies Ph ext 7 false r := by
  obtain ⟨p0, r1, rfl, g0, k1⟩ := HasL_cons h
  obtain ⟨p1, r2, rfl, g1, k2⟩ := HasL_cons k1
  obtain ⟨p2, r3, rfl, g2, k3⟩ := HasL_cons k2
  obtain ⟨p3, r4, rfl, g3, k4⟩ := HasL_cons k3
  obtain rfl := HasL_nil k4
  obtain ⟨c0, rfl⟩ := Has_int g0
  obtain ⟨c1, rfl⟩ := Has_int g1
  obtain ⟨c2, rfl⟩ := Has_str g2
  obtain ⟨c3, rfl⟩ := Has_lst g3
  exact ⟨_, toItem_ok g0 g1 g2 g3 hs, rfl, rfl, fun h => by cases h⟩
theorem szItem_ok {r : List PV} (h : HasL t_Item r) : Measures Ph ext 5 r := by
  obtain ⟨p0, r1, rfl, g0, k1⟩ := HasL_cons h
  obtain ⟨p1, r2, rfl, g1, k2⟩ := HasL_cons k1
  obtain ⟨p2, r3, rfl, g2, k3⟩ := HasL_cons k2
  obtain ⟨p3, r4, rfl, g3, k4⟩ := HasL_cons k3
  obtain rfl := HasL_nil k4
  obtain ⟨c0, rfl⟩ := Has_int g0
  obtain ⟨c1, rfl⟩ := Has_int g1
  obtain ⟨c2, rfl⟩ := Has_str g2
  obtain ⟨c3, rfl⟩ := Has_lst g3
  intro left h0 h1
  show callL Ph ext 5 [.agg [.pv (.int .i64 c0), .pv (.int .i64 c1), .pv (.str c2), .pv (.lst c3)], vint .i64 left] = _
  have tot : szL [.int .i64 c0, .int .i64 c1, .str c2, .lst c3] = szL [.int .i64 c0, .int .i64 c1, .str c2] + (szL [.lst c3]) := by simp only [szL_nil0, szL_cons0, sz_int0, sz_bool0, sz_str0, Nat.add_zero, Nat.zero_add, Nat.add_assoc]
  generalize szL [.int .i64 c0, .int .i64 c1, .str c2, .lst c3] = T at tot ⊢
  have e0 : callL Ph ext 30 [.agg [.pv (.int .i64 c0), .pv (.int .i64 c1), .pv (.str c2)], vint .i64 left] = some (vint .i64 (less left (szL [.int .i64 c0, .int .i64 c1, .str c2]))) := szKey_ok (ext := ext) (r := [.int .i64 c0, .int .i64 c1, .str c2]) (⟨g0, g1, g2, trivial⟩) left (by omega) (by omega)
  generalize hS0 : szL [.int .i64 c0, .int .i64 c1, .str c2] = S0 at tot e0
  generalize q0 : less left S0 = l0 at e0
  by_cases n0 : l0 < 0
  · have n0' := less_lt' (by omega) q0 n0
    rw [less_lt (by omega)]
    refine callL_fn (fn := f_laws_szItem) rfl ?_
    simp [f_laws_szItem, binStr, e0, n0]
  obtain ⟨y0, z0⟩ := less_pos (by omega) q0 n0
  have e1 : callL Ph ext 31 [.agg [.pv (.lst c3)], vint .i64 l0] = some (vint .i64 (less l0 (szL [.lst c3]))) := szRecord_ok (ext := ext) (r := [.lst c3]) (⟨g3, trivial⟩) l0 (by omega) (by omega)
  generalize hS1 : szL [.lst c3] = S1 at tot e1
  generalize q1 : less l0 S1 = l1 at e1
  by_cases n1 : l1 < 0
  · have n1' := less_lt' (by omega) q1 n1
    rw [less_lt (by omega)]
    refine callL_fn (fn := f_laws_szItem) rfl ?_
    simp [f_laws_szItem, binStr, e0, e1, n0, n1]
  obtain ⟨y1, z1⟩ := less_pos (by omega) q1 n1
  rw [less_ge' (n := T) (l := l1) (by omega) (by omega)]
  refine callL_fn (fn := f_laws_szItem) rfl ?_
  simp [f_laws_szItem, binStr, e0, e1, n0, n1]
theorem eqItem_ok {r : List PV} (h : HasL t_Item r) : callL Ph ext 9 [.agg (r.map .pv), .agg (r.map .pv)] = some (vbool true) := by
  obtain ⟨p0, r1, rfl, g0, k1⟩ := HasL_cons h
  obtain ⟨p1, r2, rfl, g1, k2⟩ := HasL_cons k1
  obtain ⟨p2, r3, rfl, g2, k3⟩ := HasL_cons k2
  obtain ⟨p3, r4, rfl, g3, k4⟩ := HasL_cons k3
  obtain rfl := HasL_nil k4
  obtain ⟨c0, rfl⟩ := Has_int g0
  obtain ⟨c1, rfl⟩ := Has_int g1
  obtain ⟨c2, rfl⟩ := Has_str g2
  obtain ⟨c3, rfl⟩ := Has_lst g3
  show callL Ph ext 9 [.agg [.pv (.int .i64 c0), .pv (.int .i64 c1), .pv (.str c2), .pv (.lst c3)], .agg [.pv (.int .i64 c0), .pv (.int .i64 c1), .pv (.str c2), .pv (.lst c3)]] = _
  have e0 : callL Ph ext 38 [.agg [.pv (.int .i64 c0), .pv (.int .i64 c1), .pv (.str c2)], .agg [.pv (.int .i64 c0), .pv (.int .i64 c1), .pv (.str c2)]] = some (vbool true) := eqKey_ok (ext := ext) (r := [.int .i64 c0, .int .i64 c1, .str c2]) (⟨g0, g1, g2, trivial⟩)
  have e1 : callL Ph ext 39 [.agg [.pv (.lst c3)], .agg [.pv (.lst c3)]] = some (vbool true) := eqRecord_ok (ext := ext) (r := [.lst c3]) (⟨g3, trivial⟩)
  refine callL_fn (fn := f_laws_eqItem) rfl ?_
  simp [f_laws_eqItem, binStr, e0, e1]
theorem toLoaded_ok {c0 : List UInt8} {c1 : Int} (h0 : Has (.str) (.str c0)) (h1 : Has (.int .i64) (.int .i64 c1)) (hs : szL [.str c0, .int .i64 c1] ≤ 1048576) : callL Ph ext 73 [.agg [.pv (.str c0), .pv (.int .i64 c1)]] = some (.agg [.pv (.str c0), .pv (.int .i64 c1)]) := by
  refine callL_fn (fn := f_laws_toLoaded) rfl ?_
  simp [f_laws_toLoaded, binStr]
theorem toLoaded_copies {r : List PV} (h : HasL t_Loaded r) (hs : szL r ≤ 1048576) : Copies Ph ext 73 true r := by
  obtain ⟨p0, r1, rfl, g0, k1⟩ := HasL_cons h
  obtain ⟨p1, r2, rfl, g1, k2⟩ := HasL_cons k1
  obtain rfl := HasL_nil k2
  obtain ⟨c0, rfl⟩ := Has_str g0
  obtain ⟨c1, rfl⟩ := Has_int g1
  exact ⟨_, toLoaded_ok g0 g1 hs, rfl, rfl, fun _ => ⟨rfl, rfl⟩⟩
theorem szLoaded_ok {r : List PV} (h : HasL t_Loaded r) : Measures Ph ext 70 r := by
  obtain ⟨p0, r1, rfl, g0, k1⟩ := HasL_cons h
  obtain ⟨p1, r2, rfl, g1, k2⟩ := HasL_cons k1
  obtain rfl := HasL_nil k2
  obtain ⟨c0, rfl⟩ := Has_str g0
  obtain ⟨c1, rfl⟩ := Has_int g1
  intro left h0 h1
  show callL Ph ext 70 [.agg [.pv (.str c0), .pv (.int .i64 c1)], vint .i64 left] = _
  have tot : szL [.str c0, .int .i64 c1] = c0.length := by simp only [szL_nil0, szL_cons0, sz_int0, sz_bool0, sz_str0, Nat.add_zero, Nat.zero_add, Nat.add_assoc]
  generalize szL [.str c0, .int .i64 c1] = T at tot ⊢
  have b0 : c0.length ≤ maxLen := g0
  unfold maxLen at b0
  obtain ⟨l0, q0⟩ : ∃ x : Int, x = left - c0.length := ⟨_, rfl⟩
  have e0 : IntKind.i64.wrap (left - (c0.length : Int)) = l0 := by rw [q0, IntKind.wrap_i64]; omega
  by_cases n0 : l0 < 0
  · rw [less_lt (by omega)]
    refine callL_fn (fn := f_laws_szLoaded) rfl ?_
    simp [f_laws_szLoaded, binStr, e0, n0]
  rw [less_ge' (n := T) (l := l0) (by omega) (by omega)]
  refine callL_fn (fn := f_laws_szLoaded) rfl ?_
  simp [f_laws_szLoaded, binStr, e0, n0]
theorem eqLoaded_ok {r : List PV} (h : HasL t_Loaded r) : callL Ph ext 76 [.agg (r.map .pv), .agg (r.map .pv)] = some (vbool true) := by
  obtain ⟨p0, r1, rfl, g0, k1⟩ := HasL_cons h
  obtain ⟨p1, r2, rfl, g1, k2⟩ := HasL_cons k1
  obtain rfl := HasL_nil k2
  obtain ⟨c0, rfl⟩ := Has_str g0
  obtain ⟨c1, rfl⟩ := Has_int g1
  show callL Ph ext 76 [.agg [.pv (.str c0), .pv (.int .i64 c1)], .agg [.pv (.str c0), .pv (.int .i64 c1)]] = _
  refine callL_fn (fn := f_laws_eqLoaded) rfl ?_
  simp [f_laws_eqLoaded, binStr]
theorem toLoadedS_ok {rows : List (List PV)} (h : Has (.lst t_LoadedS) (.lst rows)) (hs : sz (.lst rows) ≤ 1048576) : callL Ph ext 42 [vlst rows] = some (.one (.own 2 rows)) := by
  obtain ⟨hl, hr⟩ := Has_rows h
  have hn : rows.length ≤ 1048576 := Nat.le_trans (Nat.le_add_right _ _) hs
  refine toS_ok (Φ := Ph) (ext := ext) (k := 42) (bytes := 24) (z := 2) (kx := 73) (zero := [(.str []), (.int .i64 0)]) (fl := true) rfl (fun r m => HasL_len (hr r m)) (by decide) rfl hl (by omega) (fun r m => ?_)
  exact toLoaded_copies (hr r m) (row_le m hs)
theorem szLoadedS_ok {rows : List (List PV)} (h : Has (.lst t_LoadedS) (.lst rows)) {left : Int} (h0 : 0 ≤ left) (h1 : left ≤ 1048576) : callL Ph ext 40 [vlst rows, vint .i64 left] = some (vint .i64 (less left (sz (.lst rows)))) := by
  obtain ⟨hl, hr⟩ := Has_rows h
  exact szS_ok (Φ := Ph) (ext := ext) (k := 40) (z := 2) (kx := 70) rfl (fun r m => HasL_len (hr r m)) hl (fun r m => szLoaded_ok (hr r m)) h0 h1
theorem eqLoadedS_ok {rows : List (List PV)} (h : Has (.lst t_LoadedS) (.lst rows)) : callL Ph ext 44 [vlst rows, vlst rows] = some (vbool true) := by
  obtain ⟨hl, hr⟩ := Has_rows h
  exact eqS_ok (Φ := Ph) (ext := ext) (k := 44) (z := 2) (kx := 76) rfl (fun r m => HasL_len (hr r m)) hl (fun r m => eqLoaded_ok (hr r m))
theorem toInstr_ok {c0 : Int} {c1 : Int} {c2 : Int} {c3 : List UInt8} (h0 : Has (.int .i64) (.int .i64 c0)) (h1 : Has (.int .i64) (.int .i64 c1)) (h2 : Has (.int .i64) (.int .i64 c2)) (h3 : Has (.str) (.str c3)) (hs : szL [.int .i64 c0, .int .i64 c1, .int .i64 c2, .str c3] ≤ 1048576) : callL Ph ext 93 [.agg [.pv (.int .i64 c0), .pv (.int .i64 c1), .pv (.int .i64 c2), .pv (.str c3)]] = some (.agg [.pv (.int .i64 c0), .pv (.int .i64 c1), .pv (.int .i64 c2), .pv (.str c3)]) := by
  refine callL_fn (fn := f_laws_toInstr) rfl ?_
  simp [f_laws_toInstr, binStr]
theorem toInstr_copies {r : List PV} (h : HasL t_Instr r) (hs : szL r ≤ 1048576) : Copies Ph ext 93 true r := by
  obtain ⟨p0, r1, rfl, g0, k1⟩ := HasL_cons h
  obtain ⟨p1, r2, rfl, g1, k2⟩ := HasL_cons k1
  obtain ⟨p2, r3, rfl, g2, k3⟩ := HasL_cons k2
  obtain ⟨p3, r4, rfl, g3, k4⟩ := HasL_cons k3
  obtain rfl := HasL_nil k4
  obtain ⟨c0, rfl⟩ := Has_int g0
  obtain ⟨c1, rfl⟩ := Has_int g1
  obtain ⟨c2, rfl⟩ := Has_int g2
  obtain ⟨c3, rfl⟩ := Has_str g3
  exact ⟨_, toInstr_ok g0 g1 g2 g3 hs, rfl, rfl, fun _ => ⟨rfl, rfl⟩⟩
theorem szInstr_ok {r : List PV} (h : HasL t_Instr r) : Measures Ph ext 92 r := by
  obtain ⟨p0, r1, rfl, g0, k1⟩ := HasL_cons h
  obtain ⟨p1, r2, rfl, g1, k2⟩ := HasL_cons k1
  obtain ⟨p2, r3, rfl, g2, k3⟩ := HasL_cons k2
  obtain ⟨p3, r4, rfl, g3, k4⟩ := HasL_cons k3
  obtain rfl := HasL_nil k4
  obtain ⟨c0, rfl⟩ := Has_int g0
  obtain ⟨c1, rfl⟩ := Has_int g1
  obtain ⟨c2, rfl⟩ := Has_int g2
  obtain ⟨c3, rfl⟩ := Has_str g3
  intro left h0 h1
  show callL Ph ext 92 [.agg [.pv (.int .i64 c0), .pv (.int .i64 c1), .pv (.int .i64 c2), .pv (.str c3)], vint .i64 left] = _
  have tot : szL [.int .i64 c0, .int .i64 c1, .int .i64 c2, .str c3] = c3.length := by simp only [szL_nil0, szL_cons0, sz_int0, sz_bool0, sz_str0, Nat.add_zero, Nat.zero_add, Nat.add_assoc]
  generalize szL [.int .i64 c0, .int .i64 c1, .int .i64 c2, .str c3] = T at tot ⊢
  have b0 : c3.length ≤ maxLen := g3
  unfold maxLen at b0
  obtain ⟨l0, q0⟩ : ∃ x : Int, x = left - c3.length := ⟨_, rfl⟩
  have e0 : IntKind.i64.wrap (left - (c3.length : Int)) = l0 := by rw [q0, IntKind.wrap_i64]; omega
  by_cases n0 : l0 < 0
  · rw [less_lt (by omega)]
    refine callL_fn (fn := f_laws_szInstr) rfl ?_
    simp [f_laws_szInstr, binStr, e0, n0]
  rw [less_ge' (n := T) (l := l0) (by omega) (by omega)]
  refine callL_fn (fn := f_laws_szInstr) rfl ?_
  simp [f_laws_szInstr, binStr, e0, n0]
theorem eqInstr_ok {r : List PV} (h : HasL t_Instr r) : callL Ph ext 94 [.agg (r.map .pv), .agg (r.map .pv)] = some (vbool true) := by
  obtain ⟨p0, r1, rfl, g0, k1⟩ := HasL_cons h
  obtain ⟨p1, r2, rfl, g1, k2⟩ := HasL_cons k1
  obtain ⟨p2, r3, rfl, g2, k3⟩ := HasL_cons k2
  obtain ⟨p3, r4, rfl, g3, k4⟩ := HasL_cons k3
  obtain rfl := HasL_nil k4
  obtain ⟨c0, rfl⟩ := Has_int g0
  obtain ⟨c1, rfl⟩ := Has_int g1
  obtain ⟨c2, rfl⟩ := Has_int g2
  obtain ⟨c3, rfl⟩ := Has_str g3
  show callL Ph ext 94 [.agg [.pv (.int .i64 c0), .pv (.int .i64 c1), .pv (.int .i64 c2), .pv (.str c3)], .agg [.pv (.int .i64 c0), .pv (.int .i64 c1), .pv (.int .i64 c2), .pv (.str c3)]] = _
  refine callL_fn (fn := f_laws_eqInstr) rfl ?_
  simp [f_laws_eqInstr, binStr]
theorem toInstrS_ok {rows : List (List PV)} (h : Has (.lst t_InstrS) (.lst rows)) (hs : sz (.lst rows) ≤ 1048576) : callL Ph ext 74 [vlst rows] = some (.one (.own 4 rows)) := by
  obtain ⟨hl, hr⟩ := Has_rows h
  have hn : rows.length ≤ 1048576 := Nat.le_trans (Nat.le_add_right _ _) hs
  refine toS_ok (Φ := Ph) (ext := ext) (k := 74) (bytes := 40) (z := 4) (kx := 93) (zero := [(.int .i64 0), (.int .i64 0), (.int .i64 0), (.str [])]) (fl := true) rfl (fun r m => HasL_len (hr r m)) (by decide) rfl hl (by omega) (fun r m => ?_)
  exact toInstr_copies (hr r m) (row_le m hs)
theorem szInstrS_ok {rows : List (List PV)} (h : Has (.lst t_InstrS) (.lst rows)) {left : Int} (h0 : 0 ≤ left) (h1 : left ≤ 1048576) : callL Ph ext 71 [vlst rows, vint .i64 left] = some (vint .i64 (less left (sz (.lst rows)))) := by
  obtain ⟨hl, hr⟩ := Has_rows h
  exact szS_ok (Φ := Ph) (ext := ext) (k := 71) (z := 4) (kx := 92) rfl (fun r m => HasL_len (hr r m)) hl (fun r m => szInstr_ok (hr r m)) h0 h1
theorem eqInstrS_ok {rows : List (List PV)} (h : Has (.lst t_InstrS) (.lst rows)) : callL Ph ext 77 [vlst rows, vlst rows] = some (vbool true) := by
  obtain ⟨hl, hr⟩ := Has_rows h
  exact eqS_ok (Φ := Ph) (ext := ext) (k := 77) (z := 4) (kx := 94) rfl (fun r m => HasL_len (hr r m)) hl (fun r m => eqInstr_ok (hr r m))
theorem toIntS_ok {rows : List (List PV)} (h : Has (.lst t_IntS) (.lst rows)) (hs : sz (.lst rows) ≤ 1048576) : callL Ph ext 75 [vlst rows] = some (.one (.own 1 rows)) := by
  obtain ⟨hl, hr⟩ := Has_rows h
  have hn : rows.length ≤ 1048576 := Nat.le_trans (Nat.le_add_right _ _) hs
  obtain ⟨qs, rfl⟩ := singles hr
  exact toF_ok (Φ := Ph) (ext := ext) (k := 75) (bytes := 8) (zero := (.int .i64 0)) rfl (by simpa using hl) (by simp at hn; omega)
theorem szIntS_ok {rows : List (List PV)} (h : Has (.lst t_IntS) (.lst rows)) {left : Int} (h0 : 0 ≤ left) (h1 : left ≤ 1048576) : callL Ph ext 72 [vlst rows, vint .i64 left] = some (vint .i64 (less left (sz (.lst rows)))) := by
  obtain ⟨hl, hr⟩ := Has_rows h
  rw [sz_lst, szRows_zero (ts := t_IntS) (by decide) hr]
  exact szF_ok (Φ := Ph) (ext := ext) (k := 72) rfl hl h0 h1
theorem eqIntS_ok {rows : List (List PV)} (h : Has (.lst t_IntS) (.lst rows)) : callL Ph ext 78 [vlst rows, vlst rows] = some (vbool true) := by
  obtain ⟨hl, hr⟩ := Has_rows h
  obtain ⟨qs, rfl⟩ := singles hr
  exact eqF_ok (Φ := Ph) (ext := ext) (k := 78) rfl (plains (by decide) hr) (by simpa using hl)
theorem toMachine_ok {c0 : List (List PV)} {c1 : Int} {c2 : List (List PV)} {c3 : Int} {c4 : Bool} {c5 : Bool} (h0 : Has (.lst t_InstrS) (.lst c0)) (h1 : Has (.int .i64) (.int .i64 c1)) (h2 : Has (.lst t_IntS) (.lst c2)) (h3 : Has (.int .i64) (.int .i64 c3)) (h4 : Has (.bool) (.bool c4)) (h5 : Has (.bool) (.bool c5)) (hs : szL [.lst c0, .int .i64 c1, .lst c2, .int .i64 c3, .bool c4, .bool c5] ≤ 1048576) : callL Ph ext 43 [.agg [.pv (.lst c0), .pv (.int .i64 c1), .pv (.lst c2), .pv (.int .i64 c3), .pv (.bool c4), .pv (.bool c5)]] = some (.agg [.own 4 c0, .pv (.int .i64 c1), .own 1 c2, .pv (.int .i64 c3), .pv (.bool c4), .pv (.bool c5)]) := by
  have e0 := (toInstrS_ok (ext := ext) h0 (Nat.le_trans (szL_at (i := 0) rfl) hs))
  have e1 := (toIntS_ok (ext := ext) h2 (Nat.le_trans (szL_at (i := 2) rfl) hs))
  refine callL_fn (fn := f_laws_toMachine) rfl ?_
  simp [f_laws_toMachine, binStr, e0, e1]
theorem toMachine_copies {r : List PV} (h : HasL t_Machine r) (hs : szL r ≤ 1048576) : Copies Ph ext 43 false r := by
  obtain ⟨p0, r1, rfl, g0, k1⟩ := HasL_cons h
  obtain ⟨p1, r2, rfl, g1, k2⟩ := HasL_cons k1
  obtain ⟨p2, r3, rfl, g2, k3⟩ := HasL_cons k2
  obtain ⟨p3, r4, rfl, g3, k4⟩ := HasL_cons k3
  obtain ⟨p4, r5, rfl, g4, k5⟩ := HasL_cons k4
  obtain ⟨p5, r6, rfl, g5, k6⟩ := HasL_cons k5
  obtain rfl := HasL_nil k6
  obtain ⟨c0, rfl⟩ := Has_lst g0
  obtain ⟨c1, rfl⟩ := Has_int g1
  obtain ⟨c2, rfl⟩ := Has_lst g2
  obtain ⟨c3, rfl⟩ := Has_int g3
  obtain ⟨c4, rfl⟩ := Has_bool g4
  obtain ⟨c5, rfl⟩ := Has_bool g5
  exact ⟨_, toMachine_ok g0 g1 g2 g3 g4 g5 hs, rfl, rfl, fun h => by cases h⟩
theorem szMachine_ok {r : List PV} (h : HasL t_Machine r) : Measures Ph ext 41 r := by
  obtain ⟨p0, r1, rfl, g0, k1⟩ := HasL_cons h
  obtain ⟨p1, r2, rfl, g1, k2⟩ := HasL_cons k1
  obtain ⟨p2, r3, rfl, g2, k3⟩ := HasL_cons k2
  obtain ⟨p3, r4, rfl, g3, k4⟩ := HasL_cons k3
  obtain ⟨p4, r5, rfl, g4, k5⟩ := HasL_cons k4
  obtain ⟨p5, r6, rfl, g5, k6⟩ := HasL_cons k5
  obtain rfl := HasL_nil k6
  obtain ⟨c0, rfl⟩ := Has_lst g0
  obtain ⟨c1, rfl⟩ := Has_int g1
  obtain ⟨c2, rfl⟩ := Has_lst g2
  obtain ⟨c3, rfl⟩ := Has_int g3
  obtain ⟨c4, rfl⟩ := Has_bool g4
  obtain ⟨c5, rfl⟩ := Has_bool g5
  intro left h0 h1
  show callL Ph ext 41 [.agg [.pv (.lst c0), .pv (.int .i64 c1), .pv (.lst c2), .pv (.int .i64 c3), .pv (.bool c4), .pv (.bool c5)], vint .i64 left] = _
  have tot : szL [.lst c0, .int .i64 c1, .lst c2, .int .i64 c3, .bool c4, .bool c5] = sz (.lst c0) + (sz (.lst c2)) := by simp only [szL_nil0, szL_cons0, sz_int0, sz_bool0, sz_str0, Nat.add_zero, Nat.zero_add, Nat.add_assoc]
  generalize szL [.lst c0, .int .i64 c1, .lst c2, .int .i64 c3, .bool c4, .bool c5] = T at tot ⊢
  have e0 := szInstrS_ok (ext := ext) g0 (left := left) (by omega) (by omega)
  generalize hS0 : sz (.lst c0) = S0 at tot e0
  generalize q0 : less left S0 = l0 at e0
  by_cases n0 : l0 < 0
  · have n0' := less_lt' (by omega) q0 n0
    rw [less_lt (by omega)]
    refine callL_fn (fn := f_laws_szMachine) rfl ?_
    simp [f_laws_szMachine, binStr, e0, n0]
  obtain ⟨y0, z0⟩ := less_pos (by omega) q0 n0
  have e1 := szIntS_ok (ext := ext) g2 (left := l0) (by omega) (by omega)
  generalize hS1 : sz (.lst c2) = S1 at tot e1
  generalize q1 : less l0 S1 = l1 at e1
  by_cases n1 : l1 < 0
  · have n1' := less_lt' (by omega) q1 n1
    rw [less_lt (by omega)]
    refine callL_fn (fn := f_laws_szMachine) rfl ?_
    simp [f_laws_szMachine, binStr, e0, e1, n0, n1]
  obtain ⟨y1, z1⟩ := less_pos (by omega) q1 n1
  rw [less_ge' (n := T) (l := l1) (by omega) (by omega)]
  refine callL_fn (fn := f_laws_szMachine) rfl ?_
  simp [f_laws_szMachine, binStr, e0, e1, n0, n1]
theorem eqMachine_ok {r : List PV} (h : HasL t_Machine r) : callL Ph ext 45 [.agg (r.map .pv), .agg (r.map .pv)] = some (vbool true) := by
  obtain ⟨p0, r1, rfl, g0, k1⟩ := HasL_cons h
  obtain ⟨p1, r2, rfl, g1, k2⟩ := HasL_cons k1
  obtain ⟨p2, r3, rfl, g2, k3⟩ := HasL_cons k2
  obtain ⟨p3, r4, rfl, g3, k4⟩ := HasL_cons k3
  obtain ⟨p4, r5, rfl, g4, k5⟩ := HasL_cons k4
  obtain ⟨p5, r6, rfl, g5, k6⟩ := HasL_cons k5
  obtain rfl := HasL_nil k6
  obtain ⟨c0, rfl⟩ := Has_lst g0
  obtain ⟨c1, rfl⟩ := Has_int g1
  obtain ⟨c2, rfl⟩ := Has_lst g2
  obtain ⟨c3, rfl⟩ := Has_int g3
  obtain ⟨c4, rfl⟩ := Has_bool g4
  obtain ⟨c5, rfl⟩ := Has_bool g5
  show callL Ph ext 45 [.agg [.pv (.lst c0), .pv (.int .i64 c1), .pv (.lst c2), .pv (.int .i64 c3), .pv (.bool c4), .pv (.bool c5)], .agg [.pv (.lst c0), .pv (.int .i64 c1), .pv (.lst c2), .pv (.int .i64 c3), .pv (.bool c4), .pv (.bool c5)]] = _
  have e0 := eqInstrS_ok (ext := ext) g0
  have e1 := eqIntS_ok (ext := ext) g2
  refine callL_fn (fn := f_laws_eqMachine) rfl ?_
  simp [f_laws_eqMachine, binStr, e0, e1]
end
end Gi
