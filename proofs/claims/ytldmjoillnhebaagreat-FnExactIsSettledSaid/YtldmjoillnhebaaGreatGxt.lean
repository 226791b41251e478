/- The program's structs as structures; the data of the laws' arguments are such. Written by program. -/
import Derived.Test.YtldmjoillnhebaaGreatGtb
namespace Gi
open Go Go.RowKit
set_option linter.unusedSimpArgs false
set_option linter.unusedVariables false

def inI (n : Int) : Prop := -9223372036854775808 ≤ n ∧ n ≤ 9223372036854775807
theorem inI_has {n : Int} (h : inI n) : (Lit.int .i64 n).wf = true := by
  unfold inI at h
  simp [Lit.wf, IntKind.min, IntKind.max, IntKind.signed, IntKind.bits]
  omega
theorem inI_of {n : Int} (h : Has (.int .i64) (.int .i64 n)) : inI n := by
  simp only [Has, Lit.wf, IntKind.min, IntKind.max, IntKind.signed, IntKind.bits] at h
  simp at h
  unfold inI
  omega
theorem inI_wrap (n : Int) : inI (IntKind.i64.wrap n) := by
  rw [IntKind.wrap_i64]
  unfold inI
  omega
theorem wrap_in {n : Int} (h : inI n) : IntKind.i64.wrap n = n := by
  unfold inI at h
  rw [IntKind.wrap_i64]
  omega
def i1x (n : Int) : List PV := [.int .i64 n]
def s1x (s : List UInt8) : List PV := [.str s]
theorem ofL {α : Type} {e : α → List PV} {ok : α → Prop} {ts : List PTy} {B : Nat} (f : ∀ r, HasL ts r → szL r ≤ B → ∃ x, r = e x ∧ ok x) : ∀ {rows : List (List PV)}, (∀ r ∈ rows, HasL ts r) → sz (.lst rows) ≤ B → ∃ xs : List α, rows = xs.map e ∧ (xs.length ≤ B ∧ ∀ x ∈ xs, ok x)
  | [], _, _ => ⟨[], rfl, by simp, by simp⟩
  | r :: rows, h, hz => by
    rw [sz_lst] at hz
    simp only [szRows, List.length_cons] at hz
    obtain ⟨x, rfl, hx⟩ := f r (h r (by simp)) (by omega)
    obtain ⟨xs, rfl, hl, ha⟩ := ofL f (rows := rows) (fun r m => h r (by simp [m])) (by rw [sz_lst]; omega)
    refine ⟨x :: xs, rfl, by simp at hz ⊢; omega, fun y hy => ?_⟩
    rcases List.mem_cons.1 hy with rfl | hy
    · exact hx
    · exact ha y hy
theorem has_map {α : Type} {e : α → List PV} {ok : α → Prop} {ts : List PTy} (f : ∀ x, ok x → HasL ts (e x)) {xs : List α} {B : Nat} (hB : B ≤ maxLen) (h : xs.length ≤ B ∧ ∀ x ∈ xs, ok x) : Has (.lst ts) (.lst (xs.map e)) := by
  simp only [Has, List.length_map]
  refine ⟨by omega, fun r m => ?_⟩
  obtain ⟨x, hx, rfl⟩ := List.mem_map.1 m
  exact f x (h.2 x hx)
theorem i1x_of {B : Nat} : ∀ r, HasL t_IntS r → szL r ≤ B → ∃ x, r = i1x x ∧ inI x := fun r h _ => by
  obtain ⟨p0, r1, rfl, g0, k1⟩ := HasL_cons h
  obtain rfl := HasL_nil k1
  obtain ⟨c0, rfl⟩ := Has_int g0
  exact ⟨c0, rfl, inI_of g0⟩
theorem i1x_has {x : Int} (h : inI x) : HasL t_IntS (i1x x) := by
  simp only [t_IntS, i1x, HasL, Has]
  exact ⟨⟨trivial, inI_has h⟩, trivial⟩
theorem s1x_of {B : Nat} : ∀ r, HasL t_StringS r → szL r ≤ B → ∃ x, r = s1x x ∧ x.length ≤ B := fun r h hz => by
  obtain ⟨p0, r1, rfl, g0, k1⟩ := HasL_cons h
  obtain rfl := HasL_nil k1
  obtain ⟨c0, rfl⟩ := Has_str g0
  refine ⟨c0, rfl, ?_⟩
  simp only [szL, sz] at hz
  omega
theorem s1x_has {B : Nat} (hB : B ≤ maxLen) {x : List UInt8} (h : x.length ≤ B) : HasL t_StringS (s1x x) := by
  simp only [t_StringS, s1x, HasL, Has]
  exact ⟨by omega, trivial⟩
theorem b1x_of {rows : List (List PV)} (h : ∀ r ∈ rows, HasL t_ByteS r) : ∃ s : List UInt8, rows = ofBytes s := by
  induction rows with
  | nil => exact ⟨[], rfl⟩
  | cons r rows ih =>
    obtain ⟨s, rfl⟩ := ih fun r m => h r (by simp [m])
    obtain ⟨p0, r1, rfl, g0, k1⟩ := HasL_cons (h r (by simp))
    obtain rfl := HasL_nil k1
    obtain ⟨c0, rfl⟩ := Has_int g0
    refine ⟨UInt8.ofNat c0.toNat :: s, ?_⟩
    simp only [Has, Lit.wf, IntKind.min, IntKind.max, IntKind.signed, IntKind.bits] at g0
    simp at g0
    simp only [ofBytes, List.map_cons, List.cons.injEq, and_true, PV.int.injEq, true_and]
    simp
    omega
theorem b1x_len (s : List UInt8) : (ofBytes s).length = s.length := by simp [ofBytes]
theorem b1x_has {s : List UInt8} {B : Nat} (hB : B ≤ maxLen) (h : s.length ≤ B) : Has (.lst t_ByteS) (.lst (ofBytes s)) := by
  simp only [Has, b1x_len]
  refine ⟨by omega, fun r m => ?_⟩
  simp only [ofBytes, List.mem_map] at m
  obtain ⟨b, _, rfl⟩ := m
  simp only [t_ByteS, HasL, Has, Lit.wf, IntKind.min, IntKind.max, IntKind.signed, IntKind.bits]
  simp
  have := b.toNat_lt
  omega
structure XKey where
  kind : Int
  n : Int
  text : List UInt8
def XKey.e (x : XKey) : List PV := [.int .i64 x.kind, .int .i64 x.n, .str x.text]
def XKey.v (x : XKey) : V := .agg [.pv (.int .i64 x.kind), .pv (.int .i64 x.n), .pv (.str x.text)]
theorem XKey_e (x : XKey) : x.e = [.int .i64 x.kind, .int .i64 x.n, .str x.text] := rfl
def XKey.Ok (B : Nat) (x : XKey) : Prop := inI x.kind ∧ inI x.n ∧ x.text.length ≤ B
theorem XKey.of {B : Nat} : ∀ r : List PV, HasL t_Key r → szL r ≤ B → ∃ x : XKey, r = x.e ∧ x.Ok B := fun r h hz => by
  obtain ⟨p0, r1, rfl, g0, k1⟩ := HasL_cons h
  obtain ⟨p1, r2, rfl, g1, k2⟩ := HasL_cons k1
  obtain ⟨p2, r3, rfl, g2, k3⟩ := HasL_cons k2
  obtain rfl := HasL_nil k3
  have z0 := Nat.le_trans (szL_at (i := 0) rfl) hz
  obtain ⟨c0, rfl⟩ := Has_int g0
  have z1 := Nat.le_trans (szL_at (i := 1) rfl) hz
  obtain ⟨c1, rfl⟩ := Has_int g1
  have z2 := Nat.le_trans (szL_at (i := 2) rfl) hz
  obtain ⟨c2, rfl⟩ := Has_str g2
  rw [sz_str0] at z2
  exact ⟨⟨c0, c1, c2⟩, rfl, ⟨inI_of g0, inI_of g1, z2⟩⟩
theorem XKey.has {B : Nat} (hB : B ≤ maxLen) {x : XKey} (h : x.Ok B) : HasL t_Key x.e := by
  obtain ⟨h0, h1, h2⟩ := h
  simp only [t_Key, XKey.e, HasL]
  exact ⟨by simp only [Has]; exact ⟨trivial, inI_has h0⟩, by simp only [Has]; exact ⟨trivial, inI_has h1⟩, by simp only [Has]; exact Nat.le_trans h2 hB, trivial⟩
structure XField where
  name : List UInt8
  n : Int
def XField.e (x : XField) : List PV := [.str x.name, .int .i64 x.n]
def XField.v (x : XField) : V := .agg [.pv (.str x.name), .pv (.int .i64 x.n)]
theorem XField_e (x : XField) : x.e = [.str x.name, .int .i64 x.n] := rfl
def XField.Ok (B : Nat) (x : XField) : Prop := x.name.length ≤ B ∧ inI x.n
theorem XField.of {B : Nat} : ∀ r : List PV, HasL t_Field r → szL r ≤ B → ∃ x : XField, r = x.e ∧ x.Ok B := fun r h hz => by
  obtain ⟨p0, r1, rfl, g0, k1⟩ := HasL_cons h
  obtain ⟨p1, r2, rfl, g1, k2⟩ := HasL_cons k1
  obtain rfl := HasL_nil k2
  have z0 := Nat.le_trans (szL_at (i := 0) rfl) hz
  obtain ⟨c0, rfl⟩ := Has_str g0
  rw [sz_str0] at z0
  have z1 := Nat.le_trans (szL_at (i := 1) rfl) hz
  obtain ⟨c1, rfl⟩ := Has_int g1
  exact ⟨⟨c0, c1⟩, rfl, ⟨z0, inI_of g1⟩⟩
theorem XField.has {B : Nat} (hB : B ≤ maxLen) {x : XField} (h : x.Ok B) : HasL t_Field x.e := by
  obtain ⟨h0, h1⟩ := h
  simp only [t_Field, XField.e, HasL]
  exact ⟨by simp only [Has]; exact Nat.le_trans h0 hB, by simp only [Has]; exact ⟨trivial, inI_has h1⟩, trivial⟩
structure XRecord where
  fs : List XField
def XRecord.e (x : XRecord) : List PV := [.lst (x.fs.map XField.e)]
def XRecord.v (x : XRecord) : V := .agg [.pv (.lst (x.fs.map XField.e))]
theorem XRecord_e (x : XRecord) : x.e = [.lst (x.fs.map XField.e)] := rfl
def XRecord.Ok (B : Nat) (x : XRecord) : Prop := (x.fs.length ≤ B ∧ ∀ y ∈ x.fs, y.Ok B)
theorem XRecord.of {B : Nat} : ∀ r : List PV, HasL t_Record r → szL r ≤ B → ∃ x : XRecord, r = x.e ∧ x.Ok B := fun r h hz => by
  obtain ⟨p0, r1, rfl, g0, k1⟩ := HasL_cons h
  obtain rfl := HasL_nil k1
  have z0 := Nat.le_trans (szL_at (i := 0) rfl) hz
  obtain ⟨c0, rfl⟩ := Has_lst g0
  obtain ⟨l0, rfl, y0⟩ := ofL XField.of (Has_rows g0).2 z0
  exact ⟨⟨l0⟩, rfl, y0⟩
theorem XRecord.has {B : Nat} (hB : B ≤ maxLen) {x : XRecord} (h : x.Ok B) : HasL t_Record x.e := by
  have h0 := h
  simp only [t_Record, XRecord.e, HasL]
  exact ⟨has_map (fun _ q => XField.has hB q) hB h0, trivial⟩
structure XItem where
  key : XKey
  rcd : XRecord
def XItem.e (x : XItem) : List PV := [.int .i64 x.key.kind, .int .i64 x.key.n, .str x.key.text, .lst (x.rcd.fs.map XField.e)]
def XItem.v (x : XItem) : V := .agg [.pv (.int .i64 x.key.kind), .pv (.int .i64 x.key.n), .pv (.str x.key.text), .pv (.lst (x.rcd.fs.map XField.e))]
theorem XItem_e (x : XItem) : x.e = [.int .i64 x.key.kind, .int .i64 x.key.n, .str x.key.text, .lst (x.rcd.fs.map XField.e)] := rfl
def XItem.Ok (B : Nat) (x : XItem) : Prop := x.key.Ok B ∧ x.rcd.Ok B
theorem XItem.of {B : Nat} : ∀ r : List PV, HasL t_Item r → szL r ≤ B → ∃ x : XItem, r = x.e ∧ x.Ok B := fun r h hz => by
  obtain ⟨p0, r1, rfl, g0, k1⟩ := HasL_cons h
  obtain ⟨p1, r2, rfl, g1, k2⟩ := HasL_cons k1
  obtain ⟨p2, r3, rfl, g2, k3⟩ := HasL_cons k2
  obtain ⟨p3, r4, rfl, g3, k4⟩ := HasL_cons k3
  obtain rfl := HasL_nil k4
  have z0 := Nat.le_trans (szL_at (i := 0) rfl) hz
  obtain ⟨c0, rfl⟩ := Has_int g0
  have z1 := Nat.le_trans (szL_at (i := 1) rfl) hz
  obtain ⟨c1, rfl⟩ := Has_int g1
  have z2 := Nat.le_trans (szL_at (i := 2) rfl) hz
  obtain ⟨c2, rfl⟩ := Has_str g2
  rw [sz_str0] at z2
  have z3 := Nat.le_trans (szL_at (i := 3) rfl) hz
  obtain ⟨c3, rfl⟩ := Has_lst g3
  obtain ⟨l3, rfl, y3⟩ := ofL XField.of (Has_rows g3).2 z3
  exact ⟨⟨⟨c0, c1, c2⟩, ⟨l3⟩⟩, rfl, ⟨⟨inI_of g0, inI_of g1, z2⟩, y3⟩⟩
theorem XItem.has {B : Nat} (hB : B ≤ maxLen) {x : XItem} (h : x.Ok B) : HasL t_Item x.e := by
  obtain ⟨⟨h0, h1, h2⟩, h3⟩ := h
  simp only [t_Item, XItem.e, HasL]
  exact ⟨by simp only [Has]; exact ⟨trivial, inI_has h0⟩, by simp only [Has]; exact ⟨trivial, inI_has h1⟩, by simp only [Has]; exact Nat.le_trans h2 hB, has_map (fun _ q => XField.has hB q) hB h3, trivial⟩
structure XStore where
  name : List UInt8
  items : List XItem
  auto : Int
def XStore.e (x : XStore) : List PV := [.str x.name, .lst (x.items.map XItem.e), .int .i64 x.auto]
def XStore.v (x : XStore) : V := .agg [.pv (.str x.name), .pv (.lst (x.items.map XItem.e)), .pv (.int .i64 x.auto)]
theorem XStore_e (x : XStore) : x.e = [.str x.name, .lst (x.items.map XItem.e), .int .i64 x.auto] := rfl
def XStore.Ok (B : Nat) (x : XStore) : Prop := x.name.length ≤ B ∧ (x.items.length ≤ B ∧ ∀ y ∈ x.items, y.Ok B) ∧ inI x.auto
theorem XStore.of {B : Nat} : ∀ r : List PV, HasL t_Store r → szL r ≤ B → ∃ x : XStore, r = x.e ∧ x.Ok B := fun r h hz => by
  obtain ⟨p0, r1, rfl, g0, k1⟩ := HasL_cons h
  obtain ⟨p1, r2, rfl, g1, k2⟩ := HasL_cons k1
  obtain ⟨p2, r3, rfl, g2, k3⟩ := HasL_cons k2
  obtain rfl := HasL_nil k3
  have z0 := Nat.le_trans (szL_at (i := 0) rfl) hz
  obtain ⟨c0, rfl⟩ := Has_str g0
  rw [sz_str0] at z0
  have z1 := Nat.le_trans (szL_at (i := 1) rfl) hz
  obtain ⟨c1, rfl⟩ := Has_lst g1
  obtain ⟨l1, rfl, y1⟩ := ofL XItem.of (Has_rows g1).2 z1
  have z2 := Nat.le_trans (szL_at (i := 2) rfl) hz
  obtain ⟨c2, rfl⟩ := Has_int g2
  exact ⟨⟨c0, l1, c2⟩, rfl, ⟨z0, y1, inI_of g2⟩⟩
theorem XStore.has {B : Nat} (hB : B ≤ maxLen) {x : XStore} (h : x.Ok B) : HasL t_Store x.e := by
  obtain ⟨h0, h1, h2⟩ := h
  simp only [t_Store, XStore.e, HasL]
  exact ⟨by simp only [Has]; exact Nat.le_trans h0 hB, has_map (fun _ q => XItem.has hB q) hB h1, by simp only [Has]; exact ⟨trivial, inI_has h2⟩, trivial⟩
structure XWrite where
  dev : Int
  seq : Int
  key : XKey
  field : List UInt8
  n : Int
def XWrite.e (x : XWrite) : List PV := [.int .i64 x.dev, .int .i64 x.seq, .int .i64 x.key.kind, .int .i64 x.key.n, .str x.key.text, .str x.field, .int .i64 x.n]
def XWrite.v (x : XWrite) : V := .agg [.pv (.int .i64 x.dev), .pv (.int .i64 x.seq), .pv (.int .i64 x.key.kind), .pv (.int .i64 x.key.n), .pv (.str x.key.text), .pv (.str x.field), .pv (.int .i64 x.n)]
theorem XWrite_e (x : XWrite) : x.e = [.int .i64 x.dev, .int .i64 x.seq, .int .i64 x.key.kind, .int .i64 x.key.n, .str x.key.text, .str x.field, .int .i64 x.n] := rfl
def XWrite.Ok (B : Nat) (x : XWrite) : Prop := inI x.dev ∧ inI x.seq ∧ x.key.Ok B ∧ x.field.length ≤ B ∧ inI x.n
theorem XWrite.of {B : Nat} : ∀ r : List PV, HasL t_Write r → szL r ≤ B → ∃ x : XWrite, r = x.e ∧ x.Ok B := fun r h hz => by
  obtain ⟨p0, r1, rfl, g0, k1⟩ := HasL_cons h
  obtain ⟨p1, r2, rfl, g1, k2⟩ := HasL_cons k1
  obtain ⟨p2, r3, rfl, g2, k3⟩ := HasL_cons k2
  obtain ⟨p3, r4, rfl, g3, k4⟩ := HasL_cons k3
  obtain ⟨p4, r5, rfl, g4, k5⟩ := HasL_cons k4
  obtain ⟨p5, r6, rfl, g5, k6⟩ := HasL_cons k5
  obtain ⟨p6, r7, rfl, g6, k7⟩ := HasL_cons k6
  obtain rfl := HasL_nil k7
  have z0 := Nat.le_trans (szL_at (i := 0) rfl) hz
  obtain ⟨c0, rfl⟩ := Has_int g0
  have z1 := Nat.le_trans (szL_at (i := 1) rfl) hz
  obtain ⟨c1, rfl⟩ := Has_int g1
  have z2 := Nat.le_trans (szL_at (i := 2) rfl) hz
  obtain ⟨c2, rfl⟩ := Has_int g2
  have z3 := Nat.le_trans (szL_at (i := 3) rfl) hz
  obtain ⟨c3, rfl⟩ := Has_int g3
  have z4 := Nat.le_trans (szL_at (i := 4) rfl) hz
  obtain ⟨c4, rfl⟩ := Has_str g4
  rw [sz_str0] at z4
  have z5 := Nat.le_trans (szL_at (i := 5) rfl) hz
  obtain ⟨c5, rfl⟩ := Has_str g5
  rw [sz_str0] at z5
  have z6 := Nat.le_trans (szL_at (i := 6) rfl) hz
  obtain ⟨c6, rfl⟩ := Has_int g6
  exact ⟨⟨c0, c1, ⟨c2, c3, c4⟩, c5, c6⟩, rfl, ⟨inI_of g0, inI_of g1, ⟨inI_of g2, inI_of g3, z4⟩, z5, inI_of g6⟩⟩
theorem XWrite.has {B : Nat} (hB : B ≤ maxLen) {x : XWrite} (h : x.Ok B) : HasL t_Write x.e := by
  obtain ⟨h0, h1, ⟨h2, h3, h4⟩, h5, h6⟩ := h
  simp only [t_Write, XWrite.e, HasL]
  exact ⟨by simp only [Has]; exact ⟨trivial, inI_has h0⟩, by simp only [Has]; exact ⟨trivial, inI_has h1⟩, by simp only [Has]; exact ⟨trivial, inI_has h2⟩, by simp only [Has]; exact ⟨trivial, inI_has h3⟩, by simp only [Has]; exact Nat.le_trans h4 hB, by simp only [Has]; exact Nat.le_trans h5 hB, by simp only [Has]; exact ⟨trivial, inI_has h6⟩, trivial⟩
structure XApplied where
  dev : Int
  seq : Int
def XApplied.e (x : XApplied) : List PV := [.int .i64 x.dev, .int .i64 x.seq]
def XApplied.v (x : XApplied) : V := .agg [.pv (.int .i64 x.dev), .pv (.int .i64 x.seq)]
theorem XApplied_e (x : XApplied) : x.e = [.int .i64 x.dev, .int .i64 x.seq] := rfl
def XApplied.Ok (B : Nat) (x : XApplied) : Prop := inI x.dev ∧ inI x.seq
theorem XApplied.of {B : Nat} : ∀ r : List PV, HasL t_Applied r → szL r ≤ B → ∃ x : XApplied, r = x.e ∧ x.Ok B := fun r h hz => by
  obtain ⟨p0, r1, rfl, g0, k1⟩ := HasL_cons h
  obtain ⟨p1, r2, rfl, g1, k2⟩ := HasL_cons k1
  obtain rfl := HasL_nil k2
  have z0 := Nat.le_trans (szL_at (i := 0) rfl) hz
  obtain ⟨c0, rfl⟩ := Has_int g0
  have z1 := Nat.le_trans (szL_at (i := 1) rfl) hz
  obtain ⟨c1, rfl⟩ := Has_int g1
  exact ⟨⟨c0, c1⟩, rfl, ⟨inI_of g0, inI_of g1⟩⟩
theorem XApplied.has {B : Nat} (hB : B ≤ maxLen) {x : XApplied} (h : x.Ok B) : HasL t_Applied x.e := by
  obtain ⟨h0, h1⟩ := h
  simp only [t_Applied, XApplied.e, HasL]
  exact ⟨by simp only [Has]; exact ⟨trivial, inI_has h0⟩, by simp only [Has]; exact ⟨trivial, inI_has h1⟩, trivial⟩
structure XServer where
  store : XStore
  applied : List XApplied
  changes : List XWrite
def XServer.e (x : XServer) : List PV := [.str x.store.name, .lst (x.store.items.map XItem.e), .int .i64 x.store.auto, .lst (x.applied.map XApplied.e), .lst (x.changes.map XWrite.e)]
def XServer.v (x : XServer) : V := .agg [.pv (.str x.store.name), .pv (.lst (x.store.items.map XItem.e)), .pv (.int .i64 x.store.auto), .pv (.lst (x.applied.map XApplied.e)), .pv (.lst (x.changes.map XWrite.e))]
theorem XServer_e (x : XServer) : x.e = [.str x.store.name, .lst (x.store.items.map XItem.e), .int .i64 x.store.auto, .lst (x.applied.map XApplied.e), .lst (x.changes.map XWrite.e)] := rfl
def XServer.Ok (B : Nat) (x : XServer) : Prop := x.store.Ok B ∧ (x.applied.length ≤ B ∧ ∀ y ∈ x.applied, y.Ok B) ∧ (x.changes.length ≤ B ∧ ∀ y ∈ x.changes, y.Ok B)
theorem XServer.of {B : Nat} : ∀ r : List PV, HasL t_Server r → szL r ≤ B → ∃ x : XServer, r = x.e ∧ x.Ok B := fun r h hz => by
  obtain ⟨p0, r1, rfl, g0, k1⟩ := HasL_cons h
  obtain ⟨p1, r2, rfl, g1, k2⟩ := HasL_cons k1
  obtain ⟨p2, r3, rfl, g2, k3⟩ := HasL_cons k2
  obtain ⟨p3, r4, rfl, g3, k4⟩ := HasL_cons k3
  obtain ⟨p4, r5, rfl, g4, k5⟩ := HasL_cons k4
  obtain rfl := HasL_nil k5
  have z0 := Nat.le_trans (szL_at (i := 0) rfl) hz
  obtain ⟨c0, rfl⟩ := Has_str g0
  rw [sz_str0] at z0
  have z1 := Nat.le_trans (szL_at (i := 1) rfl) hz
  obtain ⟨c1, rfl⟩ := Has_lst g1
  obtain ⟨l1, rfl, y1⟩ := ofL XItem.of (Has_rows g1).2 z1
  have z2 := Nat.le_trans (szL_at (i := 2) rfl) hz
  obtain ⟨c2, rfl⟩ := Has_int g2
  have z3 := Nat.le_trans (szL_at (i := 3) rfl) hz
  obtain ⟨c3, rfl⟩ := Has_lst g3
  obtain ⟨l3, rfl, y3⟩ := ofL XApplied.of (Has_rows g3).2 z3
  have z4 := Nat.le_trans (szL_at (i := 4) rfl) hz
  obtain ⟨c4, rfl⟩ := Has_lst g4
  obtain ⟨l4, rfl, y4⟩ := ofL XWrite.of (Has_rows g4).2 z4
  exact ⟨⟨⟨c0, l1, c2⟩, l3, l4⟩, rfl, ⟨⟨z0, y1, inI_of g2⟩, y3, y4⟩⟩
theorem XServer.has {B : Nat} (hB : B ≤ maxLen) {x : XServer} (h : x.Ok B) : HasL t_Server x.e := by
  obtain ⟨⟨h0, h1, h2⟩, h3, h4⟩ := h
  simp only [t_Server, XServer.e, HasL]
  exact ⟨by simp only [Has]; exact Nat.le_trans h0 hB, has_map (fun _ q => XItem.has hB q) hB h1, by simp only [Has]; exact ⟨trivial, inI_has h2⟩, has_map (fun _ q => XApplied.has hB q) hB h3, has_map (fun _ q => XWrite.has hB q) hB h4, trivial⟩
structure XOutbox where
  dev : Int
  next : Int
  writes : List XWrite
def XOutbox.e (x : XOutbox) : List PV := [.int .i64 x.dev, .int .i64 x.next, .lst (x.writes.map XWrite.e)]
def XOutbox.v (x : XOutbox) : V := .agg [.pv (.int .i64 x.dev), .pv (.int .i64 x.next), .pv (.lst (x.writes.map XWrite.e))]
theorem XOutbox_e (x : XOutbox) : x.e = [.int .i64 x.dev, .int .i64 x.next, .lst (x.writes.map XWrite.e)] := rfl
def XOutbox.Ok (B : Nat) (x : XOutbox) : Prop := inI x.dev ∧ inI x.next ∧ (x.writes.length ≤ B ∧ ∀ y ∈ x.writes, y.Ok B)
theorem XOutbox.of {B : Nat} : ∀ r : List PV, HasL t_Outbox r → szL r ≤ B → ∃ x : XOutbox, r = x.e ∧ x.Ok B := fun r h hz => by
  obtain ⟨p0, r1, rfl, g0, k1⟩ := HasL_cons h
  obtain ⟨p1, r2, rfl, g1, k2⟩ := HasL_cons k1
  obtain ⟨p2, r3, rfl, g2, k3⟩ := HasL_cons k2
  obtain rfl := HasL_nil k3
  have z0 := Nat.le_trans (szL_at (i := 0) rfl) hz
  obtain ⟨c0, rfl⟩ := Has_int g0
  have z1 := Nat.le_trans (szL_at (i := 1) rfl) hz
  obtain ⟨c1, rfl⟩ := Has_int g1
  have z2 := Nat.le_trans (szL_at (i := 2) rfl) hz
  obtain ⟨c2, rfl⟩ := Has_lst g2
  obtain ⟨l2, rfl, y2⟩ := ofL XWrite.of (Has_rows g2).2 z2
  exact ⟨⟨c0, c1, l2⟩, rfl, ⟨inI_of g0, inI_of g1, y2⟩⟩
theorem XOutbox.has {B : Nat} (hB : B ≤ maxLen) {x : XOutbox} (h : x.Ok B) : HasL t_Outbox x.e := by
  obtain ⟨h0, h1, h2⟩ := h
  simp only [t_Outbox, XOutbox.e, HasL]
  exact ⟨by simp only [Has]; exact ⟨trivial, inI_has h0⟩, by simp only [Has]; exact ⟨trivial, inI_has h1⟩, has_map (fun _ q => XWrite.has hB q) hB h2, trivial⟩
structure XSync where
  outbox : XOutbox
  tries : Int
  wait : Int
def XSync.e (x : XSync) : List PV := [.int .i64 x.outbox.dev, .int .i64 x.outbox.next, .lst (x.outbox.writes.map XWrite.e), .int .i64 x.tries, .int .i64 x.wait]
def XSync.v (x : XSync) : V := .agg [.pv (.int .i64 x.outbox.dev), .pv (.int .i64 x.outbox.next), .pv (.lst (x.outbox.writes.map XWrite.e)), .pv (.int .i64 x.tries), .pv (.int .i64 x.wait)]
theorem XSync_e (x : XSync) : x.e = [.int .i64 x.outbox.dev, .int .i64 x.outbox.next, .lst (x.outbox.writes.map XWrite.e), .int .i64 x.tries, .int .i64 x.wait] := rfl
def XSync.Ok (B : Nat) (x : XSync) : Prop := x.outbox.Ok B ∧ inI x.tries ∧ inI x.wait
theorem XSync.of {B : Nat} : ∀ r : List PV, HasL t_Sync r → szL r ≤ B → ∃ x : XSync, r = x.e ∧ x.Ok B := fun r h hz => by
  obtain ⟨p0, r1, rfl, g0, k1⟩ := HasL_cons h
  obtain ⟨p1, r2, rfl, g1, k2⟩ := HasL_cons k1
  obtain ⟨p2, r3, rfl, g2, k3⟩ := HasL_cons k2
  obtain ⟨p3, r4, rfl, g3, k4⟩ := HasL_cons k3
  obtain ⟨p4, r5, rfl, g4, k5⟩ := HasL_cons k4
  obtain rfl := HasL_nil k5
  have z0 := Nat.le_trans (szL_at (i := 0) rfl) hz
  obtain ⟨c0, rfl⟩ := Has_int g0
  have z1 := Nat.le_trans (szL_at (i := 1) rfl) hz
  obtain ⟨c1, rfl⟩ := Has_int g1
  have z2 := Nat.le_trans (szL_at (i := 2) rfl) hz
  obtain ⟨c2, rfl⟩ := Has_lst g2
  obtain ⟨l2, rfl, y2⟩ := ofL XWrite.of (Has_rows g2).2 z2
  have z3 := Nat.le_trans (szL_at (i := 3) rfl) hz
  obtain ⟨c3, rfl⟩ := Has_int g3
  have z4 := Nat.le_trans (szL_at (i := 4) rfl) hz
  obtain ⟨c4, rfl⟩ := Has_int g4
  exact ⟨⟨⟨c0, c1, l2⟩, c3, c4⟩, rfl, ⟨⟨inI_of g0, inI_of g1, y2⟩, inI_of g3, inI_of g4⟩⟩
theorem XSync.has {B : Nat} (hB : B ≤ maxLen) {x : XSync} (h : x.Ok B) : HasL t_Sync x.e := by
  obtain ⟨⟨h0, h1, h2⟩, h3, h4⟩ := h
  simp only [t_Sync, XSync.e, HasL]
  exact ⟨by simp only [Has]; exact ⟨trivial, inI_has h0⟩, by simp only [Has]; exact ⟨trivial, inI_has h1⟩, has_map (fun _ q => XWrite.has hB q) hB h2, by simp only [Has]; exact ⟨trivial, inI_has h3⟩, by simp only [Has]; exact ⟨trivial, inI_has h4⟩, trivial⟩
structure XReplica where
  base : XStore
  seen : Int
  sync : XSync
def XReplica.e (x : XReplica) : List PV := [.str x.base.name, .lst (x.base.items.map XItem.e), .int .i64 x.base.auto, .int .i64 x.seen, .int .i64 x.sync.outbox.dev, .int .i64 x.sync.outbox.next, .lst (x.sync.outbox.writes.map XWrite.e), .int .i64 x.sync.tries, .int .i64 x.sync.wait]
def XReplica.v (x : XReplica) : V := .agg [.pv (.str x.base.name), .pv (.lst (x.base.items.map XItem.e)), .pv (.int .i64 x.base.auto), .pv (.int .i64 x.seen), .pv (.int .i64 x.sync.outbox.dev), .pv (.int .i64 x.sync.outbox.next), .pv (.lst (x.sync.outbox.writes.map XWrite.e)), .pv (.int .i64 x.sync.tries), .pv (.int .i64 x.sync.wait)]
theorem XReplica_e (x : XReplica) : x.e = [.str x.base.name, .lst (x.base.items.map XItem.e), .int .i64 x.base.auto, .int .i64 x.seen, .int .i64 x.sync.outbox.dev, .int .i64 x.sync.outbox.next, .lst (x.sync.outbox.writes.map XWrite.e), .int .i64 x.sync.tries, .int .i64 x.sync.wait] := rfl
def XReplica.Ok (B : Nat) (x : XReplica) : Prop := x.base.Ok B ∧ inI x.seen ∧ x.sync.Ok B
theorem XReplica.of {B : Nat} : ∀ r : List PV, HasL t_Replica r → szL r ≤ B → ∃ x : XReplica, r = x.e ∧ x.Ok B := fun r h hz => by
  obtain ⟨p0, r1, rfl, g0, k1⟩ := HasL_cons h
  obtain ⟨p1, r2, rfl, g1, k2⟩ := HasL_cons k1
  obtain ⟨p2, r3, rfl, g2, k3⟩ := HasL_cons k2
  obtain ⟨p3, r4, rfl, g3, k4⟩ := HasL_cons k3
  obtain ⟨p4, r5, rfl, g4, k5⟩ := HasL_cons k4
  obtain ⟨p5, r6, rfl, g5, k6⟩ := HasL_cons k5
  obtain ⟨p6, r7, rfl, g6, k7⟩ := HasL_cons k6
  obtain ⟨p7, r8, rfl, g7, k8⟩ := HasL_cons k7
  obtain ⟨p8, r9, rfl, g8, k9⟩ := HasL_cons k8
  obtain rfl := HasL_nil k9
  have z0 := Nat.le_trans (szL_at (i := 0) rfl) hz
  obtain ⟨c0, rfl⟩ := Has_str g0
  rw [sz_str0] at z0
  have z1 := Nat.le_trans (szL_at (i := 1) rfl) hz
  obtain ⟨c1, rfl⟩ := Has_lst g1
  obtain ⟨l1, rfl, y1⟩ := ofL XItem.of (Has_rows g1).2 z1
  have z2 := Nat.le_trans (szL_at (i := 2) rfl) hz
  obtain ⟨c2, rfl⟩ := Has_int g2
  have z3 := Nat.le_trans (szL_at (i := 3) rfl) hz
  obtain ⟨c3, rfl⟩ := Has_int g3
  have z4 := Nat.le_trans (szL_at (i := 4) rfl) hz
  obtain ⟨c4, rfl⟩ := Has_int g4
  have z5 := Nat.le_trans (szL_at (i := 5) rfl) hz
  obtain ⟨c5, rfl⟩ := Has_int g5
  have z6 := Nat.le_trans (szL_at (i := 6) rfl) hz
  obtain ⟨c6, rfl⟩ := Has_lst g6
  obtain ⟨l6, rfl, y6⟩ := ofL XWrite.of (Has_rows g6).2 z6
  have z7 := Nat.le_trans (szL_at (i := 7) rfl) hz
  obtain ⟨c7, rfl⟩ := Has_int g7
  have z8 := Nat.le_trans (szL_at (i := 8) rfl) hz
  obtain ⟨c8, rfl⟩ := Has_int g8
  exact ⟨⟨⟨c0, l1, c2⟩, c3, ⟨⟨c4, c5, l6⟩, c7, c8⟩⟩, rfl, ⟨⟨z0, y1, inI_of g2⟩, inI_of g3, ⟨⟨inI_of g4, inI_of g5, y6⟩, inI_of g7, inI_of g8⟩⟩⟩
theorem XReplica.has {B : Nat} (hB : B ≤ maxLen) {x : XReplica} (h : x.Ok B) : HasL t_Replica x.e := by
  obtain ⟨⟨h0, h1, h2⟩, h3, ⟨⟨h4, h5, h6⟩, h7, h8⟩⟩ := h
  simp only [t_Replica, XReplica.e, HasL]
  exact ⟨by simp only [Has]; exact Nat.le_trans h0 hB, has_map (fun _ q => XItem.has hB q) hB h1, by simp only [Has]; exact ⟨trivial, inI_has h2⟩, by simp only [Has]; exact ⟨trivial, inI_has h3⟩, by simp only [Has]; exact ⟨trivial, inI_has h4⟩, by simp only [Has]; exact ⟨trivial, inI_has h5⟩, has_map (fun _ q => XWrite.has hB q) hB h6, by simp only [Has]; exact ⟨trivial, inI_has h7⟩, by simp only [Has]; exact ⟨trivial, inI_has h8⟩, trivial⟩
structure XResponse where
  type : Int
  status : Int
  version : Int
  body : List UInt8
  shares : Bool
def XResponse.e (x : XResponse) : List PV := [.int .i64 x.type, .int .i64 x.status, .int .i64 x.version, .lst (ofBytes x.body), .bool x.shares]
def XResponse.v (x : XResponse) : V := .agg [.pv (.int .i64 x.type), .pv (.int .i64 x.status), .pv (.int .i64 x.version), .pv (.lst (ofBytes x.body)), .pv (.bool x.shares)]
theorem XResponse_e (x : XResponse) : x.e = [.int .i64 x.type, .int .i64 x.status, .int .i64 x.version, .lst (ofBytes x.body), .bool x.shares] := rfl
def XResponse.Ok (B : Nat) (x : XResponse) : Prop := inI x.type ∧ inI x.status ∧ inI x.version ∧ x.body.length ≤ B
theorem XResponse.of {B : Nat} : ∀ r : List PV, HasL t_Response r → szL r ≤ B → ∃ x : XResponse, r = x.e ∧ x.Ok B := fun r h hz => by
  obtain ⟨p0, r1, rfl, g0, k1⟩ := HasL_cons h
  obtain ⟨p1, r2, rfl, g1, k2⟩ := HasL_cons k1
  obtain ⟨p2, r3, rfl, g2, k3⟩ := HasL_cons k2
  obtain ⟨p3, r4, rfl, g3, k4⟩ := HasL_cons k3
  obtain ⟨p4, r5, rfl, g4, k5⟩ := HasL_cons k4
  obtain rfl := HasL_nil k5
  have z0 := Nat.le_trans (szL_at (i := 0) rfl) hz
  obtain ⟨c0, rfl⟩ := Has_int g0
  have z1 := Nat.le_trans (szL_at (i := 1) rfl) hz
  obtain ⟨c1, rfl⟩ := Has_int g1
  have z2 := Nat.le_trans (szL_at (i := 2) rfl) hz
  obtain ⟨c2, rfl⟩ := Has_int g2
  have z3 := Nat.le_trans (szL_at (i := 3) rfl) hz
  obtain ⟨c3, rfl⟩ := Has_lst g3
  obtain ⟨b3, rfl⟩ := b1x_of (Has_rows g3).2
  rw [sz_lst, b1x_len] at z3
  have y3 : b3.length ≤ B := by omega
  have z4 := Nat.le_trans (szL_at (i := 4) rfl) hz
  obtain ⟨c4, rfl⟩ := Has_bool g4
  exact ⟨⟨c0, c1, c2, b3, c4⟩, rfl, ⟨inI_of g0, inI_of g1, inI_of g2, y3⟩⟩
theorem XResponse.has {B : Nat} (hB : B ≤ maxLen) {x : XResponse} (h : x.Ok B) : HasL t_Response x.e := by
  obtain ⟨h0, h1, h2, h3⟩ := h
  simp only [t_Response, XResponse.e, HasL]
  exact ⟨by simp only [Has]; exact ⟨trivial, inI_has h0⟩, by simp only [Has]; exact ⟨trivial, inI_has h1⟩, by simp only [Has]; exact ⟨trivial, inI_has h2⟩, b1x_has hB h3, by simp only [Has], trivial⟩
structure XCached where
  site : List UInt8
  path : List UInt8
  resp : XResponse
def XCached.e (x : XCached) : List PV := [.str x.site, .str x.path, .int .i64 x.resp.type, .int .i64 x.resp.status, .int .i64 x.resp.version, .lst (ofBytes x.resp.body), .bool x.resp.shares]
def XCached.v (x : XCached) : V := .agg [.pv (.str x.site), .pv (.str x.path), .pv (.int .i64 x.resp.type), .pv (.int .i64 x.resp.status), .pv (.int .i64 x.resp.version), .pv (.lst (ofBytes x.resp.body)), .pv (.bool x.resp.shares)]
theorem XCached_e (x : XCached) : x.e = [.str x.site, .str x.path, .int .i64 x.resp.type, .int .i64 x.resp.status, .int .i64 x.resp.version, .lst (ofBytes x.resp.body), .bool x.resp.shares] := rfl
def XCached.Ok (B : Nat) (x : XCached) : Prop := x.site.length ≤ B ∧ x.path.length ≤ B ∧ x.resp.Ok B
theorem XCached.of {B : Nat} : ∀ r : List PV, HasL t_Cached r → szL r ≤ B → ∃ x : XCached, r = x.e ∧ x.Ok B := fun r h hz => by
  obtain ⟨p0, r1, rfl, g0, k1⟩ := HasL_cons h
  obtain ⟨p1, r2, rfl, g1, k2⟩ := HasL_cons k1
  obtain ⟨p2, r3, rfl, g2, k3⟩ := HasL_cons k2
  obtain ⟨p3, r4, rfl, g3, k4⟩ := HasL_cons k3
  obtain ⟨p4, r5, rfl, g4, k5⟩ := HasL_cons k4
  obtain ⟨p5, r6, rfl, g5, k6⟩ := HasL_cons k5
  obtain ⟨p6, r7, rfl, g6, k7⟩ := HasL_cons k6
  obtain rfl := HasL_nil k7
  have z0 := Nat.le_trans (szL_at (i := 0) rfl) hz
  obtain ⟨c0, rfl⟩ := Has_str g0
  rw [sz_str0] at z0
  have z1 := Nat.le_trans (szL_at (i := 1) rfl) hz
  obtain ⟨c1, rfl⟩ := Has_str g1
  rw [sz_str0] at z1
  have z2 := Nat.le_trans (szL_at (i := 2) rfl) hz
  obtain ⟨c2, rfl⟩ := Has_int g2
  have z3 := Nat.le_trans (szL_at (i := 3) rfl) hz
  obtain ⟨c3, rfl⟩ := Has_int g3
  have z4 := Nat.le_trans (szL_at (i := 4) rfl) hz
  obtain ⟨c4, rfl⟩ := Has_int g4
  have z5 := Nat.le_trans (szL_at (i := 5) rfl) hz
  obtain ⟨c5, rfl⟩ := Has_lst g5
  obtain ⟨b5, rfl⟩ := b1x_of (Has_rows g5).2
  rw [sz_lst, b1x_len] at z5
  have y5 : b5.length ≤ B := by omega
  have z6 := Nat.le_trans (szL_at (i := 6) rfl) hz
  obtain ⟨c6, rfl⟩ := Has_bool g6
  exact ⟨⟨c0, c1, ⟨c2, c3, c4, b5, c6⟩⟩, rfl, ⟨z0, z1, ⟨inI_of g2, inI_of g3, inI_of g4, y5⟩⟩⟩
theorem XCached.has {B : Nat} (hB : B ≤ maxLen) {x : XCached} (h : x.Ok B) : HasL t_Cached x.e := by
  obtain ⟨h0, h1, ⟨h2, h3, h4, h5⟩⟩ := h
  simp only [t_Cached, XCached.e, HasL]
  exact ⟨by simp only [Has]; exact Nat.le_trans h0 hB, by simp only [Has]; exact Nat.le_trans h1 hB, by simp only [Has]; exact ⟨trivial, inI_has h2⟩, by simp only [Has]; exact ⟨trivial, inI_has h3⟩, by simp only [Has]; exact ⟨trivial, inI_has h4⟩, b1x_has hB h5, by simp only [Has], trivial⟩
structure XCache where
  version : Int
  entries : List XCached
def XCache.e (x : XCache) : List PV := [.int .i64 x.version, .lst (x.entries.map XCached.e)]
def XCache.v (x : XCache) : V := .agg [.pv (.int .i64 x.version), .pv (.lst (x.entries.map XCached.e))]
theorem XCache_e (x : XCache) : x.e = [.int .i64 x.version, .lst (x.entries.map XCached.e)] := rfl
def XCache.Ok (B : Nat) (x : XCache) : Prop := inI x.version ∧ (x.entries.length ≤ B ∧ ∀ y ∈ x.entries, y.Ok B)
theorem XCache.of {B : Nat} : ∀ r : List PV, HasL t_Cache r → szL r ≤ B → ∃ x : XCache, r = x.e ∧ x.Ok B := fun r h hz => by
  obtain ⟨p0, r1, rfl, g0, k1⟩ := HasL_cons h
  obtain ⟨p1, r2, rfl, g1, k2⟩ := HasL_cons k1
  obtain rfl := HasL_nil k2
  have z0 := Nat.le_trans (szL_at (i := 0) rfl) hz
  obtain ⟨c0, rfl⟩ := Has_int g0
  have z1 := Nat.le_trans (szL_at (i := 1) rfl) hz
  obtain ⟨c1, rfl⟩ := Has_lst g1
  obtain ⟨l1, rfl, y1⟩ := ofL XCached.of (Has_rows g1).2 z1
  exact ⟨⟨c0, l1⟩, rfl, ⟨inI_of g0, y1⟩⟩
theorem XCache.has {B : Nat} (hB : B ≤ maxLen) {x : XCache} (h : x.Ok B) : HasL t_Cache x.e := by
  obtain ⟨h0, h1⟩ := h
  simp only [t_Cache, XCache.e, HasL]
  exact ⟨by simp only [Has]; exact ⟨trivial, inI_has h0⟩, has_map (fun _ q => XCached.has hB q) hB h1, trivial⟩
structure XCacheSet where
  caches : List XCache
def XCacheSet.e (x : XCacheSet) : List PV := [.lst (x.caches.map XCache.e)]
def XCacheSet.v (x : XCacheSet) : V := .agg [.pv (.lst (x.caches.map XCache.e))]
theorem XCacheSet_e (x : XCacheSet) : x.e = [.lst (x.caches.map XCache.e)] := rfl
def XCacheSet.Ok (B : Nat) (x : XCacheSet) : Prop := (x.caches.length ≤ B ∧ ∀ y ∈ x.caches, y.Ok B)
theorem XCacheSet.of {B : Nat} : ∀ r : List PV, HasL t_CacheSet r → szL r ≤ B → ∃ x : XCacheSet, r = x.e ∧ x.Ok B := fun r h hz => by
  obtain ⟨p0, r1, rfl, g0, k1⟩ := HasL_cons h
  obtain rfl := HasL_nil k1
  have z0 := Nat.le_trans (szL_at (i := 0) rfl) hz
  obtain ⟨c0, rfl⟩ := Has_lst g0
  obtain ⟨l0, rfl, y0⟩ := ofL XCache.of (Has_rows g0).2 z0
  exact ⟨⟨l0⟩, rfl, y0⟩
theorem XCacheSet.has {B : Nat} (hB : B ≤ maxLen) {x : XCacheSet} (h : x.Ok B) : HasL t_CacheSet x.e := by
  have h0 := h
  simp only [t_CacheSet, XCacheSet.e, HasL]
  exact ⟨has_map (fun _ q => XCache.has hB q) hB h0, trivial⟩
structure XRegistration where
  site : List UInt8
  installing : Int
  waiting : Int
  active : Int
def XRegistration.e (x : XRegistration) : List PV := [.str x.site, .int .i64 x.installing, .int .i64 x.waiting, .int .i64 x.active]
def XRegistration.v (x : XRegistration) : V := .agg [.pv (.str x.site), .pv (.int .i64 x.installing), .pv (.int .i64 x.waiting), .pv (.int .i64 x.active)]
theorem XRegistration_e (x : XRegistration) : x.e = [.str x.site, .int .i64 x.installing, .int .i64 x.waiting, .int .i64 x.active] := rfl
def XRegistration.Ok (B : Nat) (x : XRegistration) : Prop := x.site.length ≤ B ∧ inI x.installing ∧ inI x.waiting ∧ inI x.active
theorem XRegistration.of {B : Nat} : ∀ r : List PV, HasL t_Registration r → szL r ≤ B → ∃ x : XRegistration, r = x.e ∧ x.Ok B := fun r h hz => by
  obtain ⟨p0, r1, rfl, g0, k1⟩ := HasL_cons h
  obtain ⟨p1, r2, rfl, g1, k2⟩ := HasL_cons k1
  obtain ⟨p2, r3, rfl, g2, k3⟩ := HasL_cons k2
  obtain ⟨p3, r4, rfl, g3, k4⟩ := HasL_cons k3
  obtain rfl := HasL_nil k4
  have z0 := Nat.le_trans (szL_at (i := 0) rfl) hz
  obtain ⟨c0, rfl⟩ := Has_str g0
  rw [sz_str0] at z0
  have z1 := Nat.le_trans (szL_at (i := 1) rfl) hz
  obtain ⟨c1, rfl⟩ := Has_int g1
  have z2 := Nat.le_trans (szL_at (i := 2) rfl) hz
  obtain ⟨c2, rfl⟩ := Has_int g2
  have z3 := Nat.le_trans (szL_at (i := 3) rfl) hz
  obtain ⟨c3, rfl⟩ := Has_int g3
  exact ⟨⟨c0, c1, c2, c3⟩, rfl, ⟨z0, inI_of g1, inI_of g2, inI_of g3⟩⟩
theorem XRegistration.has {B : Nat} (hB : B ≤ maxLen) {x : XRegistration} (h : x.Ok B) : HasL t_Registration x.e := by
  obtain ⟨h0, h1, h2, h3⟩ := h
  simp only [t_Registration, XRegistration.e, HasL]
  exact ⟨by simp only [Has]; exact Nat.le_trans h0 hB, by simp only [Has]; exact ⟨trivial, inI_has h1⟩, by simp only [Has]; exact ⟨trivial, inI_has h2⟩, by simp only [Has]; exact ⟨trivial, inI_has h3⟩, trivial⟩
structure XIndexDef where
  store : List UInt8
  field : List UInt8
def XIndexDef.e (x : XIndexDef) : List PV := [.str x.store, .str x.field]
def XIndexDef.v (x : XIndexDef) : V := .agg [.pv (.str x.store), .pv (.str x.field)]
theorem XIndexDef_e (x : XIndexDef) : x.e = [.str x.store, .str x.field] := rfl
def XIndexDef.Ok (B : Nat) (x : XIndexDef) : Prop := x.store.length ≤ B ∧ x.field.length ≤ B
theorem XIndexDef.of {B : Nat} : ∀ r : List PV, HasL t_IndexDef r → szL r ≤ B → ∃ x : XIndexDef, r = x.e ∧ x.Ok B := fun r h hz => by
  obtain ⟨p0, r1, rfl, g0, k1⟩ := HasL_cons h
  obtain ⟨p1, r2, rfl, g1, k2⟩ := HasL_cons k1
  obtain rfl := HasL_nil k2
  have z0 := Nat.le_trans (szL_at (i := 0) rfl) hz
  obtain ⟨c0, rfl⟩ := Has_str g0
  rw [sz_str0] at z0
  have z1 := Nat.le_trans (szL_at (i := 1) rfl) hz
  obtain ⟨c1, rfl⟩ := Has_str g1
  rw [sz_str0] at z1
  exact ⟨⟨c0, c1⟩, rfl, ⟨z0, z1⟩⟩
theorem XIndexDef.has {B : Nat} (hB : B ≤ maxLen) {x : XIndexDef} (h : x.Ok B) : HasL t_IndexDef x.e := by
  obtain ⟨h0, h1⟩ := h
  simp only [t_IndexDef, XIndexDef.e, HasL]
  exact ⟨by simp only [Has]; exact Nat.le_trans h0 hB, by simp only [Has]; exact Nat.le_trans h1 hB, trivial⟩
structure XDatabase where
  name : List UInt8
  version : Int
  stores : List XStore
  unique : List XIndexDef
def XDatabase.e (x : XDatabase) : List PV := [.str x.name, .int .i64 x.version, .lst (x.stores.map XStore.e), .lst (x.unique.map XIndexDef.e)]
def XDatabase.v (x : XDatabase) : V := .agg [.pv (.str x.name), .pv (.int .i64 x.version), .pv (.lst (x.stores.map XStore.e)), .pv (.lst (x.unique.map XIndexDef.e))]
theorem XDatabase_e (x : XDatabase) : x.e = [.str x.name, .int .i64 x.version, .lst (x.stores.map XStore.e), .lst (x.unique.map XIndexDef.e)] := rfl
def XDatabase.Ok (B : Nat) (x : XDatabase) : Prop := x.name.length ≤ B ∧ inI x.version ∧ (x.stores.length ≤ B ∧ ∀ y ∈ x.stores, y.Ok B) ∧ (x.unique.length ≤ B ∧ ∀ y ∈ x.unique, y.Ok B)
theorem XDatabase.of {B : Nat} : ∀ r : List PV, HasL t_Database r → szL r ≤ B → ∃ x : XDatabase, r = x.e ∧ x.Ok B := fun r h hz => by
  obtain ⟨p0, r1, rfl, g0, k1⟩ := HasL_cons h
  obtain ⟨p1, r2, rfl, g1, k2⟩ := HasL_cons k1
  obtain ⟨p2, r3, rfl, g2, k3⟩ := HasL_cons k2
  obtain ⟨p3, r4, rfl, g3, k4⟩ := HasL_cons k3
  obtain rfl := HasL_nil k4
  have z0 := Nat.le_trans (szL_at (i := 0) rfl) hz
  obtain ⟨c0, rfl⟩ := Has_str g0
  rw [sz_str0] at z0
  have z1 := Nat.le_trans (szL_at (i := 1) rfl) hz
  obtain ⟨c1, rfl⟩ := Has_int g1
  have z2 := Nat.le_trans (szL_at (i := 2) rfl) hz
  obtain ⟨c2, rfl⟩ := Has_lst g2
  obtain ⟨l2, rfl, y2⟩ := ofL XStore.of (Has_rows g2).2 z2
  have z3 := Nat.le_trans (szL_at (i := 3) rfl) hz
  obtain ⟨c3, rfl⟩ := Has_lst g3
  obtain ⟨l3, rfl, y3⟩ := ofL XIndexDef.of (Has_rows g3).2 z3
  exact ⟨⟨c0, c1, l2, l3⟩, rfl, ⟨z0, inI_of g1, y2, y3⟩⟩
theorem XDatabase.has {B : Nat} (hB : B ≤ maxLen) {x : XDatabase} (h : x.Ok B) : HasL t_Database x.e := by
  obtain ⟨h0, h1, h2, h3⟩ := h
  simp only [t_Database, XDatabase.e, HasL]
  exact ⟨by simp only [Has]; exact Nat.le_trans h0 hB, by simp only [Has]; exact ⟨trivial, inI_has h1⟩, has_map (fun _ q => XStore.has hB q) hB h2, has_map (fun _ q => XIndexDef.has hB q) hB h3, trivial⟩
structure XDisk where
  base : XDatabase
  log : List UInt8
  count : Int
def XDisk.e (x : XDisk) : List PV := [.str x.base.name, .int .i64 x.base.version, .lst (x.base.stores.map XStore.e), .lst (x.base.unique.map XIndexDef.e), .lst (ofBytes x.log), .int .i64 x.count]
def XDisk.v (x : XDisk) : V := .agg [.pv (.str x.base.name), .pv (.int .i64 x.base.version), .pv (.lst (x.base.stores.map XStore.e)), .pv (.lst (x.base.unique.map XIndexDef.e)), .pv (.lst (ofBytes x.log)), .pv (.int .i64 x.count)]
theorem XDisk_e (x : XDisk) : x.e = [.str x.base.name, .int .i64 x.base.version, .lst (x.base.stores.map XStore.e), .lst (x.base.unique.map XIndexDef.e), .lst (ofBytes x.log), .int .i64 x.count] := rfl
def XDisk.Ok (B : Nat) (x : XDisk) : Prop := x.base.Ok B ∧ x.log.length ≤ B ∧ inI x.count
theorem XDisk.of {B : Nat} : ∀ r : List PV, HasL t_Disk r → szL r ≤ B → ∃ x : XDisk, r = x.e ∧ x.Ok B := fun r h hz => by
  obtain ⟨p0, r1, rfl, g0, k1⟩ := HasL_cons h
  obtain ⟨p1, r2, rfl, g1, k2⟩ := HasL_cons k1
  obtain ⟨p2, r3, rfl, g2, k3⟩ := HasL_cons k2
  obtain ⟨p3, r4, rfl, g3, k4⟩ := HasL_cons k3
  obtain ⟨p4, r5, rfl, g4, k5⟩ := HasL_cons k4
  obtain ⟨p5, r6, rfl, g5, k6⟩ := HasL_cons k5
  obtain rfl := HasL_nil k6
  have z0 := Nat.le_trans (szL_at (i := 0) rfl) hz
  obtain ⟨c0, rfl⟩ := Has_str g0
  rw [sz_str0] at z0
  have z1 := Nat.le_trans (szL_at (i := 1) rfl) hz
  obtain ⟨c1, rfl⟩ := Has_int g1
  have z2 := Nat.le_trans (szL_at (i := 2) rfl) hz
  obtain ⟨c2, rfl⟩ := Has_lst g2
  obtain ⟨l2, rfl, y2⟩ := ofL XStore.of (Has_rows g2).2 z2
  have z3 := Nat.le_trans (szL_at (i := 3) rfl) hz
  obtain ⟨c3, rfl⟩ := Has_lst g3
  obtain ⟨l3, rfl, y3⟩ := ofL XIndexDef.of (Has_rows g3).2 z3
  have z4 := Nat.le_trans (szL_at (i := 4) rfl) hz
  obtain ⟨c4, rfl⟩ := Has_lst g4
  obtain ⟨b4, rfl⟩ := b1x_of (Has_rows g4).2
  rw [sz_lst, b1x_len] at z4
  have y4 : b4.length ≤ B := by omega
  have z5 := Nat.le_trans (szL_at (i := 5) rfl) hz
  obtain ⟨c5, rfl⟩ := Has_int g5
  exact ⟨⟨⟨c0, c1, l2, l3⟩, b4, c5⟩, rfl, ⟨⟨z0, inI_of g1, y2, y3⟩, y4, inI_of g5⟩⟩
theorem XDisk.has {B : Nat} (hB : B ≤ maxLen) {x : XDisk} (h : x.Ok B) : HasL t_Disk x.e := by
  obtain ⟨⟨h0, h1, h2, h3⟩, h4, h5⟩ := h
  simp only [t_Disk, XDisk.e, HasL]
  exact ⟨by simp only [Has]; exact Nat.le_trans h0 hB, by simp only [Has]; exact ⟨trivial, inI_has h1⟩, has_map (fun _ q => XStore.has hB q) hB h2, has_map (fun _ q => XIndexDef.has hB q) hB h3, b1x_has hB h4, by simp only [Has]; exact ⟨trivial, inI_has h5⟩, trivial⟩
structure XBucket where
  site : List UInt8
  top : List UInt8
  reg : XRegistration
  caches : XCacheSet
  disk : XDisk
  replica : XReplica
  lastUsed : Int
  persistent : Bool
def XBucket.e (x : XBucket) : List PV := [.str x.site, .str x.top, .str x.reg.site, .int .i64 x.reg.installing, .int .i64 x.reg.waiting, .int .i64 x.reg.active, .lst (x.caches.caches.map XCache.e), .str x.disk.base.name, .int .i64 x.disk.base.version, .lst (x.disk.base.stores.map XStore.e), .lst (x.disk.base.unique.map XIndexDef.e), .lst (ofBytes x.disk.log), .int .i64 x.disk.count, .str x.replica.base.name, .lst (x.replica.base.items.map XItem.e), .int .i64 x.replica.base.auto, .int .i64 x.replica.seen, .int .i64 x.replica.sync.outbox.dev, .int .i64 x.replica.sync.outbox.next, .lst (x.replica.sync.outbox.writes.map XWrite.e), .int .i64 x.replica.sync.tries, .int .i64 x.replica.sync.wait, .int .i64 x.lastUsed, .bool x.persistent]
def XBucket.v (x : XBucket) : V := .agg [.pv (.str x.site), .pv (.str x.top), .pv (.str x.reg.site), .pv (.int .i64 x.reg.installing), .pv (.int .i64 x.reg.waiting), .pv (.int .i64 x.reg.active), .pv (.lst (x.caches.caches.map XCache.e)), .pv (.str x.disk.base.name), .pv (.int .i64 x.disk.base.version), .pv (.lst (x.disk.base.stores.map XStore.e)), .pv (.lst (x.disk.base.unique.map XIndexDef.e)), .pv (.lst (ofBytes x.disk.log)), .pv (.int .i64 x.disk.count), .pv (.str x.replica.base.name), .pv (.lst (x.replica.base.items.map XItem.e)), .pv (.int .i64 x.replica.base.auto), .pv (.int .i64 x.replica.seen), .pv (.int .i64 x.replica.sync.outbox.dev), .pv (.int .i64 x.replica.sync.outbox.next), .pv (.lst (x.replica.sync.outbox.writes.map XWrite.e)), .pv (.int .i64 x.replica.sync.tries), .pv (.int .i64 x.replica.sync.wait), .pv (.int .i64 x.lastUsed), .pv (.bool x.persistent)]
theorem XBucket_e (x : XBucket) : x.e = [.str x.site, .str x.top, .str x.reg.site, .int .i64 x.reg.installing, .int .i64 x.reg.waiting, .int .i64 x.reg.active, .lst (x.caches.caches.map XCache.e), .str x.disk.base.name, .int .i64 x.disk.base.version, .lst (x.disk.base.stores.map XStore.e), .lst (x.disk.base.unique.map XIndexDef.e), .lst (ofBytes x.disk.log), .int .i64 x.disk.count, .str x.replica.base.name, .lst (x.replica.base.items.map XItem.e), .int .i64 x.replica.base.auto, .int .i64 x.replica.seen, .int .i64 x.replica.sync.outbox.dev, .int .i64 x.replica.sync.outbox.next, .lst (x.replica.sync.outbox.writes.map XWrite.e), .int .i64 x.replica.sync.tries, .int .i64 x.replica.sync.wait, .int .i64 x.lastUsed, .bool x.persistent] := rfl
def XBucket.Ok (B : Nat) (x : XBucket) : Prop := x.site.length ≤ B ∧ x.top.length ≤ B ∧ x.reg.Ok B ∧ x.caches.Ok B ∧ x.disk.Ok B ∧ x.replica.Ok B ∧ inI x.lastUsed
theorem XBucket.of {B : Nat} : ∀ r : List PV, HasL t_Bucket r → szL r ≤ B → ∃ x : XBucket, r = x.e ∧ x.Ok B := fun r h hz => by
  obtain ⟨p0, r1, rfl, g0, k1⟩ := HasL_cons h
  obtain ⟨p1, r2, rfl, g1, k2⟩ := HasL_cons k1
  obtain ⟨p2, r3, rfl, g2, k3⟩ := HasL_cons k2
  obtain ⟨p3, r4, rfl, g3, k4⟩ := HasL_cons k3
  obtain ⟨p4, r5, rfl, g4, k5⟩ := HasL_cons k4
  obtain ⟨p5, r6, rfl, g5, k6⟩ := HasL_cons k5
  obtain ⟨p6, r7, rfl, g6, k7⟩ := HasL_cons k6
  obtain ⟨p7, r8, rfl, g7, k8⟩ := HasL_cons k7
  obtain ⟨p8, r9, rfl, g8, k9⟩ := HasL_cons k8
  obtain ⟨p9, r10, rfl, g9, k10⟩ := HasL_cons k9
  obtain ⟨p10, r11, rfl, g10, k11⟩ := HasL_cons k10
  obtain ⟨p11, r12, rfl, g11, k12⟩ := HasL_cons k11
  obtain ⟨p12, r13, rfl, g12, k13⟩ := HasL_cons k12
  obtain ⟨p13, r14, rfl, g13, k14⟩ := HasL_cons k13
  obtain ⟨p14, r15, rfl, g14, k15⟩ := HasL_cons k14
  obtain ⟨p15, r16, rfl, g15, k16⟩ := HasL_cons k15
  obtain ⟨p16, r17, rfl, g16, k17⟩ := HasL_cons k16
  obtain ⟨p17, r18, rfl, g17, k18⟩ := HasL_cons k17
  obtain ⟨p18, r19, rfl, g18, k19⟩ := HasL_cons k18
  obtain ⟨p19, r20, rfl, g19, k20⟩ := HasL_cons k19
  obtain ⟨p20, r21, rfl, g20, k21⟩ := HasL_cons k20
  obtain ⟨p21, r22, rfl, g21, k22⟩ := HasL_cons k21
  obtain ⟨p22, r23, rfl, g22, k23⟩ := HasL_cons k22
  obtain ⟨p23, r24, rfl, g23, k24⟩ := HasL_cons k23
  obtain rfl := HasL_nil k24
  have z0 := Nat.le_trans (szL_at (i := 0) rfl) hz
  obtain ⟨c0, rfl⟩ := Has_str g0
  rw [sz_str0] at z0
  have z1 := Nat.le_trans (szL_at (i := 1) rfl) hz
  obtain ⟨c1, rfl⟩ := Has_str g1
  rw [sz_str0] at z1
  have z2 := Nat.le_trans (szL_at (i := 2) rfl) hz
  obtain ⟨c2, rfl⟩ := Has_str g2
  rw [sz_str0] at z2
  have z3 := Nat.le_trans (szL_at (i := 3) rfl) hz
  obtain ⟨c3, rfl⟩ := Has_int g3
  have z4 := Nat.le_trans (szL_at (i := 4) rfl) hz
  obtain ⟨c4, rfl⟩ := Has_int g4
  have z5 := Nat.le_trans (szL_at (i := 5) rfl) hz
  obtain ⟨c5, rfl⟩ := Has_int g5
  have z6 := Nat.le_trans (szL_at (i := 6) rfl) hz
  obtain ⟨c6, rfl⟩ := Has_lst g6
  obtain ⟨l6, rfl, y6⟩ := ofL XCache.of (Has_rows g6).2 z6
  have z7 := Nat.le_trans (szL_at (i := 7) rfl) hz
  obtain ⟨c7, rfl⟩ := Has_str g7
  rw [sz_str0] at z7
  have z8 := Nat.le_trans (szL_at (i := 8) rfl) hz
  obtain ⟨c8, rfl⟩ := Has_int g8
  have z9 := Nat.le_trans (szL_at (i := 9) rfl) hz
  obtain ⟨c9, rfl⟩ := Has_lst g9
  obtain ⟨l9, rfl, y9⟩ := ofL XStore.of (Has_rows g9).2 z9
  have z10 := Nat.le_trans (szL_at (i := 10) rfl) hz
  obtain ⟨c10, rfl⟩ := Has_lst g10
  obtain ⟨l10, rfl, y10⟩ := ofL XIndexDef.of (Has_rows g10).2 z10
  have z11 := Nat.le_trans (szL_at (i := 11) rfl) hz
  obtain ⟨c11, rfl⟩ := Has_lst g11
  obtain ⟨b11, rfl⟩ := b1x_of (Has_rows g11).2
  rw [sz_lst, b1x_len] at z11
  have y11 : b11.length ≤ B := by omega
  have z12 := Nat.le_trans (szL_at (i := 12) rfl) hz
  obtain ⟨c12, rfl⟩ := Has_int g12
  have z13 := Nat.le_trans (szL_at (i := 13) rfl) hz
  obtain ⟨c13, rfl⟩ := Has_str g13
  rw [sz_str0] at z13
  have z14 := Nat.le_trans (szL_at (i := 14) rfl) hz
  obtain ⟨c14, rfl⟩ := Has_lst g14
  obtain ⟨l14, rfl, y14⟩ := ofL XItem.of (Has_rows g14).2 z14
  have z15 := Nat.le_trans (szL_at (i := 15) rfl) hz
  obtain ⟨c15, rfl⟩ := Has_int g15
  have z16 := Nat.le_trans (szL_at (i := 16) rfl) hz
  obtain ⟨c16, rfl⟩ := Has_int g16
  have z17 := Nat.le_trans (szL_at (i := 17) rfl) hz
  obtain ⟨c17, rfl⟩ := Has_int g17
  have z18 := Nat.le_trans (szL_at (i := 18) rfl) hz
  obtain ⟨c18, rfl⟩ := Has_int g18
  have z19 := Nat.le_trans (szL_at (i := 19) rfl) hz
  obtain ⟨c19, rfl⟩ := Has_lst g19
  obtain ⟨l19, rfl, y19⟩ := ofL XWrite.of (Has_rows g19).2 z19
  have z20 := Nat.le_trans (szL_at (i := 20) rfl) hz
  obtain ⟨c20, rfl⟩ := Has_int g20
  have z21 := Nat.le_trans (szL_at (i := 21) rfl) hz
  obtain ⟨c21, rfl⟩ := Has_int g21
  have z22 := Nat.le_trans (szL_at (i := 22) rfl) hz
  obtain ⟨c22, rfl⟩ := Has_int g22
  have z23 := Nat.le_trans (szL_at (i := 23) rfl) hz
  obtain ⟨c23, rfl⟩ := Has_bool g23
  exact ⟨⟨c0, c1, ⟨c2, c3, c4, c5⟩, ⟨l6⟩, ⟨⟨c7, c8, l9, l10⟩, b11, c12⟩, ⟨⟨c13, l14, c15⟩, c16, ⟨⟨c17, c18, l19⟩, c20, c21⟩⟩, c22, c23⟩, rfl, ⟨z0, z1, ⟨z2, inI_of g3, inI_of g4, inI_of g5⟩, y6, ⟨⟨z7, inI_of g8, y9, y10⟩, y11, inI_of g12⟩, ⟨⟨z13, y14, inI_of g15⟩, inI_of g16, ⟨⟨inI_of g17, inI_of g18, y19⟩, inI_of g20, inI_of g21⟩⟩, inI_of g22⟩⟩
theorem XBucket.has {B : Nat} (hB : B ≤ maxLen) {x : XBucket} (h : x.Ok B) : HasL t_Bucket x.e := by
  obtain ⟨h0, h1, ⟨h2, h3, h4, h5⟩, h6, ⟨⟨h7, h8, h9, h10⟩, h11, h12⟩, ⟨⟨h13, h14, h15⟩, h16, ⟨⟨h17, h18, h19⟩, h20, h21⟩⟩, h22⟩ := h
  simp only [t_Bucket, XBucket.e, HasL]
  exact ⟨by simp only [Has]; exact Nat.le_trans h0 hB, by simp only [Has]; exact Nat.le_trans h1 hB, by simp only [Has]; exact Nat.le_trans h2 hB, by simp only [Has]; exact ⟨trivial, inI_has h3⟩, by simp only [Has]; exact ⟨trivial, inI_has h4⟩, by simp only [Has]; exact ⟨trivial, inI_has h5⟩, has_map (fun _ q => XCache.has hB q) hB h6, by simp only [Has]; exact Nat.le_trans h7 hB, by simp only [Has]; exact ⟨trivial, inI_has h8⟩, has_map (fun _ q => XStore.has hB q) hB h9, has_map (fun _ q => XIndexDef.has hB q) hB h10, b1x_has hB h11, by simp only [Has]; exact ⟨trivial, inI_has h12⟩, by simp only [Has]; exact Nat.le_trans h13 hB, has_map (fun _ q => XItem.has hB q) hB h14, by simp only [Has]; exact ⟨trivial, inI_has h15⟩, by simp only [Has]; exact ⟨trivial, inI_has h16⟩, by simp only [Has]; exact ⟨trivial, inI_has h17⟩, by simp only [Has]; exact ⟨trivial, inI_has h18⟩, has_map (fun _ q => XWrite.has hB q) hB h19, by simp only [Has]; exact ⟨trivial, inI_has h20⟩, by simp only [Has]; exact ⟨trivial, inI_has h21⟩, by simp only [Has]; exact ⟨trivial, inI_has h22⟩, by simp only [Has], trivial⟩
theorem XKey.Ok.mono {A B : Nat} (hAB : A ≤ B) {x : XKey} (h : x.Ok A) : x.Ok B := by
  obtain ⟨h0, h1, h2⟩ := h
  exact ⟨h0, h1, Nat.le_trans h2 hAB⟩
theorem XField.Ok.mono {A B : Nat} (hAB : A ≤ B) {x : XField} (h : x.Ok A) : x.Ok B := by
  obtain ⟨h0, h1⟩ := h
  exact ⟨Nat.le_trans h0 hAB, h1⟩
theorem XRecord.Ok.mono {A B : Nat} (hAB : A ≤ B) {x : XRecord} (h : x.Ok A) : x.Ok B := by
  have h0 := h
  exact ⟨Nat.le_trans h0.1 hAB, fun y m => XField.Ok.mono hAB (h0.2 y m)⟩
theorem XItem.Ok.mono {A B : Nat} (hAB : A ≤ B) {x : XItem} (h : x.Ok A) : x.Ok B := by
  obtain ⟨h0, h1⟩ := h
  exact ⟨XKey.Ok.mono hAB h0, XRecord.Ok.mono hAB h1⟩
theorem XStore.Ok.mono {A B : Nat} (hAB : A ≤ B) {x : XStore} (h : x.Ok A) : x.Ok B := by
  obtain ⟨h0, h1, h2⟩ := h
  exact ⟨Nat.le_trans h0 hAB, ⟨Nat.le_trans h1.1 hAB, fun y m => XItem.Ok.mono hAB (h1.2 y m)⟩, h2⟩
theorem XWrite.Ok.mono {A B : Nat} (hAB : A ≤ B) {x : XWrite} (h : x.Ok A) : x.Ok B := by
  obtain ⟨h0, h1, h2, h3, h4⟩ := h
  exact ⟨h0, h1, XKey.Ok.mono hAB h2, Nat.le_trans h3 hAB, h4⟩
theorem XApplied.Ok.mono {A B : Nat} (hAB : A ≤ B) {x : XApplied} (h : x.Ok A) : x.Ok B := by
  obtain ⟨h0, h1⟩ := h
  exact ⟨h0, h1⟩
theorem XServer.Ok.mono {A B : Nat} (hAB : A ≤ B) {x : XServer} (h : x.Ok A) : x.Ok B := by
  obtain ⟨h0, h1, h2⟩ := h
  exact ⟨XStore.Ok.mono hAB h0, ⟨Nat.le_trans h1.1 hAB, fun y m => XApplied.Ok.mono hAB (h1.2 y m)⟩, ⟨Nat.le_trans h2.1 hAB, fun y m => XWrite.Ok.mono hAB (h2.2 y m)⟩⟩
theorem XOutbox.Ok.mono {A B : Nat} (hAB : A ≤ B) {x : XOutbox} (h : x.Ok A) : x.Ok B := by
  obtain ⟨h0, h1, h2⟩ := h
  exact ⟨h0, h1, ⟨Nat.le_trans h2.1 hAB, fun y m => XWrite.Ok.mono hAB (h2.2 y m)⟩⟩
theorem XSync.Ok.mono {A B : Nat} (hAB : A ≤ B) {x : XSync} (h : x.Ok A) : x.Ok B := by
  obtain ⟨h0, h1, h2⟩ := h
  exact ⟨XOutbox.Ok.mono hAB h0, h1, h2⟩
theorem XReplica.Ok.mono {A B : Nat} (hAB : A ≤ B) {x : XReplica} (h : x.Ok A) : x.Ok B := by
  obtain ⟨h0, h1, h2⟩ := h
  exact ⟨XStore.Ok.mono hAB h0, h1, XSync.Ok.mono hAB h2⟩
theorem XResponse.Ok.mono {A B : Nat} (hAB : A ≤ B) {x : XResponse} (h : x.Ok A) : x.Ok B := by
  obtain ⟨h0, h1, h2, h3⟩ := h
  exact ⟨h0, h1, h2, Nat.le_trans h3 hAB⟩
theorem XCached.Ok.mono {A B : Nat} (hAB : A ≤ B) {x : XCached} (h : x.Ok A) : x.Ok B := by
  obtain ⟨h0, h1, h2⟩ := h
  exact ⟨Nat.le_trans h0 hAB, Nat.le_trans h1 hAB, XResponse.Ok.mono hAB h2⟩
theorem XCache.Ok.mono {A B : Nat} (hAB : A ≤ B) {x : XCache} (h : x.Ok A) : x.Ok B := by
  obtain ⟨h0, h1⟩ := h
  exact ⟨h0, ⟨Nat.le_trans h1.1 hAB, fun y m => XCached.Ok.mono hAB (h1.2 y m)⟩⟩
theorem XCacheSet.Ok.mono {A B : Nat} (hAB : A ≤ B) {x : XCacheSet} (h : x.Ok A) : x.Ok B := by
  have h0 := h
  exact ⟨Nat.le_trans h0.1 hAB, fun y m => XCache.Ok.mono hAB (h0.2 y m)⟩
theorem XRegistration.Ok.mono {A B : Nat} (hAB : A ≤ B) {x : XRegistration} (h : x.Ok A) : x.Ok B := by
  obtain ⟨h0, h1, h2, h3⟩ := h
  exact ⟨Nat.le_trans h0 hAB, h1, h2, h3⟩
theorem XIndexDef.Ok.mono {A B : Nat} (hAB : A ≤ B) {x : XIndexDef} (h : x.Ok A) : x.Ok B := by
  obtain ⟨h0, h1⟩ := h
  exact ⟨Nat.le_trans h0 hAB, Nat.le_trans h1 hAB⟩
theorem XDatabase.Ok.mono {A B : Nat} (hAB : A ≤ B) {x : XDatabase} (h : x.Ok A) : x.Ok B := by
  obtain ⟨h0, h1, h2, h3⟩ := h
  exact ⟨Nat.le_trans h0 hAB, h1, ⟨Nat.le_trans h2.1 hAB, fun y m => XStore.Ok.mono hAB (h2.2 y m)⟩, ⟨Nat.le_trans h3.1 hAB, fun y m => XIndexDef.Ok.mono hAB (h3.2 y m)⟩⟩
theorem XDisk.Ok.mono {A B : Nat} (hAB : A ≤ B) {x : XDisk} (h : x.Ok A) : x.Ok B := by
  obtain ⟨h0, h1, h2⟩ := h
  exact ⟨XDatabase.Ok.mono hAB h0, Nat.le_trans h1 hAB, h2⟩
theorem XBucket.Ok.mono {A B : Nat} (hAB : A ≤ B) {x : XBucket} (h : x.Ok A) : x.Ok B := by
  obtain ⟨h0, h1, h2, h3, h4, h5, h6⟩ := h
  exact ⟨Nat.le_trans h0 hAB, Nat.le_trans h1 hAB, XRegistration.Ok.mono hAB h2, XCacheSet.Ok.mono hAB h3, XDisk.Ok.mono hAB h4, XReplica.Ok.mono hAB h5, h6⟩
end Gi
