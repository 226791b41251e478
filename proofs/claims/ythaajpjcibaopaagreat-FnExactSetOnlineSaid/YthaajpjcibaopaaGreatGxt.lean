/- Of this proof. -/
import Derived.Test.YthaajpjcibaopaaGreatGtb
namespace Gi
open Go Go.RowKit
set_option linter.unusedSimpArgs false
set_option linter.unusedVariables false
def inI (n : Int) : Prop := -9223372036854775808 ≤ n ∧ n ≤ 9223372036854775807
theorem inI_of {n : Int} (h : Has (.int .i64) (.int .i64 n)) : inI n := by
 simp only [Has, Lit.wf, IntKind.min, IntKind.max, IntKind.signed, IntKind.bits] at h
 simp at h
 unfold inI
 omega
def i1x (n : Int) : List PV := [.int .i64 n]
def s1x (s : List UInt8) : List PV := [.str s]
theorem ofL {α : Type} {e : α → List PV} {ok : α → Prop} {ts : List PTy} {B : Nat} (f : ∀ r, HasL ts r → szL r ≤ B → ∃ x, r = e x ∧ ok x) : ∀ {rows : List (List PV)}, (∀ r ∈ rows, HasL ts r) → sz (.lst rows) ≤ B → ∃ xs : List α, rows = xs.map e ∧ (xs.length ≤ B ∧ ∀ x ∈ xs, ok x)
 | [], _, _ => ⟨[], rfl, by simp, by simp⟩
 | r :: rows, h, hz => by
  rw [sz_lst] at hz
  simp only [szRows, List.length_cons] at hz
  obtain ⟨x, rfl, hx⟩ := f r (h r (by simp)) (by omega)
  obtain ⟨xs, rfl, hl, ha⟩ := ofL f (rows := rows) (fun r m => h r (by simp [m])) (by rw [sz_lst]; omega)
  refine ⟨x :: xs, rfl, by simp at hz ⊢; omega, fun y hy => ?_⟩
  rcases List.mem_cons.1 hy with rfl | hy
  ·exact hx
  ·exact ha y hy
theorem i1x_of {B : Nat} : ∀ r, HasL t_IntS r → szL r ≤ B → ∃ x, r = i1x x ∧ inI x := fun r h _ => by
 obtain ⟨p0, r1, rfl, g0, k1⟩ := HasL_cons h
 obtain rfl := HasL_nil k1
 obtain ⟨c0, rfl⟩ := Has_int g0
 exact ⟨c0, rfl, inI_of g0⟩
theorem s1x_of {B : Nat} : ∀ r, HasL t_StringS r → szL r ≤ B → ∃ x, r = s1x x ∧ x.length ≤ B := fun r h hz => by
 obtain ⟨p0, r1, rfl, g0, k1⟩ := HasL_cons h
 obtain rfl := HasL_nil k1
 obtain ⟨c0, rfl⟩ := Has_str g0
 refine ⟨c0, rfl, ?_⟩
 simp only [szL, sz] at hz
 omega
theorem b1x_of {rows : List (List PV)} (h : ∀ r ∈ rows, HasL t_ByteS r) : ∃ s : List UInt8, rows = ofBytes s := by
 induction rows with
 | nil => exact ⟨[], rfl⟩
 | cons r rows ih =>
  obtain ⟨s, rfl⟩ := ih fun r m => h r (by simp [m])
  obtain ⟨p0, r1, rfl, g0, k1⟩ := HasL_cons (h r (by simp))
  obtain rfl := HasL_nil k1
  obtain ⟨c0, rfl⟩ := Has_int g0
  refine ⟨UInt8.ofNat c0.toNat :: s, ?_⟩
  simp only [Has, Lit.wf, IntKind.min, IntKind.max, IntKind.signed, IntKind.bits] at g0
  simp at g0
  simp only [ofBytes, List.map_cons, List.cons.injEq, and_true, PV.int.injEq, true_and]
  simp
  omega
theorem b1x_len (s : List UInt8) : (ofBytes s).length = s.length := by simp [ofBytes]
structure XKey where
 kind : Int
 n : Int
 text : List UInt8
def XKey.e (x : XKey) : List PV := [.int .i64 x.kind, .int .i64 x.n, .str x.text]
theorem XKey_e (x : XKey) : x.e = [.int .i64 x.kind, .int .i64 x.n, .str x.text] := rfl
def XKey.Ok (B : Nat) (x : XKey) : Prop := inI x.kind ∧ inI x.n ∧ x.text.length ≤ B
theorem XKey.of {B : Nat} : ∀ r : List PV, HasL t_Key r → szL r ≤ B → ∃ x : XKey, r = x.e ∧ x.Ok B := fun r h hz => by
 obtain ⟨p0, r1, rfl, g0, k1⟩ := HasL_cons h
 obtain ⟨p1, r2, rfl, g1, k2⟩ := HasL_cons k1
 obtain ⟨p2, r3, rfl, g2, k3⟩ := HasL_cons k2
 obtain rfl := HasL_nil k3
 obtain ⟨c0, rfl⟩ := Has_int g0
 obtain ⟨c1, rfl⟩ := Has_int g1
 have z2 := Nat.le_trans (szL_at (i := 2) rfl) hz
 obtain ⟨c2, rfl⟩ := Has_str g2
 rw [sz_str0] at z2
 exact ⟨⟨c0, c1, c2⟩, rfl, ⟨inI_of g0, inI_of g1, z2⟩⟩
structure XField where
 name : List UInt8
 n : Int
def XField.e (x : XField) : List PV := [.str x.name, .int .i64 x.n]
theorem XField_e (x : XField) : x.e = [.str x.name, .int .i64 x.n] := rfl
def XField.Ok (B : Nat) (x : XField) : Prop := x.name.length ≤ B ∧ inI x.n
theorem XField.of {B : Nat} : ∀ r : List PV, HasL t_Field r → szL r ≤ B → ∃ x : XField, r = x.e ∧ x.Ok B := fun r h hz => by
 obtain ⟨p0, r1, rfl, g0, k1⟩ := HasL_cons h
 obtain ⟨p1, r2, rfl, g1, k2⟩ := HasL_cons k1
 obtain rfl := HasL_nil k2
 have z0 := Nat.le_trans (szL_at (i := 0) rfl) hz
 obtain ⟨c0, rfl⟩ := Has_str g0
 rw [sz_str0] at z0
 obtain ⟨c1, rfl⟩ := Has_int g1
 exact ⟨⟨c0, c1⟩, rfl, ⟨z0, inI_of g1⟩⟩
structure XRecord where
 fs : List XField
def XRecord.e (x : XRecord) : List PV := [.lst (x.fs.map XField.e)]
theorem XRecord_e (x : XRecord) : x.e = [.lst (x.fs.map XField.e)] := rfl
def XRecord.Ok (B : Nat) (x : XRecord) : Prop := (x.fs.length ≤ B ∧ ∀ y ∈ x.fs, y.Ok B)
theorem XRecord.of {B : Nat} : ∀ r : List PV, HasL t_Record r → szL r ≤ B → ∃ x : XRecord, r = x.e ∧ x.Ok B := fun r h hz => by
 obtain ⟨p0, r1, rfl, g0, k1⟩ := HasL_cons h
 obtain rfl := HasL_nil k1
 have z0 := Nat.le_trans (szL_at (i := 0) rfl) hz
 obtain ⟨c0, rfl⟩ := Has_lst g0
 obtain ⟨l0, rfl, y0⟩ := ofL XField.of (Has_rows g0).2 z0
 exact ⟨⟨l0⟩, rfl, y0⟩
structure XItem where
 key : XKey
 rcd : XRecord
def XItem.e (x : XItem) : List PV := [.int .i64 x.key.kind, .int .i64 x.key.n, .str x.key.text, .lst (x.rcd.fs.map XField.e)]
theorem XItem_e (x : XItem) : x.e = [.int .i64 x.key.kind, .int .i64 x.key.n, .str x.key.text, .lst (x.rcd.fs.map XField.e)] := rfl
def XItem.Ok (B : Nat) (x : XItem) : Prop := x.key.Ok B ∧ x.rcd.Ok B
theorem XItem.of {B : Nat} : ∀ r : List PV, HasL t_Item r → szL r ≤ B → ∃ x : XItem, r = x.e ∧ x.Ok B := fun r h hz => by
 obtain ⟨p0, r1, rfl, g0, k1⟩ := HasL_cons h
 obtain ⟨p1, r2, rfl, g1, k2⟩ := HasL_cons k1
 obtain ⟨p2, r3, rfl, g2, k3⟩ := HasL_cons k2
 obtain ⟨p3, r4, rfl, g3, k4⟩ := HasL_cons k3
 obtain rfl := HasL_nil k4
 obtain ⟨c0, rfl⟩ := Has_int g0
 obtain ⟨c1, rfl⟩ := Has_int g1
 have z2 := Nat.le_trans (szL_at (i := 2) rfl) hz
 obtain ⟨c2, rfl⟩ := Has_str g2
 rw [sz_str0] at z2
 have z3 := Nat.le_trans (szL_at (i := 3) rfl) hz
 obtain ⟨c3, rfl⟩ := Has_lst g3
 obtain ⟨l3, rfl, y3⟩ := ofL XField.of (Has_rows g3).2 z3
 exact ⟨⟨⟨c0, c1, c2⟩, ⟨l3⟩⟩, rfl, ⟨⟨inI_of g0, inI_of g1, z2⟩, y3⟩⟩
structure XStore where
 name : List UInt8
 items : List XItem
 auto : Int
def XStore.e (x : XStore) : List PV := [.str x.name, .lst (x.items.map XItem.e), .int .i64 x.auto]
theorem XStore_e (x : XStore) : x.e = [.str x.name, .lst (x.items.map XItem.e), .int .i64 x.auto] := rfl
def XStore.Ok (B : Nat) (x : XStore) : Prop := x.name.length ≤ B ∧ (x.items.length ≤ B ∧ ∀ y ∈ x.items, y.Ok B) ∧ inI x.auto
theorem XStore.of {B : Nat} : ∀ r : List PV, HasL t_Store r → szL r ≤ B → ∃ x : XStore, r = x.e ∧ x.Ok B := fun r h hz => by
 obtain ⟨p0, r1, rfl, g0, k1⟩ := HasL_cons h
 obtain ⟨p1, r2, rfl, g1, k2⟩ := HasL_cons k1
 obtain ⟨p2, r3, rfl, g2, k3⟩ := HasL_cons k2
 obtain rfl := HasL_nil k3
 have z0 := Nat.le_trans (szL_at (i := 0) rfl) hz
 obtain ⟨c0, rfl⟩ := Has_str g0
 rw [sz_str0] at z0
 have z1 := Nat.le_trans (szL_at (i := 1) rfl) hz
 obtain ⟨c1, rfl⟩ := Has_lst g1
 obtain ⟨l1, rfl, y1⟩ := ofL XItem.of (Has_rows g1).2 z1
 obtain ⟨c2, rfl⟩ := Has_int g2
 exact ⟨⟨c0, l1, c2⟩, rfl, ⟨z0, y1, inI_of g2⟩⟩
structure XWrite where
 dev : Int
 seq : Int
 key : XKey
 field : List UInt8
 n : Int
def XWrite.e (x : XWrite) : List PV := [.int .i64 x.dev, .int .i64 x.seq, .int .i64 x.key.kind, .int .i64 x.key.n, .str x.key.text, .str x.field, .int .i64 x.n]
theorem XWrite_e (x : XWrite) : x.e = [.int .i64 x.dev, .int .i64 x.seq, .int .i64 x.key.kind, .int .i64 x.key.n, .str x.key.text, .str x.field, .int .i64 x.n] := rfl
def XWrite.Ok (B : Nat) (x : XWrite) : Prop := inI x.dev ∧ inI x.seq ∧ x.key.Ok B ∧ x.field.length ≤ B ∧ inI x.n
theorem XWrite.of {B : Nat} : ∀ r : List PV, HasL t_Write r → szL r ≤ B → ∃ x : XWrite, r = x.e ∧ x.Ok B := fun r h hz => by
 obtain ⟨p0, r1, rfl, g0, k1⟩ := HasL_cons h
 obtain ⟨p1, r2, rfl, g1, k2⟩ := HasL_cons k1
 obtain ⟨p2, r3, rfl, g2, k3⟩ := HasL_cons k2
 obtain ⟨p3, r4, rfl, g3, k4⟩ := HasL_cons k3
 obtain ⟨p4, r5, rfl, g4, k5⟩ := HasL_cons k4
 obtain ⟨p5, r6, rfl, g5, k6⟩ := HasL_cons k5
 obtain ⟨p6, r7, rfl, g6, k7⟩ := HasL_cons k6
 obtain rfl := HasL_nil k7
 obtain ⟨c0, rfl⟩ := Has_int g0
 obtain ⟨c1, rfl⟩ := Has_int g1
 obtain ⟨c2, rfl⟩ := Has_int g2
 obtain ⟨c3, rfl⟩ := Has_int g3
 have z4 := Nat.le_trans (szL_at (i := 4) rfl) hz
 obtain ⟨c4, rfl⟩ := Has_str g4
 rw [sz_str0] at z4
 have z5 := Nat.le_trans (szL_at (i := 5) rfl) hz
 obtain ⟨c5, rfl⟩ := Has_str g5
 rw [sz_str0] at z5
 obtain ⟨c6, rfl⟩ := Has_int g6
 exact ⟨⟨c0, c1, ⟨c2, c3, c4⟩, c5, c6⟩, rfl, ⟨inI_of g0, inI_of g1, ⟨inI_of g2, inI_of g3, z4⟩, z5, inI_of g6⟩⟩
structure XApplied where
 dev : Int
 seq : Int
def XApplied.e (x : XApplied) : List PV := [.int .i64 x.dev, .int .i64 x.seq]
theorem XApplied_e (x : XApplied) : x.e = [.int .i64 x.dev, .int .i64 x.seq] := rfl
def XApplied.Ok (B : Nat) (x : XApplied) : Prop := inI x.dev ∧ inI x.seq
theorem XApplied.of {B : Nat} : ∀ r : List PV, HasL t_Applied r → szL r ≤ B → ∃ x : XApplied, r = x.e ∧ x.Ok B := fun r h hz => by
 obtain ⟨p0, r1, rfl, g0, k1⟩ := HasL_cons h
 obtain ⟨p1, r2, rfl, g1, k2⟩ := HasL_cons k1
 obtain rfl := HasL_nil k2
 obtain ⟨c0, rfl⟩ := Has_int g0
 obtain ⟨c1, rfl⟩ := Has_int g1
 exact ⟨⟨c0, c1⟩, rfl, ⟨inI_of g0, inI_of g1⟩⟩
structure XServer where
 store : XStore
 applied : List XApplied
 changes : List XWrite
def XServer.e (x : XServer) : List PV := [.str x.store.name, .lst (x.store.items.map XItem.e), .int .i64 x.store.auto, .lst (x.applied.map XApplied.e), .lst (x.changes.map XWrite.e)]
theorem XServer_e (x : XServer) : x.e = [.str x.store.name, .lst (x.store.items.map XItem.e), .int .i64 x.store.auto, .lst (x.applied.map XApplied.e), .lst (x.changes.map XWrite.e)] := rfl
def XServer.Ok (B : Nat) (x : XServer) : Prop := x.store.Ok B ∧ (x.applied.length ≤ B ∧ ∀ y ∈ x.applied, y.Ok B) ∧ (x.changes.length ≤ B ∧ ∀ y ∈ x.changes, y.Ok B)
theorem XServer.of {B : Nat} : ∀ r : List PV, HasL t_Server r → szL r ≤ B → ∃ x : XServer, r = x.e ∧ x.Ok B := fun r h hz => by
 obtain ⟨p0, r1, rfl, g0, k1⟩ := HasL_cons h
 obtain ⟨p1, r2, rfl, g1, k2⟩ := HasL_cons k1
 obtain ⟨p2, r3, rfl, g2, k3⟩ := HasL_cons k2
 obtain ⟨p3, r4, rfl, g3, k4⟩ := HasL_cons k3
 obtain ⟨p4, r5, rfl, g4, k5⟩ := HasL_cons k4
 obtain rfl := HasL_nil k5
 have z0 := Nat.le_trans (szL_at (i := 0) rfl) hz
 obtain ⟨c0, rfl⟩ := Has_str g0
 rw [sz_str0] at z0
 have z1 := Nat.le_trans (szL_at (i := 1) rfl) hz
 obtain ⟨c1, rfl⟩ := Has_lst g1
 obtain ⟨l1, rfl, y1⟩ := ofL XItem.of (Has_rows g1).2 z1
 obtain ⟨c2, rfl⟩ := Has_int g2
 have z3 := Nat.le_trans (szL_at (i := 3) rfl) hz
 obtain ⟨c3, rfl⟩ := Has_lst g3
 obtain ⟨l3, rfl, y3⟩ := ofL XApplied.of (Has_rows g3).2 z3
 have z4 := Nat.le_trans (szL_at (i := 4) rfl) hz
 obtain ⟨c4, rfl⟩ := Has_lst g4
 obtain ⟨l4, rfl, y4⟩ := ofL XWrite.of (Has_rows g4).2 z4
 exact ⟨⟨⟨c0, l1, c2⟩, l3, l4⟩, rfl, ⟨⟨z0, y1, inI_of g2⟩, y3, y4⟩⟩
structure XOutbox where
 dev : Int
 next : Int
 writes : List XWrite
def XOutbox.e (x : XOutbox) : List PV := [.int .i64 x.dev, .int .i64 x.next, .lst (x.writes.map XWrite.e)]
theorem XOutbox_e (x : XOutbox) : x.e = [.int .i64 x.dev, .int .i64 x.next, .lst (x.writes.map XWrite.e)] := rfl
def XOutbox.Ok (B : Nat) (x : XOutbox) : Prop := inI x.dev ∧ inI x.next ∧ (x.writes.length ≤ B ∧ ∀ y ∈ x.writes, y.Ok B)
theorem XOutbox.of {B : Nat} : ∀ r : List PV, HasL t_Outbox r → szL r ≤ B → ∃ x : XOutbox, r = x.e ∧ x.Ok B := fun r h hz => by
 obtain ⟨p0, r1, rfl, g0, k1⟩ := HasL_cons h
 obtain ⟨p1, r2, rfl, g1, k2⟩ := HasL_cons k1
 obtain ⟨p2, r3, rfl, g2, k3⟩ := HasL_cons k2
 obtain rfl := HasL_nil k3
 obtain ⟨c0, rfl⟩ := Has_int g0
 obtain ⟨c1, rfl⟩ := Has_int g1
 have z2 := Nat.le_trans (szL_at (i := 2) rfl) hz
 obtain ⟨c2, rfl⟩ := Has_lst g2
 obtain ⟨l2, rfl, y2⟩ := ofL XWrite.of (Has_rows g2).2 z2
 exact ⟨⟨c0, c1, l2⟩, rfl, ⟨inI_of g0, inI_of g1, y2⟩⟩
structure XSync where
 outbox : XOutbox
 tries : Int
 wait : Int
def XSync.e (x : XSync) : List PV := [.int .i64 x.outbox.dev, .int .i64 x.outbox.next, .lst (x.outbox.writes.map XWrite.e), .int .i64 x.tries, .int .i64 x.wait]
theorem XSync_e (x : XSync) : x.e = [.int .i64 x.outbox.dev, .int .i64 x.outbox.next, .lst (x.outbox.writes.map XWrite.e), .int .i64 x.tries, .int .i64 x.wait] := rfl
def XSync.Ok (B : Nat) (x : XSync) : Prop := x.outbox.Ok B ∧ inI x.tries ∧ inI x.wait
theorem XSync.of {B : Nat} : ∀ r : List PV, HasL t_Sync r → szL r ≤ B → ∃ x : XSync, r = x.e ∧ x.Ok B := fun r h hz => by
 obtain ⟨p0, r1, rfl, g0, k1⟩ := HasL_cons h
 obtain ⟨p1, r2, rfl, g1, k2⟩ := HasL_cons k1
 obtain ⟨p2, r3, rfl, g2, k3⟩ := HasL_cons k2
 obtain ⟨p3, r4, rfl, g3, k4⟩ := HasL_cons k3
 obtain ⟨p4, r5, rfl, g4, k5⟩ := HasL_cons k4
 obtain rfl := HasL_nil k5
 obtain ⟨c0, rfl⟩ := Has_int g0
 obtain ⟨c1, rfl⟩ := Has_int g1
 have z2 := Nat.le_trans (szL_at (i := 2) rfl) hz
 obtain ⟨c2, rfl⟩ := Has_lst g2
 obtain ⟨l2, rfl, y2⟩ := ofL XWrite.of (Has_rows g2).2 z2
 obtain ⟨c3, rfl⟩ := Has_int g3
 obtain ⟨c4, rfl⟩ := Has_int g4
 exact ⟨⟨⟨c0, c1, l2⟩, c3, c4⟩, rfl, ⟨⟨inI_of g0, inI_of g1, y2⟩, inI_of g3, inI_of g4⟩⟩
structure XReplica where
 base : XStore
 seen : Int
 sync : XSync
def XReplica.e (x : XReplica) : List PV := [.str x.base.name, .lst (x.base.items.map XItem.e), .int .i64 x.base.auto, .int .i64 x.seen, .int .i64 x.sync.outbox.dev, .int .i64 x.sync.outbox.next, .lst (x.sync.outbox.writes.map XWrite.e), .int .i64 x.sync.tries, .int .i64 x.sync.wait]
theorem XReplica_e (x : XReplica) : x.e = [.str x.base.name, .lst (x.base.items.map XItem.e), .int .i64 x.base.auto, .int .i64 x.seen, .int .i64 x.sync.outbox.dev, .int .i64 x.sync.outbox.next, .lst (x.sync.outbox.writes.map XWrite.e), .int .i64 x.sync.tries, .int .i64 x.sync.wait] := rfl
def XReplica.Ok (B : Nat) (x : XReplica) : Prop := x.base.Ok B ∧ inI x.seen ∧ x.sync.Ok B
theorem XReplica.of {B : Nat} : ∀ r : List PV, HasL t_Replica r → szL r ≤ B → ∃ x : XReplica, r = x.e ∧ x.Ok B := fun r h hz => by
 obtain ⟨p0, r1, rfl, g0, k1⟩ := HasL_cons h
 obtain ⟨p1, r2, rfl, g1, k2⟩ := HasL_cons k1
 obtain ⟨p2, r3, rfl, g2, k3⟩ := HasL_cons k2
 obtain ⟨p3, r4, rfl, g3, k4⟩ := HasL_cons k3
 obtain ⟨p4, r5, rfl, g4, k5⟩ := HasL_cons k4
 obtain ⟨p5, r6, rfl, g5, k6⟩ := HasL_cons k5
 obtain ⟨p6, r7, rfl, g6, k7⟩ := HasL_cons k6
 obtain ⟨p7, r8, rfl, g7, k8⟩ := HasL_cons k7
 obtain ⟨p8, r9, rfl, g8, k9⟩ := HasL_cons k8
 obtain rfl := HasL_nil k9
 have z0 := Nat.le_trans (szL_at (i := 0) rfl) hz
 obtain ⟨c0, rfl⟩ := Has_str g0
 rw [sz_str0] at z0
 have z1 := Nat.le_trans (szL_at (i := 1) rfl) hz
 obtain ⟨c1, rfl⟩ := Has_lst g1
 obtain ⟨l1, rfl, y1⟩ := ofL XItem.of (Has_rows g1).2 z1
 obtain ⟨c2, rfl⟩ := Has_int g2
 obtain ⟨c3, rfl⟩ := Has_int g3
 obtain ⟨c4, rfl⟩ := Has_int g4
 obtain ⟨c5, rfl⟩ := Has_int g5
 have z6 := Nat.le_trans (szL_at (i := 6) rfl) hz
 obtain ⟨c6, rfl⟩ := Has_lst g6
 obtain ⟨l6, rfl, y6⟩ := ofL XWrite.of (Has_rows g6).2 z6
 obtain ⟨c7, rfl⟩ := Has_int g7
 obtain ⟨c8, rfl⟩ := Has_int g8
 exact ⟨⟨⟨c0, l1, c2⟩, c3, ⟨⟨c4, c5, l6⟩, c7, c8⟩⟩, rfl, ⟨⟨z0, y1, inI_of g2⟩, inI_of g3, ⟨⟨inI_of g4, inI_of g5, y6⟩, inI_of g7, inI_of g8⟩⟩⟩
structure XResponse where
 type : Int
 status : Int
 version : Int
 body : List UInt8
 shares : Bool
def XResponse.e (x : XResponse) : List PV := [.int .i64 x.type, .int .i64 x.status, .int .i64 x.version, .lst (ofBytes x.body), .bool x.shares]
theorem XResponse_e (x : XResponse) : x.e = [.int .i64 x.type, .int .i64 x.status, .int .i64 x.version, .lst (ofBytes x.body), .bool x.shares] := rfl
def XResponse.Ok (B : Nat) (x : XResponse) : Prop := inI x.type ∧ inI x.status ∧ inI x.version ∧ x.body.length ≤ B
theorem XResponse.of {B : Nat} : ∀ r : List PV, HasL t_Response r → szL r ≤ B → ∃ x : XResponse, r = x.e ∧ x.Ok B := fun r h hz => by
 obtain ⟨p0, r1, rfl, g0, k1⟩ := HasL_cons h
 obtain ⟨p1, r2, rfl, g1, k2⟩ := HasL_cons k1
 obtain ⟨p2, r3, rfl, g2, k3⟩ := HasL_cons k2
 obtain ⟨p3, r4, rfl, g3, k4⟩ := HasL_cons k3
 obtain ⟨p4, r5, rfl, g4, k5⟩ := HasL_cons k4
 obtain rfl := HasL_nil k5
 obtain ⟨c0, rfl⟩ := Has_int g0
 obtain ⟨c1, rfl⟩ := Has_int g1
 obtain ⟨c2, rfl⟩ := Has_int g2
 have z3 := Nat.le_trans (szL_at (i := 3) rfl) hz
 obtain ⟨c3, rfl⟩ := Has_lst g3
 obtain ⟨b3, rfl⟩ := b1x_of (Has_rows g3).2
 rw [sz_lst, b1x_len] at z3
 have y3 : b3.length ≤ B := by omega
 obtain ⟨c4, rfl⟩ := Has_bool g4
 exact ⟨⟨c0, c1, c2, b3, c4⟩, rfl, ⟨inI_of g0, inI_of g1, inI_of g2, y3⟩⟩
structure XCached where
 site : List UInt8
 path : List UInt8
 resp : XResponse
def XCached.e (x : XCached) : List PV := [.str x.site, .str x.path, .int .i64 x.resp.type, .int .i64 x.resp.status, .int .i64 x.resp.version, .lst (ofBytes x.resp.body), .bool x.resp.shares]
theorem XCached_e (x : XCached) : x.e = [.str x.site, .str x.path, .int .i64 x.resp.type, .int .i64 x.resp.status, .int .i64 x.resp.version, .lst (ofBytes x.resp.body), .bool x.resp.shares] := rfl
def XCached.Ok (B : Nat) (x : XCached) : Prop := x.site.length ≤ B ∧ x.path.length ≤ B ∧ x.resp.Ok B
theorem XCached.of {B : Nat} : ∀ r : List PV, HasL t_Cached r → szL r ≤ B → ∃ x : XCached, r = x.e ∧ x.Ok B := fun r h hz => by
 obtain ⟨p0, r1, rfl, g0, k1⟩ := HasL_cons h
 obtain ⟨p1, r2, rfl, g1, k2⟩ := HasL_cons k1
 obtain ⟨p2, r3, rfl, g2, k3⟩ := HasL_cons k2
 obtain ⟨p3, r4, rfl, g3, k4⟩ := HasL_cons k3
 obtain ⟨p4, r5, rfl, g4, k5⟩ := HasL_cons k4
 obtain ⟨p5, r6, rfl, g5, k6⟩ := HasL_cons k5
 obtain ⟨p6, r7, rfl, g6, k7⟩ := HasL_cons k6
 obtain rfl := HasL_nil k7
 have z0 := Nat.le_trans (szL_at (i := 0) rfl) hz
 obtain ⟨c0, rfl⟩ := Has_str g0
 rw [sz_str0] at z0
 have z1 := Nat.le_trans (szL_at (i := 1) rfl) hz
 obtain ⟨c1, rfl⟩ := Has_str g1
 rw [sz_str0] at z1
 obtain ⟨c2, rfl⟩ := Has_int g2
 obtain ⟨c3, rfl⟩ := Has_int g3
 obtain ⟨c4, rfl⟩ := Has_int g4
 have z5 := Nat.le_trans (szL_at (i := 5) rfl) hz
 obtain ⟨c5, rfl⟩ := Has_lst g5
 obtain ⟨b5, rfl⟩ := b1x_of (Has_rows g5).2
 rw [sz_lst, b1x_len] at z5
 have y5 : b5.length ≤ B := by omega
 obtain ⟨c6, rfl⟩ := Has_bool g6
 exact ⟨⟨c0, c1, ⟨c2, c3, c4, b5, c6⟩⟩, rfl, ⟨z0, z1, ⟨inI_of g2, inI_of g3, inI_of g4, y5⟩⟩⟩
structure XCache where
 version : Int
 entries : List XCached
def XCache.e (x : XCache) : List PV := [.int .i64 x.version, .lst (x.entries.map XCached.e)]
theorem XCache_e (x : XCache) : x.e = [.int .i64 x.version, .lst (x.entries.map XCached.e)] := rfl
def XCache.Ok (B : Nat) (x : XCache) : Prop := inI x.version ∧ (x.entries.length ≤ B ∧ ∀ y ∈ x.entries, y.Ok B)
theorem XCache.of {B : Nat} : ∀ r : List PV, HasL t_Cache r → szL r ≤ B → ∃ x : XCache, r = x.e ∧ x.Ok B := fun r h hz => by
 obtain ⟨p0, r1, rfl, g0, k1⟩ := HasL_cons h
 obtain ⟨p1, r2, rfl, g1, k2⟩ := HasL_cons k1
 obtain rfl := HasL_nil k2
 obtain ⟨c0, rfl⟩ := Has_int g0
 have z1 := Nat.le_trans (szL_at (i := 1) rfl) hz
 obtain ⟨c1, rfl⟩ := Has_lst g1
 obtain ⟨l1, rfl, y1⟩ := ofL XCached.of (Has_rows g1).2 z1
 exact ⟨⟨c0, l1⟩, rfl, ⟨inI_of g0, y1⟩⟩
structure XCacheSet where
 caches : List XCache
def XCacheSet.e (x : XCacheSet) : List PV := [.lst (x.caches.map XCache.e)]
theorem XCacheSet_e (x : XCacheSet) : x.e = [.lst (x.caches.map XCache.e)] := rfl
def XCacheSet.Ok (B : Nat) (x : XCacheSet) : Prop := (x.caches.length ≤ B ∧ ∀ y ∈ x.caches, y.Ok B)
theorem XCacheSet.of {B : Nat} : ∀ r : List PV, HasL t_CacheSet r → szL r ≤ B → ∃ x : XCacheSet, r = x.e ∧ x.Ok B := fun r h hz => by
 obtain ⟨p0, r1, rfl, g0, k1⟩ := HasL_cons h
 obtain rfl := HasL_nil k1
 have z0 := Nat.le_trans (szL_at (i := 0) rfl) hz
 obtain ⟨c0, rfl⟩ := Has_lst g0
 obtain ⟨l0, rfl, y0⟩ := ofL XCache.of (Has_rows g0).2 z0
 exact ⟨⟨l0⟩, rfl, y0⟩
structure XRegistration where
 site : List UInt8
 installing : Int
 waiting : Int
 active : Int
def XRegistration.e (x : XRegistration) : List PV := [.str x.site, .int .i64 x.installing, .int .i64 x.waiting, .int .i64 x.active]
theorem XRegistration_e (x : XRegistration) : x.e = [.str x.site, .int .i64 x.installing, .int .i64 x.waiting, .int .i64 x.active] := rfl
def XRegistration.Ok (B : Nat) (x : XRegistration) : Prop := x.site.length ≤ B ∧ inI x.installing ∧ inI x.waiting ∧ inI x.active
theorem XRegistration.of {B : Nat} : ∀ r : List PV, HasL t_Registration r → szL r ≤ B → ∃ x : XRegistration, r = x.e ∧ x.Ok B := fun r h hz => by
 obtain ⟨p0, r1, rfl, g0, k1⟩ := HasL_cons h
 obtain ⟨p1, r2, rfl, g1, k2⟩ := HasL_cons k1
 obtain ⟨p2, r3, rfl, g2, k3⟩ := HasL_cons k2
 obtain ⟨p3, r4, rfl, g3, k4⟩ := HasL_cons k3
 obtain rfl := HasL_nil k4
 have z0 := Nat.le_trans (szL_at (i := 0) rfl) hz
 obtain ⟨c0, rfl⟩ := Has_str g0
 rw [sz_str0] at z0
 obtain ⟨c1, rfl⟩ := Has_int g1
 obtain ⟨c2, rfl⟩ := Has_int g2
 obtain ⟨c3, rfl⟩ := Has_int g3
 exact ⟨⟨c0, c1, c2, c3⟩, rfl, ⟨z0, inI_of g1, inI_of g2, inI_of g3⟩⟩
structure XLoaded where
 path : List UInt8
 version : Int
def XLoaded.e (x : XLoaded) : List PV := [.str x.path, .int .i64 x.version]
theorem XLoaded_e (x : XLoaded) : x.e = [.str x.path, .int .i64 x.version] := rfl
def XLoaded.Ok (B : Nat) (x : XLoaded) : Prop := x.path.length ≤ B ∧ inI x.version
theorem XLoaded.of {B : Nat} : ∀ r : List PV, HasL t_Loaded r → szL r ≤ B → ∃ x : XLoaded, r = x.e ∧ x.Ok B := fun r h hz => by
 obtain ⟨p0, r1, rfl, g0, k1⟩ := HasL_cons h
 obtain ⟨p1, r2, rfl, g1, k2⟩ := HasL_cons k1
 obtain rfl := HasL_nil k2
 have z0 := Nat.le_trans (szL_at (i := 0) rfl) hz
 obtain ⟨c0, rfl⟩ := Has_str g0
 rw [sz_str0] at z0
 obtain ⟨c1, rfl⟩ := Has_int g1
 exact ⟨⟨c0, c1⟩, rfl, ⟨z0, inI_of g1⟩⟩
structure XInstr where
 kind : Int
 r : Int
 n : Int
 text : List UInt8
def XInstr.e (x : XInstr) : List PV := [.int .i64 x.kind, .int .i64 x.r, .int .i64 x.n, .str x.text]
theorem XInstr_e (x : XInstr) : x.e = [.int .i64 x.kind, .int .i64 x.r, .int .i64 x.n, .str x.text] := rfl
def XInstr.Ok (B : Nat) (x : XInstr) : Prop := inI x.kind ∧ inI x.r ∧ inI x.n ∧ x.text.length ≤ B
theorem XInstr.of {B : Nat} : ∀ r : List PV, HasL t_Instr r → szL r ≤ B → ∃ x : XInstr, r = x.e ∧ x.Ok B := fun r h hz => by
 obtain ⟨p0, r1, rfl, g0, k1⟩ := HasL_cons h
 obtain ⟨p1, r2, rfl, g1, k2⟩ := HasL_cons k1
 obtain ⟨p2, r3, rfl, g2, k3⟩ := HasL_cons k2
 obtain ⟨p3, r4, rfl, g3, k4⟩ := HasL_cons k3
 obtain rfl := HasL_nil k4
 obtain ⟨c0, rfl⟩ := Has_int g0
 obtain ⟨c1, rfl⟩ := Has_int g1
 obtain ⟨c2, rfl⟩ := Has_int g2
 have z3 := Nat.le_trans (szL_at (i := 3) rfl) hz
 obtain ⟨c3, rfl⟩ := Has_str g3
 rw [sz_str0] at z3
 exact ⟨⟨c0, c1, c2, c3⟩, rfl, ⟨inI_of g0, inI_of g1, inI_of g2, z3⟩⟩
structure XMachine where
 script : List XInstr
 pc : Int
 regs : List Int
 steps : Int
 done : Bool
 wait : Bool
def XMachine.e (x : XMachine) : List PV := [.lst (x.script.map XInstr.e), .int .i64 x.pc, .lst (x.regs.map i1x), .int .i64 x.steps, .bool x.done, .bool x.wait]
theorem XMachine_e (x : XMachine) : x.e = [.lst (x.script.map XInstr.e), .int .i64 x.pc, .lst (x.regs.map i1x), .int .i64 x.steps, .bool x.done, .bool x.wait] := rfl
def XMachine.Ok (B : Nat) (x : XMachine) : Prop := (x.script.length ≤ B ∧ ∀ y ∈ x.script, y.Ok B) ∧ inI x.pc ∧ (x.regs.length ≤ B ∧ ∀ y ∈ x.regs, inI y) ∧ inI x.steps
theorem XMachine.of {B : Nat} : ∀ r : List PV, HasL t_Machine r → szL r ≤ B → ∃ x : XMachine, r = x.e ∧ x.Ok B := fun r h hz => by
 obtain ⟨p0, r1, rfl, g0, k1⟩ := HasL_cons h
 obtain ⟨p1, r2, rfl, g1, k2⟩ := HasL_cons k1
 obtain ⟨p2, r3, rfl, g2, k3⟩ := HasL_cons k2
 obtain ⟨p3, r4, rfl, g3, k4⟩ := HasL_cons k3
 obtain ⟨p4, r5, rfl, g4, k5⟩ := HasL_cons k4
 obtain ⟨p5, r6, rfl, g5, k6⟩ := HasL_cons k5
 obtain rfl := HasL_nil k6
 have z0 := Nat.le_trans (szL_at (i := 0) rfl) hz
 obtain ⟨c0, rfl⟩ := Has_lst g0
 obtain ⟨l0, rfl, y0⟩ := ofL XInstr.of (Has_rows g0).2 z0
 obtain ⟨c1, rfl⟩ := Has_int g1
 have z2 := Nat.le_trans (szL_at (i := 2) rfl) hz
 obtain ⟨c2, rfl⟩ := Has_lst g2
 obtain ⟨l2, rfl, y2⟩ := ofL i1x_of (Has_rows g2).2 z2
 obtain ⟨c3, rfl⟩ := Has_int g3
 obtain ⟨c4, rfl⟩ := Has_bool g4
 obtain ⟨c5, rfl⟩ := Has_bool g5
 exact ⟨⟨l0, c1, l2, c3, c4, c5⟩, rfl, ⟨y0, inI_of g1, y2, inI_of g3⟩⟩
structure XPage where
 id : Int
 site : List UInt8
 top : List UInt8
 version : Int
 loaded : List XLoaded
 machine : XMachine
def XPage.e (x : XPage) : List PV := [.int .i64 x.id, .str x.site, .str x.top, .int .i64 x.version, .lst (x.loaded.map XLoaded.e), .lst (x.machine.script.map XInstr.e), .int .i64 x.machine.pc, .lst (x.machine.regs.map i1x), .int .i64 x.machine.steps, .bool x.machine.done, .bool x.machine.wait]
theorem XPage_e (x : XPage) : x.e = [.int .i64 x.id, .str x.site, .str x.top, .int .i64 x.version, .lst (x.loaded.map XLoaded.e), .lst (x.machine.script.map XInstr.e), .int .i64 x.machine.pc, .lst (x.machine.regs.map i1x), .int .i64 x.machine.steps, .bool x.machine.done, .bool x.machine.wait] := rfl
def XPage.Ok (B : Nat) (x : XPage) : Prop := inI x.id ∧ x.site.length ≤ B ∧ x.top.length ≤ B ∧ inI x.version ∧ (x.loaded.length ≤ B ∧ ∀ y ∈ x.loaded, y.Ok B) ∧ x.machine.Ok B
theorem XPage.of {B : Nat} : ∀ r : List PV, HasL t_Page r → szL r ≤ B → ∃ x : XPage, r = x.e ∧ x.Ok B := fun r h hz => by
 obtain ⟨p0, r1, rfl, g0, k1⟩ := HasL_cons h
 obtain ⟨p1, r2, rfl, g1, k2⟩ := HasL_cons k1
 obtain ⟨p2, r3, rfl, g2, k3⟩ := HasL_cons k2
 obtain ⟨p3, r4, rfl, g3, k4⟩ := HasL_cons k3
 obtain ⟨p4, r5, rfl, g4, k5⟩ := HasL_cons k4
 obtain ⟨p5, r6, rfl, g5, k6⟩ := HasL_cons k5
 obtain ⟨p6, r7, rfl, g6, k7⟩ := HasL_cons k6
 obtain ⟨p7, r8, rfl, g7, k8⟩ := HasL_cons k7
 obtain ⟨p8, r9, rfl, g8, k9⟩ := HasL_cons k8
 obtain ⟨p9, r10, rfl, g9, k10⟩ := HasL_cons k9
 obtain ⟨p10, r11, rfl, g10, k11⟩ := HasL_cons k10
 obtain rfl := HasL_nil k11
 obtain ⟨c0, rfl⟩ := Has_int g0
 have z1 := Nat.le_trans (szL_at (i := 1) rfl) hz
 obtain ⟨c1, rfl⟩ := Has_str g1
 rw [sz_str0] at z1
 have z2 := Nat.le_trans (szL_at (i := 2) rfl) hz
 obtain ⟨c2, rfl⟩ := Has_str g2
 rw [sz_str0] at z2
 obtain ⟨c3, rfl⟩ := Has_int g3
 have z4 := Nat.le_trans (szL_at (i := 4) rfl) hz
 obtain ⟨c4, rfl⟩ := Has_lst g4
 obtain ⟨l4, rfl, y4⟩ := ofL XLoaded.of (Has_rows g4).2 z4
 have z5 := Nat.le_trans (szL_at (i := 5) rfl) hz
 obtain ⟨c5, rfl⟩ := Has_lst g5
 obtain ⟨l5, rfl, y5⟩ := ofL XInstr.of (Has_rows g5).2 z5
 obtain ⟨c6, rfl⟩ := Has_int g6
 have z7 := Nat.le_trans (szL_at (i := 7) rfl) hz
 obtain ⟨c7, rfl⟩ := Has_lst g7
 obtain ⟨l7, rfl, y7⟩ := ofL i1x_of (Has_rows g7).2 z7
 obtain ⟨c8, rfl⟩ := Has_int g8
 obtain ⟨c9, rfl⟩ := Has_bool g9
 obtain ⟨c10, rfl⟩ := Has_bool g10
 exact ⟨⟨c0, c1, c2, c3, l4, ⟨l5, c6, l7, c8, c9, c10⟩⟩, rfl, ⟨inI_of g0, z1, z2, inI_of g3, y4, ⟨y5, inI_of g6, y7, inI_of g8⟩⟩⟩
structure XIndexDef where
 store : List UInt8
 field : List UInt8
def XIndexDef.e (x : XIndexDef) : List PV := [.str x.store, .str x.field]
theorem XIndexDef_e (x : XIndexDef) : x.e = [.str x.store, .str x.field] := rfl
def XIndexDef.Ok (B : Nat) (x : XIndexDef) : Prop := x.store.length ≤ B ∧ x.field.length ≤ B
theorem XIndexDef.of {B : Nat} : ∀ r : List PV, HasL t_IndexDef r → szL r ≤ B → ∃ x : XIndexDef, r = x.e ∧ x.Ok B := fun r h hz => by
 obtain ⟨p0, r1, rfl, g0, k1⟩ := HasL_cons h
 obtain ⟨p1, r2, rfl, g1, k2⟩ := HasL_cons k1
 obtain rfl := HasL_nil k2
 have z0 := Nat.le_trans (szL_at (i := 0) rfl) hz
 obtain ⟨c0, rfl⟩ := Has_str g0
 rw [sz_str0] at z0
 have z1 := Nat.le_trans (szL_at (i := 1) rfl) hz
 obtain ⟨c1, rfl⟩ := Has_str g1
 rw [sz_str0] at z1
 exact ⟨⟨c0, c1⟩, rfl, ⟨z0, z1⟩⟩
structure XDatabase where
 name : List UInt8
 version : Int
 stores : List XStore
 unique : List XIndexDef
def XDatabase.e (x : XDatabase) : List PV := [.str x.name, .int .i64 x.version, .lst (x.stores.map XStore.e), .lst (x.unique.map XIndexDef.e)]
theorem XDatabase_e (x : XDatabase) : x.e = [.str x.name, .int .i64 x.version, .lst (x.stores.map XStore.e), .lst (x.unique.map XIndexDef.e)] := rfl
def XDatabase.Ok (B : Nat) (x : XDatabase) : Prop := x.name.length ≤ B ∧ inI x.version ∧ (x.stores.length ≤ B ∧ ∀ y ∈ x.stores, y.Ok B) ∧ (x.unique.length ≤ B ∧ ∀ y ∈ x.unique, y.Ok B)
theorem XDatabase.of {B : Nat} : ∀ r : List PV, HasL t_Database r → szL r ≤ B → ∃ x : XDatabase, r = x.e ∧ x.Ok B := fun r h hz => by
 obtain ⟨p0, r1, rfl, g0, k1⟩ := HasL_cons h
 obtain ⟨p1, r2, rfl, g1, k2⟩ := HasL_cons k1
 obtain ⟨p2, r3, rfl, g2, k3⟩ := HasL_cons k2
 obtain ⟨p3, r4, rfl, g3, k4⟩ := HasL_cons k3
 obtain rfl := HasL_nil k4
 have z0 := Nat.le_trans (szL_at (i := 0) rfl) hz
 obtain ⟨c0, rfl⟩ := Has_str g0
 rw [sz_str0] at z0
 obtain ⟨c1, rfl⟩ := Has_int g1
 have z2 := Nat.le_trans (szL_at (i := 2) rfl) hz
 obtain ⟨c2, rfl⟩ := Has_lst g2
 obtain ⟨l2, rfl, y2⟩ := ofL XStore.of (Has_rows g2).2 z2
 have z3 := Nat.le_trans (szL_at (i := 3) rfl) hz
 obtain ⟨c3, rfl⟩ := Has_lst g3
 obtain ⟨l3, rfl, y3⟩ := ofL XIndexDef.of (Has_rows g3).2 z3
 exact ⟨⟨c0, c1, l2, l3⟩, rfl, ⟨z0, inI_of g1, y2, y3⟩⟩
structure XDisk where
 base : XDatabase
 log : List UInt8
 count : Int
def XDisk.e (x : XDisk) : List PV := [.str x.base.name, .int .i64 x.base.version, .lst (x.base.stores.map XStore.e), .lst (x.base.unique.map XIndexDef.e), .lst (ofBytes x.log), .int .i64 x.count]
theorem XDisk_e (x : XDisk) : x.e = [.str x.base.name, .int .i64 x.base.version, .lst (x.base.stores.map XStore.e), .lst (x.base.unique.map XIndexDef.e), .lst (ofBytes x.log), .int .i64 x.count] := rfl
def XDisk.Ok (B : Nat) (x : XDisk) : Prop := x.base.Ok B ∧ x.log.length ≤ B ∧ inI x.count
theorem XDisk.of {B : Nat} : ∀ r : List PV, HasL t_Disk r → szL r ≤ B → ∃ x : XDisk, r = x.e ∧ x.Ok B := fun r h hz => by
 obtain ⟨p0, r1, rfl, g0, k1⟩ := HasL_cons h
 obtain ⟨p1, r2, rfl, g1, k2⟩ := HasL_cons k1
 obtain ⟨p2, r3, rfl, g2, k3⟩ := HasL_cons k2
 obtain ⟨p3, r4, rfl, g3, k4⟩ := HasL_cons k3
 obtain ⟨p4, r5, rfl, g4, k5⟩ := HasL_cons k4
 obtain ⟨p5, r6, rfl, g5, k6⟩ := HasL_cons k5
 obtain rfl := HasL_nil k6
 have z0 := Nat.le_trans (szL_at (i := 0) rfl) hz
 obtain ⟨c0, rfl⟩ := Has_str g0
 rw [sz_str0] at z0
 obtain ⟨c1, rfl⟩ := Has_int g1
 have z2 := Nat.le_trans (szL_at (i := 2) rfl) hz
 obtain ⟨c2, rfl⟩ := Has_lst g2
 obtain ⟨l2, rfl, y2⟩ := ofL XStore.of (Has_rows g2).2 z2
 have z3 := Nat.le_trans (szL_at (i := 3) rfl) hz
 obtain ⟨c3, rfl⟩ := Has_lst g3
 obtain ⟨l3, rfl, y3⟩ := ofL XIndexDef.of (Has_rows g3).2 z3
 have z4 := Nat.le_trans (szL_at (i := 4) rfl) hz
 obtain ⟨c4, rfl⟩ := Has_lst g4
 obtain ⟨b4, rfl⟩ := b1x_of (Has_rows g4).2
 rw [sz_lst, b1x_len] at z4
 have y4 : b4.length ≤ B := by omega
 obtain ⟨c5, rfl⟩ := Has_int g5
 exact ⟨⟨⟨c0, c1, l2, l3⟩, b4, c5⟩, rfl, ⟨⟨z0, inI_of g1, y2, y3⟩, y4, inI_of g5⟩⟩
structure XBucket where
 site : List UInt8
 top : List UInt8
 reg : XRegistration
 caches : XCacheSet
 disk : XDisk
 replica : XReplica
 lastUsed : Int
 persistent : Bool
def XBucket.e (x : XBucket) : List PV := [.str x.site, .str x.top, .str x.reg.site, .int .i64 x.reg.installing, .int .i64 x.reg.waiting, .int .i64 x.reg.active, .lst (x.caches.caches.map XCache.e), .str x.disk.base.name, .int .i64 x.disk.base.version, .lst (x.disk.base.stores.map XStore.e), .lst (x.disk.base.unique.map XIndexDef.e), .lst (ofBytes x.disk.log), .int .i64 x.disk.count, .str x.replica.base.name, .lst (x.replica.base.items.map XItem.e), .int .i64 x.replica.base.auto, .int .i64 x.replica.seen, .int .i64 x.replica.sync.outbox.dev, .int .i64 x.replica.sync.outbox.next, .lst (x.replica.sync.outbox.writes.map XWrite.e), .int .i64 x.replica.sync.tries, .int .i64 x.replica.sync.wait, .int .i64 x.lastUsed, .bool x.persistent]
theorem XBucket_e (x : XBucket) : x.e = [.str x.site, .str x.top, .str x.reg.site, .int .i64 x.reg.installing, .int .i64 x.reg.waiting, .int .i64 x.reg.active, .lst (x.caches.caches.map XCache.e), .str x.disk.base.name, .int .i64 x.disk.base.version, .lst (x.disk.base.stores.map XStore.e), .lst (x.disk.base.unique.map XIndexDef.e), .lst (ofBytes x.disk.log), .int .i64 x.disk.count, .str x.replica.base.name, .lst (x.replica.base.items.map XItem.e), .int .i64 x.replica.base.auto, .int .i64 x.replica.seen, .int .i64 x.replica.sync.outbox.dev, .int .i64 x.replica.sync.outbox.next, .lst (x.replica.sync.outbox.writes.map XWrite.e), .int .i64 x.replica.sync.tries, .int .i64 x.replica.sync.wait, .int .i64 x.lastUsed, .bool x.persistent] := rfl
def XBucket.Ok (B : Nat) (x : XBucket) : Prop := x.site.length ≤ B ∧ x.top.length ≤ B ∧ x.reg.Ok B ∧ x.caches.Ok B ∧ x.disk.Ok B ∧ x.replica.Ok B ∧ inI x.lastUsed
theorem XBucket.of {B : Nat} : ∀ r : List PV, HasL t_Bucket r → szL r ≤ B → ∃ x : XBucket, r = x.e ∧ x.Ok B := fun r h hz => by
 obtain ⟨p0, r1, rfl, g0, k1⟩ := HasL_cons h
 obtain ⟨p1, r2, rfl, g1, k2⟩ := HasL_cons k1
 obtain ⟨p2, r3, rfl, g2, k3⟩ := HasL_cons k2
 obtain ⟨p3, r4, rfl, g3, k4⟩ := HasL_cons k3
 obtain ⟨p4, r5, rfl, g4, k5⟩ := HasL_cons k4
 obtain ⟨p5, r6, rfl, g5, k6⟩ := HasL_cons k5
 obtain ⟨p6, r7, rfl, g6, k7⟩ := HasL_cons k6
 obtain ⟨p7, r8, rfl, g7, k8⟩ := HasL_cons k7
 obtain ⟨p8, r9, rfl, g8, k9⟩ := HasL_cons k8
 obtain ⟨p9, r10, rfl, g9, k10⟩ := HasL_cons k9
 obtain ⟨p10, r11, rfl, g10, k11⟩ := HasL_cons k10
 obtain ⟨p11, r12, rfl, g11, k12⟩ := HasL_cons k11
 obtain ⟨p12, r13, rfl, g12, k13⟩ := HasL_cons k12
 obtain ⟨p13, r14, rfl, g13, k14⟩ := HasL_cons k13
 obtain ⟨p14, r15, rfl, g14, k15⟩ := HasL_cons k14
 obtain ⟨p15, r16, rfl, g15, k16⟩ := HasL_cons k15
 obtain ⟨p16, r17, rfl, g16, k17⟩ := HasL_cons k16
 obtain ⟨p17, r18, rfl, g17, k18⟩ := HasL_cons k17
 obtain ⟨p18, r19, rfl, g18, k19⟩ := HasL_cons k18
 obtain ⟨p19, r20, rfl, g19, k20⟩ := HasL_cons k19
 obtain ⟨p20, r21, rfl, g20, k21⟩ := HasL_cons k20
 obtain ⟨p21, r22, rfl, g21, k22⟩ := HasL_cons k21
 obtain ⟨p22, r23, rfl, g22, k23⟩ := HasL_cons k22
 obtain ⟨p23, r24, rfl, g23, k24⟩ := HasL_cons k23
 obtain rfl := HasL_nil k24
 have z0 := Nat.le_trans (szL_at (i := 0) rfl) hz
 obtain ⟨c0, rfl⟩ := Has_str g0
 rw [sz_str0] at z0
 have z1 := Nat.le_trans (szL_at (i := 1) rfl) hz
 obtain ⟨c1, rfl⟩ := Has_str g1
 rw [sz_str0] at z1
 have z2 := Nat.le_trans (szL_at (i := 2) rfl) hz
 obtain ⟨c2, rfl⟩ := Has_str g2
 rw [sz_str0] at z2
 obtain ⟨c3, rfl⟩ := Has_int g3
 obtain ⟨c4, rfl⟩ := Has_int g4
 obtain ⟨c5, rfl⟩ := Has_int g5
 have z6 := Nat.le_trans (szL_at (i := 6) rfl) hz
 obtain ⟨c6, rfl⟩ := Has_lst g6
 obtain ⟨l6, rfl, y6⟩ := ofL XCache.of (Has_rows g6).2 z6
 have z7 := Nat.le_trans (szL_at (i := 7) rfl) hz
 obtain ⟨c7, rfl⟩ := Has_str g7
 rw [sz_str0] at z7
 obtain ⟨c8, rfl⟩ := Has_int g8
 have z9 := Nat.le_trans (szL_at (i := 9) rfl) hz
 obtain ⟨c9, rfl⟩ := Has_lst g9
 obtain ⟨l9, rfl, y9⟩ := ofL XStore.of (Has_rows g9).2 z9
 have z10 := Nat.le_trans (szL_at (i := 10) rfl) hz
 obtain ⟨c10, rfl⟩ := Has_lst g10
 obtain ⟨l10, rfl, y10⟩ := ofL XIndexDef.of (Has_rows g10).2 z10
 have z11 := Nat.le_trans (szL_at (i := 11) rfl) hz
 obtain ⟨c11, rfl⟩ := Has_lst g11
 obtain ⟨b11, rfl⟩ := b1x_of (Has_rows g11).2
 rw [sz_lst, b1x_len] at z11
 have y11 : b11.length ≤ B := by omega
 obtain ⟨c12, rfl⟩ := Has_int g12
 have z13 := Nat.le_trans (szL_at (i := 13) rfl) hz
 obtain ⟨c13, rfl⟩ := Has_str g13
 rw [sz_str0] at z13
 have z14 := Nat.le_trans (szL_at (i := 14) rfl) hz
 obtain ⟨c14, rfl⟩ := Has_lst g14
 obtain ⟨l14, rfl, y14⟩ := ofL XItem.of (Has_rows g14).2 z14
 obtain ⟨c15, rfl⟩ := Has_int g15
 obtain ⟨c16, rfl⟩ := Has_int g16
 obtain ⟨c17, rfl⟩ := Has_int g17
 obtain ⟨c18, rfl⟩ := Has_int g18
 have z19 := Nat.le_trans (szL_at (i := 19) rfl) hz
 obtain ⟨c19, rfl⟩ := Has_lst g19
 obtain ⟨l19, rfl, y19⟩ := ofL XWrite.of (Has_rows g19).2 z19
 obtain ⟨c20, rfl⟩ := Has_int g20
 obtain ⟨c21, rfl⟩ := Has_int g21
 obtain ⟨c22, rfl⟩ := Has_int g22
 obtain ⟨c23, rfl⟩ := Has_bool g23
 exact ⟨⟨c0, c1, ⟨c2, c3, c4, c5⟩, ⟨l6⟩, ⟨⟨c7, c8, l9, l10⟩, b11, c12⟩, ⟨⟨c13, l14, c15⟩, c16, ⟨⟨c17, c18, l19⟩, c20, c21⟩⟩, c22, c23⟩, rfl, ⟨z0, z1, ⟨z2, inI_of g3, inI_of g4, inI_of g5⟩, y6, ⟨⟨z7, inI_of g8, y9, y10⟩, y11, inI_of g12⟩, ⟨⟨z13, y14, inI_of g15⟩, inI_of g16, ⟨⟨inI_of g17, inI_of g18, y19⟩, inI_of g20, inI_of g21⟩⟩, inI_of g22⟩⟩
structure XStorage where
 buckets : List XBucket
def XStorage.e (x : XStorage) : List PV := [.lst (x.buckets.map XBucket.e)]
theorem XStorage_e (x : XStorage) : x.e = [.lst (x.buckets.map XBucket.e)] := rfl
def XStorage.Ok (B : Nat) (x : XStorage) : Prop := (x.buckets.length ≤ B ∧ ∀ y ∈ x.buckets, y.Ok B)
theorem XStorage.of {B : Nat} : ∀ r : List PV, HasL t_Storage r → szL r ≤ B → ∃ x : XStorage, r = x.e ∧ x.Ok B := fun r h hz => by
 obtain ⟨p0, r1, rfl, g0, k1⟩ := HasL_cons h
 obtain rfl := HasL_nil k1
 have z0 := Nat.le_trans (szL_at (i := 0) rfl) hz
 obtain ⟨c0, rfl⟩ := Has_lst g0
 obtain ⟨l0, rfl, y0⟩ := ofL XBucket.of (Has_rows g0).2 z0
 exact ⟨⟨l0⟩, rfl, y0⟩
structure XLock where
 name : List UInt8
 page : Int
 shared : Bool
 held : Bool
def XLock.e (x : XLock) : List PV := [.str x.name, .int .i64 x.page, .bool x.shared, .bool x.held]
theorem XLock_e (x : XLock) : x.e = [.str x.name, .int .i64 x.page, .bool x.shared, .bool x.held] := rfl
def XLock.Ok (B : Nat) (x : XLock) : Prop := x.name.length ≤ B ∧ inI x.page
theorem XLock.of {B : Nat} : ∀ r : List PV, HasL t_Lock r → szL r ≤ B → ∃ x : XLock, r = x.e ∧ x.Ok B := fun r h hz => by
 obtain ⟨p0, r1, rfl, g0, k1⟩ := HasL_cons h
 obtain ⟨p1, r2, rfl, g1, k2⟩ := HasL_cons k1
 obtain ⟨p2, r3, rfl, g2, k3⟩ := HasL_cons k2
 obtain ⟨p3, r4, rfl, g3, k4⟩ := HasL_cons k3
 obtain rfl := HasL_nil k4
 have z0 := Nat.le_trans (szL_at (i := 0) rfl) hz
 obtain ⟨c0, rfl⟩ := Has_str g0
 rw [sz_str0] at z0
 obtain ⟨c1, rfl⟩ := Has_int g1
 obtain ⟨c2, rfl⟩ := Has_bool g2
 obtain ⟨c3, rfl⟩ := Has_bool g3
 exact ⟨⟨c0, c1, c2, c3⟩, rfl, ⟨z0, inI_of g1⟩⟩
structure XLockTable where
 locks : List XLock
def XLockTable.e (x : XLockTable) : List PV := [.lst (x.locks.map XLock.e)]
theorem XLockTable_e (x : XLockTable) : x.e = [.lst (x.locks.map XLock.e)] := rfl
def XLockTable.Ok (B : Nat) (x : XLockTable) : Prop := (x.locks.length ≤ B ∧ ∀ y ∈ x.locks, y.Ok B)
theorem XLockTable.of {B : Nat} : ∀ r : List PV, HasL t_LockTable r → szL r ≤ B → ∃ x : XLockTable, r = x.e ∧ x.Ok B := fun r h hz => by
 obtain ⟨p0, r1, rfl, g0, k1⟩ := HasL_cons h
 obtain rfl := HasL_nil k1
 have z0 := Nat.le_trans (szL_at (i := 0) rfl) hz
 obtain ⟨c0, rfl⟩ := Has_lst g0
 obtain ⟨l0, rfl, y0⟩ := ofL XLock.of (Has_rows g0).2 z0
 exact ⟨⟨l0⟩, rfl, y0⟩
structure XMail where
 to : Int
 sender : Int
 n : Int
def XMail.e (x : XMail) : List PV := [.int .i64 x.to, .int .i64 x.sender, .int .i64 x.n]
theorem XMail_e (x : XMail) : x.e = [.int .i64 x.to, .int .i64 x.sender, .int .i64 x.n] := rfl
def XMail.Ok (B : Nat) (x : XMail) : Prop := inI x.to ∧ inI x.sender ∧ inI x.n
theorem XMail.of {B : Nat} : ∀ r : List PV, HasL t_Mail r → szL r ≤ B → ∃ x : XMail, r = x.e ∧ x.Ok B := fun r h hz => by
 obtain ⟨p0, r1, rfl, g0, k1⟩ := HasL_cons h
 obtain ⟨p1, r2, rfl, g1, k2⟩ := HasL_cons k1
 obtain ⟨p2, r3, rfl, g2, k3⟩ := HasL_cons k2
 obtain rfl := HasL_nil k3
 obtain ⟨c0, rfl⟩ := Has_int g0
 obtain ⟨c1, rfl⟩ := Has_int g1
 obtain ⟨c2, rfl⟩ := Has_int g2
 exact ⟨⟨c0, c1, c2⟩, rfl, ⟨inI_of g0, inI_of g1, inI_of g2⟩⟩
structure XChannel where
 mails : List XMail
def XChannel.e (x : XChannel) : List PV := [.lst (x.mails.map XMail.e)]
theorem XChannel_e (x : XChannel) : x.e = [.lst (x.mails.map XMail.e)] := rfl
def XChannel.Ok (B : Nat) (x : XChannel) : Prop := (x.mails.length ≤ B ∧ ∀ y ∈ x.mails, y.Ok B)
theorem XChannel.of {B : Nat} : ∀ r : List PV, HasL t_Channel r → szL r ≤ B → ∃ x : XChannel, r = x.e ∧ x.Ok B := fun r h hz => by
 obtain ⟨p0, r1, rfl, g0, k1⟩ := HasL_cons h
 obtain rfl := HasL_nil k1
 have z0 := Nat.le_trans (szL_at (i := 0) rfl) hz
 obtain ⟨c0, rfl⟩ := Has_lst g0
 obtain ⟨l0, rfl, y0⟩ := ofL XMail.of (Has_rows g0).2 z0
 exact ⟨⟨l0⟩, rfl, y0⟩
structure XSite where
 name : List UInt8
 version : Int
 files : List (List UInt8)
 shared : Bool
def XSite.e (x : XSite) : List PV := [.str x.name, .int .i64 x.version, .lst (x.files.map s1x), .bool x.shared]
theorem XSite_e (x : XSite) : x.e = [.str x.name, .int .i64 x.version, .lst (x.files.map s1x), .bool x.shared] := rfl
def XSite.Ok (B : Nat) (x : XSite) : Prop := x.name.length ≤ B ∧ inI x.version ∧ (x.files.length ≤ B ∧ ∀ y ∈ x.files, y.length ≤ B)
theorem XSite.of {B : Nat} : ∀ r : List PV, HasL t_Site r → szL r ≤ B → ∃ x : XSite, r = x.e ∧ x.Ok B := fun r h hz => by
 obtain ⟨p0, r1, rfl, g0, k1⟩ := HasL_cons h
 obtain ⟨p1, r2, rfl, g1, k2⟩ := HasL_cons k1
 obtain ⟨p2, r3, rfl, g2, k3⟩ := HasL_cons k2
 obtain ⟨p3, r4, rfl, g3, k4⟩ := HasL_cons k3
 obtain rfl := HasL_nil k4
 have z0 := Nat.le_trans (szL_at (i := 0) rfl) hz
 obtain ⟨c0, rfl⟩ := Has_str g0
 rw [sz_str0] at z0
 obtain ⟨c1, rfl⟩ := Has_int g1
 have z2 := Nat.le_trans (szL_at (i := 2) rfl) hz
 obtain ⟨c2, rfl⟩ := Has_lst g2
 obtain ⟨l2, rfl, y2⟩ := ofL s1x_of (Has_rows g2).2 z2
 obtain ⟨c3, rfl⟩ := Has_bool g3
 exact ⟨⟨c0, c1, l2, c3⟩, rfl, ⟨z0, inI_of g1, y2⟩⟩
structure XWorld where
 now : Int
 online : Bool
 device : Int
 storage : XStorage
 pages : List XPage
 nextPage : Int
 locks : XLockTable
 channel : XChannel
 sites : List XSite
 servers : List XServer
def XWorld.e (x : XWorld) : List PV := [.int .i64 x.now, .bool x.online, .int .i64 x.device, .lst (x.storage.buckets.map XBucket.e), .lst (x.pages.map XPage.e), .int .i64 x.nextPage, .lst (x.locks.locks.map XLock.e), .lst (x.channel.mails.map XMail.e), .lst (x.sites.map XSite.e), .lst (x.servers.map XServer.e)]
theorem XWorld_e (x : XWorld) : x.e = [.int .i64 x.now, .bool x.online, .int .i64 x.device, .lst (x.storage.buckets.map XBucket.e), .lst (x.pages.map XPage.e), .int .i64 x.nextPage, .lst (x.locks.locks.map XLock.e), .lst (x.channel.mails.map XMail.e), .lst (x.sites.map XSite.e), .lst (x.servers.map XServer.e)] := rfl
def XWorld.Ok (B : Nat) (x : XWorld) : Prop := inI x.now ∧ inI x.device ∧ x.storage.Ok B ∧ (x.pages.length ≤ B ∧ ∀ y ∈ x.pages, y.Ok B) ∧ inI x.nextPage ∧ x.locks.Ok B ∧ x.channel.Ok B ∧ (x.sites.length ≤ B ∧ ∀ y ∈ x.sites, y.Ok B) ∧ (x.servers.length ≤ B ∧ ∀ y ∈ x.servers, y.Ok B)
theorem XWorld.of {B : Nat} : ∀ r : List PV, HasL t_World r → szL r ≤ B → ∃ x : XWorld, r = x.e ∧ x.Ok B := fun r h hz => by
 obtain ⟨p0, r1, rfl, g0, k1⟩ := HasL_cons h
 obtain ⟨p1, r2, rfl, g1, k2⟩ := HasL_cons k1
 obtain ⟨p2, r3, rfl, g2, k3⟩ := HasL_cons k2
 obtain ⟨p3, r4, rfl, g3, k4⟩ := HasL_cons k3
 obtain ⟨p4, r5, rfl, g4, k5⟩ := HasL_cons k4
 obtain ⟨p5, r6, rfl, g5, k6⟩ := HasL_cons k5
 obtain ⟨p6, r7, rfl, g6, k7⟩ := HasL_cons k6
 obtain ⟨p7, r8, rfl, g7, k8⟩ := HasL_cons k7
 obtain ⟨p8, r9, rfl, g8, k9⟩ := HasL_cons k8
 obtain ⟨p9, r10, rfl, g9, k10⟩ := HasL_cons k9
 obtain rfl := HasL_nil k10
 obtain ⟨c0, rfl⟩ := Has_int g0
 obtain ⟨c1, rfl⟩ := Has_bool g1
 obtain ⟨c2, rfl⟩ := Has_int g2
 have z3 := Nat.le_trans (szL_at (i := 3) rfl) hz
 obtain ⟨c3, rfl⟩ := Has_lst g3
 obtain ⟨l3, rfl, y3⟩ := ofL XBucket.of (Has_rows g3).2 z3
 have z4 := Nat.le_trans (szL_at (i := 4) rfl) hz
 obtain ⟨c4, rfl⟩ := Has_lst g4
 obtain ⟨l4, rfl, y4⟩ := ofL XPage.of (Has_rows g4).2 z4
 obtain ⟨c5, rfl⟩ := Has_int g5
 have z6 := Nat.le_trans (szL_at (i := 6) rfl) hz
 obtain ⟨c6, rfl⟩ := Has_lst g6
 obtain ⟨l6, rfl, y6⟩ := ofL XLock.of (Has_rows g6).2 z6
 have z7 := Nat.le_trans (szL_at (i := 7) rfl) hz
 obtain ⟨c7, rfl⟩ := Has_lst g7
 obtain ⟨l7, rfl, y7⟩ := ofL XMail.of (Has_rows g7).2 z7
 have z8 := Nat.le_trans (szL_at (i := 8) rfl) hz
 obtain ⟨c8, rfl⟩ := Has_lst g8
 obtain ⟨l8, rfl, y8⟩ := ofL XSite.of (Has_rows g8).2 z8
 have z9 := Nat.le_trans (szL_at (i := 9) rfl) hz
 obtain ⟨c9, rfl⟩ := Has_lst g9
 obtain ⟨l9, rfl, y9⟩ := ofL XServer.of (Has_rows g9).2 z9
 exact ⟨⟨c0, c1, c2, ⟨l3⟩, l4, c5, ⟨l6⟩, ⟨l7⟩, l8, l9⟩, rfl, ⟨inI_of g0, inI_of g2, y3, y4, inI_of g5, y6, y7, y8, y9⟩⟩
end Gi
