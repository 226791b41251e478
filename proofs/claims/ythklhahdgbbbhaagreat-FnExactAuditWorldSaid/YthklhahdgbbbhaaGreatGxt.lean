/- Of this proof. -/
import Derived.Test.YthklhahdgbbbhaaGreatGtw
set_option linter.unusedVariables false
namespace Gi
open Go Go.RowKit
def nb (n : Int) : Prop := -9223372036854775808 ≤ n ∧ n ≤ 9223372036854775807
theorem bO {n : Int} (h : nb n) : (Lit.int .i64 n).wf = true := by
 unfold nb at h
 simp [Lit.wf, IntKind.min, IntKind.max, IntKind.signed, IntKind.bits]
 omega
theorem ck {n : Int} (h : bR (.int .i64) (.int .i64 n)) : nb n := by
 simp only [bR, Lit.wf, IntKind.min, IntKind.max, IntKind.signed, IntKind.bits] at h
 simp at h
 unfold nb
 omega
theorem Pk (n : Int) : nb (IntKind.i64.wrap n) := by
 rw [IntKind.wrap_i64]
 unfold nb
 omega
theorem PE {n : Int} (h : nb n) : IntKind.i64.wrap n = n := by
 unfold nb at h
 rw [IntKind.wrap_i64]
 omega
def Cm (n : Int) : List PV := [.int .i64 n]
def zn (s : List UInt8) : List PV := [.str s]
theorem ut {α : Type} {e : α → List PV} {ok : α → Prop} {ts : List PTy} {B : Nat} (f : ∀ r, be ts r → gO r ≤ B → ∃ x, r = e x ∧ ok x) : ∀ {rows : List (List PV)}, (∀ r ∈ rows, be ts r) → sz (.lst rows) ≤ B → ∃ xs : List α, rows = xs.map e ∧ (xs.length ≤ B ∧ ∀ x ∈ xs, ok x)
 | [], _, _ => ⟨[], rfl, by simp, by simp⟩
 | r :: rows, h, hz => by
  rw [jH] at hz
  simp only [ej, List.length_cons] at hz
  obtain ⟨x, rfl, hx⟩ := f r (h r (by simp)) (by omega)
  obtain ⟨xs, rfl, hl, ha⟩ := ut f (rows := rows) (fun r m => h r (by simp [m])) (by rw [jH]; omega)
  refine ⟨x :: xs, rfl, by simp at hz ⊢; omega, fun y hy => ?_⟩
  rcases List.mem_cons.1 hy with rfl | hy
  ·exact hx
  ·exact ha y hy
theorem bY {α : Type} {e : α → List PV} {ok : α → Prop} {ts : List PTy} (f : ∀ x, ok x → be ts (e x)) {xs : List α} {B : Nat} (hB : B ≤ maxLen) (h : xs.length ≤ B ∧ ∀ x ∈ xs, ok x) : bR (.lst ts) (.lst (xs.map e)) := by
 simp only [bR, List.length_map]
 refine ⟨by omega, fun r m => ?_⟩
 obtain ⟨x, hx, rfl⟩ := List.mem_map.1 m
 exact f x (h.2 x hx)
theorem L0 {B : Nat} : ∀ r, be qH r → gO r ≤ B → ∃ x, r = Cm x ∧ nb x := fun r h _ => by
 obtain ⟨⟨c0, _⟩, e, g0, _⟩ := cf h
 obtain rfl : r = [.int _ c0] := e
 exact ⟨c0, rfl, ck g0⟩
theorem Jp {x : Int} (h : nb x) : be qH (Cm x) := by
 simp only [qH, Cm, be, bR]
 exact ⟨⟨trivial, bO h⟩, trivial⟩
theorem OE {B : Nat} : ∀ r, be ir r → gO r ≤ B → ∃ x, r = zn x ∧ x.length ≤ B := fun r h hz => by
 obtain ⟨⟨c0, _⟩, e, g0, _⟩ := cf h
 obtain rfl : r = [.str c0] := e
 refine ⟨c0, rfl, ?_⟩
 simp only [gO, sz] at hz
 omega
theorem NN {B : Nat} (hB : B ≤ maxLen) {x : List UInt8} (h : x.length ≤ B) : be ir (zn x) := by
 simp only [ir, zn, be, bR]
 exact ⟨by omega, trivial⟩
theorem ER {rows : List (List PV)} (h : ∀ r ∈ rows, be jb r) : ∃ s : List UInt8, rows = aU s := by
 induction rows with
 | nil => exact ⟨[], rfl⟩
 | cons r rows ih =>
  obtain ⟨s, rfl⟩ := ih fun r m => h r (by simp [m])
  obtain ⟨⟨c0, _⟩, e, g0, _⟩ := cf (h r (by simp))
  obtain rfl : r = [.int _ c0] := e
  refine ⟨UInt8.ofNat c0.toNat :: s, ?_⟩
  simp only [bR, Lit.wf, IntKind.min, IntKind.max, IntKind.signed, IntKind.bits] at g0
  simp at g0
  simp only [aU, List.map_cons, List.cons.injEq, and_true, PV.int.injEq, true_and]
  simp
  omega
theorem rR (s : List UInt8) : (aU s).length = s.length := by simp [aU]
theorem A8 {s : List UInt8} {B : Nat} (hB : B ≤ maxLen) (h : s.length ≤ B) : bR (.lst jb) (.lst (aU s)) := by
 simp only [bR, rR]
 refine ⟨by omega, fun r m => ?_⟩
 simp only [aU, List.mem_map] at m
 obtain ⟨b, _, rfl⟩ := m
 simp only [jb, be, bR, Lit.wf, IntKind.min, IntKind.max, IntKind.signed, IntKind.bits]
 simp
 have := b.toNat_lt
 omega
structure XKey where
 kind : Int
 n : Int
 text : List UInt8
def XKey.e (x : XKey) : List PV := [.int .i64 x.kind, .int .i64 x.n, .str x.text]
def XKey.v (x : XKey) : V := .agg [.pv (.int .i64 x.kind), .pv (.int .i64 x.n), .pv (.str x.text)]
def XKey.Ok (B : Nat) (x : XKey) : Prop := nb x.kind ∧ nb x.n ∧ x.text.length ≤ B
theorem XKey.of {B : Nat} : ∀ r : List PV, be xL r → gO r ≤ B → ∃ x : XKey, r = x.e ∧ x.Ok B := fun r h hz => by
 obtain ⟨⟨c0, c1, c2, _⟩, e, g0, g1, g2, _⟩ := cf h
 obtain rfl : r = [.int _ c0, .int _ c1, .str c2] := e
 have z2 := Nat.le_trans (cA (i := 2) rfl) hz
 rw [fW] at z2
 exact ⟨⟨c0, c1, c2⟩, rfl, ⟨ck g0, ck g1, z2⟩⟩
theorem XKey.has {B : Nat} (hB : B ≤ maxLen) {x : XKey} (h : x.Ok B) : be xL x.e := by
 obtain ⟨h0, h1, h2⟩ := h
 simp only [xL, XKey.e, be]
 exact ⟨by simp only [bR]; exact ⟨trivial, bO h0⟩, by simp only [bR]; exact ⟨trivial, bO h1⟩, by simp only [bR]; exact Nat.le_trans h2 hB, trivial⟩
structure XField where
 name : List UInt8
 n : Int
def XField.e (x : XField) : List PV := [.str x.name, .int .i64 x.n]
def XField.v (x : XField) : V := .agg [.pv (.str x.name), .pv (.int .i64 x.n)]
def XField.Ok (B : Nat) (x : XField) : Prop := x.name.length ≤ B ∧ nb x.n
theorem XField.of {B : Nat} : ∀ r : List PV, be sC r → gO r ≤ B → ∃ x : XField, r = x.e ∧ x.Ok B := fun r h hz => by
 obtain ⟨⟨c0, c1, _⟩, e, g0, g1, _⟩ := cf h
 obtain rfl : r = [.str c0, .int _ c1] := e
 have z0 := Nat.le_trans (cA (i := 0) rfl) hz
 rw [fW] at z0
 exact ⟨⟨c0, c1⟩, rfl, ⟨z0, ck g1⟩⟩
theorem XField.has {B : Nat} (hB : B ≤ maxLen) {x : XField} (h : x.Ok B) : be sC x.e := by
 obtain ⟨h0, h1⟩ := h
 simp only [sC, XField.e, be]
 exact ⟨by simp only [bR]; exact Nat.le_trans h0 hB, by simp only [bR]; exact ⟨trivial, bO h1⟩, trivial⟩
structure XRecord where
 fs : List XField
def XRecord.e (x : XRecord) : List PV := [.lst (x.fs.map XField.e)]
def XRecord.v (x : XRecord) : V := .agg [.pv (.lst (x.fs.map XField.e))]
def XRecord.Ok (B : Nat) (x : XRecord) : Prop := (x.fs.length ≤ B ∧ ∀ y ∈ x.fs, y.Ok B)
theorem XRecord.of {B : Nat} : ∀ r : List PV, be n9 r → gO r ≤ B → ∃ x : XRecord, r = x.e ∧ x.Ok B := fun r h hz => by
 obtain ⟨⟨c0, _⟩, e, g0, _⟩ := cf h
 obtain rfl : r = [.lst c0] := e
 have z0 := Nat.le_trans (cA (i := 0) rfl) hz
 obtain ⟨l0, rfl, y0⟩ := ut XField.of (aD g0).2 z0
 exact ⟨⟨l0⟩, rfl, y0⟩
theorem XRecord.has {B : Nat} (hB : B ≤ maxLen) {x : XRecord} (h : x.Ok B) : be n9 x.e := by
 have h0 := h
 simp only [n9, XRecord.e, be]
 exact ⟨bY (fun _ q => XField.has hB q) hB h0, trivial⟩
structure XItem where
 key : XKey
 rcd : XRecord
def XItem.e (x : XItem) : List PV := [.int .i64 x.key.kind, .int .i64 x.key.n, .str x.key.text, .lst (x.rcd.fs.map XField.e)]
def XItem.v (x : XItem) : V := .agg [.pv (.int .i64 x.key.kind), .pv (.int .i64 x.key.n), .pv (.str x.key.text), .pv (.lst (x.rcd.fs.map XField.e))]
def XItem.Ok (B : Nat) (x : XItem) : Prop := x.key.Ok B ∧ x.rcd.Ok B
theorem XItem.of {B : Nat} : ∀ r : List PV, be sE r → gO r ≤ B → ∃ x : XItem, r = x.e ∧ x.Ok B := fun r h hz => by
 obtain ⟨⟨c0, c1, c2, c3, _⟩, e, g0, g1, g2, g3, _⟩ := cf h
 obtain rfl : r = [.int _ c0, .int _ c1, .str c2, .lst c3] := e
 have z2 := Nat.le_trans (cA (i := 2) rfl) hz
 rw [fW] at z2
 have z3 := Nat.le_trans (cA (i := 3) rfl) hz
 obtain ⟨l3, rfl, y3⟩ := ut XField.of (aD g3).2 z3
 exact ⟨⟨⟨c0, c1, c2⟩, ⟨l3⟩⟩, rfl, ⟨⟨ck g0, ck g1, z2⟩, y3⟩⟩
theorem XItem.has {B : Nat} (hB : B ≤ maxLen) {x : XItem} (h : x.Ok B) : be sE x.e := by
 obtain ⟨⟨h0, h1, h2⟩, h3⟩ := h
 simp only [sE, XItem.e, be]
 exact ⟨by simp only [bR]; exact ⟨trivial, bO h0⟩, by simp only [bR]; exact ⟨trivial, bO h1⟩, by simp only [bR]; exact Nat.le_trans h2 hB, bY (fun _ q => XField.has hB q) hB h3, trivial⟩
structure XStore where
 name : List UInt8
 items : List XItem
 auto : Int
def XStore.e (x : XStore) : List PV := [.str x.name, .lst (x.items.map XItem.e), .int .i64 x.auto]
def XStore.v (x : XStore) : V := .agg [.pv (.str x.name), .pv (.lst (x.items.map XItem.e)), .pv (.int .i64 x.auto)]
def XStore.Ok (B : Nat) (x : XStore) : Prop := x.name.length ≤ B ∧ (x.items.length ≤ B ∧ ∀ y ∈ x.items, y.Ok B) ∧ nb x.auto
theorem XStore.of {B : Nat} : ∀ r : List PV, be m6 r → gO r ≤ B → ∃ x : XStore, r = x.e ∧ x.Ok B := fun r h hz => by
 obtain ⟨⟨c0, c1, c2, _⟩, e, g0, g1, g2, _⟩ := cf h
 obtain rfl : r = [.str c0, .lst c1, .int _ c2] := e
 have z0 := Nat.le_trans (cA (i := 0) rfl) hz
 rw [fW] at z0
 have z1 := Nat.le_trans (cA (i := 1) rfl) hz
 obtain ⟨l1, rfl, y1⟩ := ut XItem.of (aD g1).2 z1
 exact ⟨⟨c0, l1, c2⟩, rfl, ⟨z0, y1, ck g2⟩⟩
theorem XStore.has {B : Nat} (hB : B ≤ maxLen) {x : XStore} (h : x.Ok B) : be m6 x.e := by
 obtain ⟨h0, h1, h2⟩ := h
 simp only [m6, XStore.e, be]
 exact ⟨by simp only [bR]; exact Nat.le_trans h0 hB, bY (fun _ q => XItem.has hB q) hB h1, by simp only [bR]; exact ⟨trivial, bO h2⟩, trivial⟩
structure XWrite where
 dev : Int
 seq : Int
 key : XKey
 field : List UInt8
 n : Int
def XWrite.e (x : XWrite) : List PV := [.int .i64 x.dev, .int .i64 x.seq, .int .i64 x.key.kind, .int .i64 x.key.n, .str x.key.text, .str x.field, .int .i64 x.n]
def XWrite.v (x : XWrite) : V := .agg [.pv (.int .i64 x.dev), .pv (.int .i64 x.seq), .pv (.int .i64 x.key.kind), .pv (.int .i64 x.key.n), .pv (.str x.key.text), .pv (.str x.field), .pv (.int .i64 x.n)]
def XWrite.Ok (B : Nat) (x : XWrite) : Prop := nb x.dev ∧ nb x.seq ∧ x.key.Ok B ∧ x.field.length ≤ B ∧ nb x.n
theorem XWrite.of {B : Nat} : ∀ r : List PV, be sJ r → gO r ≤ B → ∃ x : XWrite, r = x.e ∧ x.Ok B := fun r h hz => by
 obtain ⟨⟨c0, c1, c2, c3, c4, c5, c6, _⟩, e, g0, g1, g2, g3, g4, g5, g6, _⟩ := cf h
 obtain rfl : r = [.int _ c0, .int _ c1, .int _ c2, .int _ c3, .str c4, .str c5, .int _ c6] := e
 have z4 := Nat.le_trans (cA (i := 4) rfl) hz
 rw [fW] at z4
 have z5 := Nat.le_trans (cA (i := 5) rfl) hz
 rw [fW] at z5
 exact ⟨⟨c0, c1, ⟨c2, c3, c4⟩, c5, c6⟩, rfl, ⟨ck g0, ck g1, ⟨ck g2, ck g3, z4⟩, z5, ck g6⟩⟩
theorem XWrite.has {B : Nat} (hB : B ≤ maxLen) {x : XWrite} (h : x.Ok B) : be sJ x.e := by
 obtain ⟨h0, h1, ⟨h2, h3, h4⟩, h5, h6⟩ := h
 simp only [sJ, XWrite.e, be]
 exact ⟨by simp only [bR]; exact ⟨trivial, bO h0⟩, by simp only [bR]; exact ⟨trivial, bO h1⟩, by simp only [bR]; exact ⟨trivial, bO h2⟩, by simp only [bR]; exact ⟨trivial, bO h3⟩, by simp only [bR]; exact Nat.le_trans h4 hB, by simp only [bR]; exact Nat.le_trans h5 hB, by simp only [bR]; exact ⟨trivial, bO h6⟩, trivial⟩
structure XApplied where
 dev : Int
 seq : Int
def XApplied.e (x : XApplied) : List PV := [.int .i64 x.dev, .int .i64 x.seq]
def XApplied.v (x : XApplied) : V := .agg [.pv (.int .i64 x.dev), .pv (.int .i64 x.seq)]
def XApplied.Ok (B : Nat) (x : XApplied) : Prop := nb x.dev ∧ nb x.seq
theorem XApplied.of {B : Nat} : ∀ r : List PV, be oZ r → gO r ≤ B → ∃ x : XApplied, r = x.e ∧ x.Ok B := fun r h hz => by
 obtain ⟨⟨c0, c1, _⟩, e, g0, g1, _⟩ := cf h
 obtain rfl : r = [.int _ c0, .int _ c1] := e
 exact ⟨⟨c0, c1⟩, rfl, ⟨ck g0, ck g1⟩⟩
theorem XApplied.has {B : Nat} (hB : B ≤ maxLen) {x : XApplied} (h : x.Ok B) : be oZ x.e := by
 obtain ⟨h0, h1⟩ := h
 simp only [oZ, XApplied.e, be]
 exact ⟨by simp only [bR]; exact ⟨trivial, bO h0⟩, by simp only [bR]; exact ⟨trivial, bO h1⟩, trivial⟩
structure XServer where
 store : XStore
 applied : List XApplied
 changes : List XWrite
def XServer.e (x : XServer) : List PV := [.str x.store.name, .lst (x.store.items.map XItem.e), .int .i64 x.store.auto, .lst (x.applied.map XApplied.e), .lst (x.changes.map XWrite.e)]
def XServer.v (x : XServer) : V := .agg [.pv (.str x.store.name), .pv (.lst (x.store.items.map XItem.e)), .pv (.int .i64 x.store.auto), .pv (.lst (x.applied.map XApplied.e)), .pv (.lst (x.changes.map XWrite.e))]
def XServer.Ok (B : Nat) (x : XServer) : Prop := x.store.Ok B ∧ (x.applied.length ≤ B ∧ ∀ y ∈ x.applied, y.Ok B) ∧ (x.changes.length ≤ B ∧ ∀ y ∈ x.changes, y.Ok B)
theorem XServer.of {B : Nat} : ∀ r : List PV, be m4 r → gO r ≤ B → ∃ x : XServer, r = x.e ∧ x.Ok B := fun r h hz => by
 obtain ⟨⟨c0, c1, c2, c3, c4, _⟩, e, g0, g1, g2, g3, g4, _⟩ := cf h
 obtain rfl : r = [.str c0, .lst c1, .int _ c2, .lst c3, .lst c4] := e
 have z0 := Nat.le_trans (cA (i := 0) rfl) hz
 rw [fW] at z0
 have z1 := Nat.le_trans (cA (i := 1) rfl) hz
 obtain ⟨l1, rfl, y1⟩ := ut XItem.of (aD g1).2 z1
 have z3 := Nat.le_trans (cA (i := 3) rfl) hz
 obtain ⟨l3, rfl, y3⟩ := ut XApplied.of (aD g3).2 z3
 have z4 := Nat.le_trans (cA (i := 4) rfl) hz
 obtain ⟨l4, rfl, y4⟩ := ut XWrite.of (aD g4).2 z4
 exact ⟨⟨⟨c0, l1, c2⟩, l3, l4⟩, rfl, ⟨⟨z0, y1, ck g2⟩, y3, y4⟩⟩
theorem XServer.has {B : Nat} (hB : B ≤ maxLen) {x : XServer} (h : x.Ok B) : be m4 x.e := by
 obtain ⟨⟨h0, h1, h2⟩, h3, h4⟩ := h
 simp only [m4, XServer.e, be]
 exact ⟨by simp only [bR]; exact Nat.le_trans h0 hB, bY (fun _ q => XItem.has hB q) hB h1, by simp only [bR]; exact ⟨trivial, bO h2⟩, bY (fun _ q => XApplied.has hB q) hB h3, bY (fun _ q => XWrite.has hB q) hB h4, trivial⟩
structure XOutbox where
 dev : Int
 next : Int
 writes : List XWrite
def XOutbox.e (x : XOutbox) : List PV := [.int .i64 x.dev, .int .i64 x.next, .lst (x.writes.map XWrite.e)]
def XOutbox.v (x : XOutbox) : V := .agg [.pv (.int .i64 x.dev), .pv (.int .i64 x.next), .pv (.lst (x.writes.map XWrite.e))]
def XOutbox.Ok (B : Nat) (x : XOutbox) : Prop := nb x.dev ∧ nb x.next ∧ (x.writes.length ≤ B ∧ ∀ y ∈ x.writes, y.Ok B)
theorem XOutbox.of {B : Nat} : ∀ r : List PV, be pQ r → gO r ≤ B → ∃ x : XOutbox, r = x.e ∧ x.Ok B := fun r h hz => by
 obtain ⟨⟨c0, c1, c2, _⟩, e, g0, g1, g2, _⟩ := cf h
 obtain rfl : r = [.int _ c0, .int _ c1, .lst c2] := e
 have z2 := Nat.le_trans (cA (i := 2) rfl) hz
 obtain ⟨l2, rfl, y2⟩ := ut XWrite.of (aD g2).2 z2
 exact ⟨⟨c0, c1, l2⟩, rfl, ⟨ck g0, ck g1, y2⟩⟩
theorem XOutbox.has {B : Nat} (hB : B ≤ maxLen) {x : XOutbox} (h : x.Ok B) : be pQ x.e := by
 obtain ⟨h0, h1, h2⟩ := h
 simp only [pQ, XOutbox.e, be]
 exact ⟨by simp only [bR]; exact ⟨trivial, bO h0⟩, by simp only [bR]; exact ⟨trivial, bO h1⟩, bY (fun _ q => XWrite.has hB q) hB h2, trivial⟩
structure XSync where
 outbox : XOutbox
 tries : Int
 wait : Int
def XSync.e (x : XSync) : List PV := [.int .i64 x.outbox.dev, .int .i64 x.outbox.next, .lst (x.outbox.writes.map XWrite.e), .int .i64 x.tries, .int .i64 x.wait]
def XSync.v (x : XSync) : V := .agg [.pv (.int .i64 x.outbox.dev), .pv (.int .i64 x.outbox.next), .pv (.lst (x.outbox.writes.map XWrite.e)), .pv (.int .i64 x.tries), .pv (.int .i64 x.wait)]
def XSync.Ok (B : Nat) (x : XSync) : Prop := x.outbox.Ok B ∧ nb x.tries ∧ nb x.wait
theorem XSync.of {B : Nat} : ∀ r : List PV, be wm r → gO r ≤ B → ∃ x : XSync, r = x.e ∧ x.Ok B := fun r h hz => by
 obtain ⟨⟨c0, c1, c2, c3, c4, _⟩, e, g0, g1, g2, g3, g4, _⟩ := cf h
 obtain rfl : r = [.int _ c0, .int _ c1, .lst c2, .int _ c3, .int _ c4] := e
 have z2 := Nat.le_trans (cA (i := 2) rfl) hz
 obtain ⟨l2, rfl, y2⟩ := ut XWrite.of (aD g2).2 z2
 exact ⟨⟨⟨c0, c1, l2⟩, c3, c4⟩, rfl, ⟨⟨ck g0, ck g1, y2⟩, ck g3, ck g4⟩⟩
theorem XSync.has {B : Nat} (hB : B ≤ maxLen) {x : XSync} (h : x.Ok B) : be wm x.e := by
 obtain ⟨⟨h0, h1, h2⟩, h3, h4⟩ := h
 simp only [wm, XSync.e, be]
 exact ⟨by simp only [bR]; exact ⟨trivial, bO h0⟩, by simp only [bR]; exact ⟨trivial, bO h1⟩, bY (fun _ q => XWrite.has hB q) hB h2, by simp only [bR]; exact ⟨trivial, bO h3⟩, by simp only [bR]; exact ⟨trivial, bO h4⟩, trivial⟩
structure XReplica where
 base : XStore
 seen : Int
 sync : XSync
def XReplica.e (x : XReplica) : List PV := [.str x.base.name, .lst (x.base.items.map XItem.e), .int .i64 x.base.auto, .int .i64 x.seen, .int .i64 x.sync.outbox.dev, .int .i64 x.sync.outbox.next, .lst (x.sync.outbox.writes.map XWrite.e), .int .i64 x.sync.tries, .int .i64 x.sync.wait]
def XReplica.v (x : XReplica) : V := .agg [.pv (.str x.base.name), .pv (.lst (x.base.items.map XItem.e)), .pv (.int .i64 x.base.auto), .pv (.int .i64 x.seen), .pv (.int .i64 x.sync.outbox.dev), .pv (.int .i64 x.sync.outbox.next), .pv (.lst (x.sync.outbox.writes.map XWrite.e)), .pv (.int .i64 x.sync.tries), .pv (.int .i64 x.sync.wait)]
def XReplica.Ok (B : Nat) (x : XReplica) : Prop := x.base.Ok B ∧ nb x.seen ∧ x.sync.Ok B
theorem XReplica.of {B : Nat} : ∀ r : List PV, be nJ r → gO r ≤ B → ∃ x : XReplica, r = x.e ∧ x.Ok B := fun r h hz => by
 obtain ⟨⟨c0, c1, c2, c3, c4, c5, c6, c7, c8, _⟩, e, g0, g1, g2, g3, g4, g5, g6, g7, g8, _⟩ := cf h
 obtain rfl : r = [.str c0, .lst c1, .int _ c2, .int _ c3, .int _ c4, .int _ c5, .lst c6, .int _ c7, .int _ c8] := e
 have z0 := Nat.le_trans (cA (i := 0) rfl) hz
 rw [fW] at z0
 have z1 := Nat.le_trans (cA (i := 1) rfl) hz
 obtain ⟨l1, rfl, y1⟩ := ut XItem.of (aD g1).2 z1
 have z6 := Nat.le_trans (cA (i := 6) rfl) hz
 obtain ⟨l6, rfl, y6⟩ := ut XWrite.of (aD g6).2 z6
 exact ⟨⟨⟨c0, l1, c2⟩, c3, ⟨⟨c4, c5, l6⟩, c7, c8⟩⟩, rfl, ⟨⟨z0, y1, ck g2⟩, ck g3, ⟨⟨ck g4, ck g5, y6⟩, ck g7, ck g8⟩⟩⟩
theorem XReplica.has {B : Nat} (hB : B ≤ maxLen) {x : XReplica} (h : x.Ok B) : be nJ x.e := by
 obtain ⟨⟨h0, h1, h2⟩, h3, ⟨⟨h4, h5, h6⟩, h7, h8⟩⟩ := h
 simp only [nJ, XReplica.e, be]
 exact ⟨by simp only [bR]; exact Nat.le_trans h0 hB, bY (fun _ q => XItem.has hB q) hB h1, by simp only [bR]; exact ⟨trivial, bO h2⟩, by simp only [bR]; exact ⟨trivial, bO h3⟩, by simp only [bR]; exact ⟨trivial, bO h4⟩, by simp only [bR]; exact ⟨trivial, bO h5⟩, bY (fun _ q => XWrite.has hB q) hB h6, by simp only [bR]; exact ⟨trivial, bO h7⟩, by simp only [bR]; exact ⟨trivial, bO h8⟩, trivial⟩
structure XResponse where
 type : Int
 status : Int
 version : Int
 body : List UInt8
 shares : Bool
def XResponse.e (x : XResponse) : List PV := [.int .i64 x.type, .int .i64 x.status, .int .i64 x.version, .lst (aU x.body), .bool x.shares]
def XResponse.v (x : XResponse) : V := .agg [.pv (.int .i64 x.type), .pv (.int .i64 x.status), .pv (.int .i64 x.version), .pv (.lst (aU x.body)), .pv (.bool x.shares)]
def XResponse.Ok (B : Nat) (x : XResponse) : Prop := nb x.type ∧ nb x.status ∧ nb x.version ∧ x.body.length ≤ B
theorem XResponse.of {B : Nat} : ∀ r : List PV, be lW r → gO r ≤ B → ∃ x : XResponse, r = x.e ∧ x.Ok B := fun r h hz => by
 obtain ⟨⟨c0, c1, c2, c3, c4, _⟩, e, g0, g1, g2, g3, g4, _⟩ := cf h
 obtain rfl : r = [.int _ c0, .int _ c1, .int _ c2, .lst c3, .bool c4] := e
 have z3 := Nat.le_trans (cA (i := 3) rfl) hz
 obtain ⟨b3, rfl⟩ := ER (aD g3).2
 rw [jH, rR] at z3
 have y3 : b3.length ≤ B := by omega
 exact ⟨⟨c0, c1, c2, b3, c4⟩, rfl, ⟨ck g0, ck g1, ck g2, y3⟩⟩
theorem XResponse.has {B : Nat} (hB : B ≤ maxLen) {x : XResponse} (h : x.Ok B) : be lW x.e := by
 obtain ⟨h0, h1, h2, h3⟩ := h
 simp only [lW, XResponse.e, be]
 exact ⟨by simp only [bR]; exact ⟨trivial, bO h0⟩, by simp only [bR]; exact ⟨trivial, bO h1⟩, by simp only [bR]; exact ⟨trivial, bO h2⟩, A8 hB h3, by simp only [bR], trivial⟩
structure XCached where
 site : List UInt8
 path : List UInt8
 resp : XResponse
def XCached.e (x : XCached) : List PV := [.str x.site, .str x.path, .int .i64 x.resp.type, .int .i64 x.resp.status, .int .i64 x.resp.version, .lst (aU x.resp.body), .bool x.resp.shares]
def XCached.v (x : XCached) : V := .agg [.pv (.str x.site), .pv (.str x.path), .pv (.int .i64 x.resp.type), .pv (.int .i64 x.resp.status), .pv (.int .i64 x.resp.version), .pv (.lst (aU x.resp.body)), .pv (.bool x.resp.shares)]
def XCached.Ok (B : Nat) (x : XCached) : Prop := x.site.length ≤ B ∧ x.path.length ≤ B ∧ x.resp.Ok B
theorem XCached.of {B : Nat} : ∀ r : List PV, be pN r → gO r ≤ B → ∃ x : XCached, r = x.e ∧ x.Ok B := fun r h hz => by
 obtain ⟨⟨c0, c1, c2, c3, c4, c5, c6, _⟩, e, g0, g1, g2, g3, g4, g5, g6, _⟩ := cf h
 obtain rfl : r = [.str c0, .str c1, .int _ c2, .int _ c3, .int _ c4, .lst c5, .bool c6] := e
 have z0 := Nat.le_trans (cA (i := 0) rfl) hz
 rw [fW] at z0
 have z1 := Nat.le_trans (cA (i := 1) rfl) hz
 rw [fW] at z1
 have z5 := Nat.le_trans (cA (i := 5) rfl) hz
 obtain ⟨b5, rfl⟩ := ER (aD g5).2
 rw [jH, rR] at z5
 have y5 : b5.length ≤ B := by omega
 exact ⟨⟨c0, c1, ⟨c2, c3, c4, b5, c6⟩⟩, rfl, ⟨z0, z1, ⟨ck g2, ck g3, ck g4, y5⟩⟩⟩
theorem XCached.has {B : Nat} (hB : B ≤ maxLen) {x : XCached} (h : x.Ok B) : be pN x.e := by
 obtain ⟨h0, h1, ⟨h2, h3, h4, h5⟩⟩ := h
 simp only [pN, XCached.e, be]
 exact ⟨by simp only [bR]; exact Nat.le_trans h0 hB, by simp only [bR]; exact Nat.le_trans h1 hB, by simp only [bR]; exact ⟨trivial, bO h2⟩, by simp only [bR]; exact ⟨trivial, bO h3⟩, by simp only [bR]; exact ⟨trivial, bO h4⟩, A8 hB h5, by simp only [bR], trivial⟩
structure XCache where
 version : Int
 entries : List XCached
def XCache.e (x : XCache) : List PV := [.int .i64 x.version, .lst (x.entries.map XCached.e)]
def XCache.v (x : XCache) : V := .agg [.pv (.int .i64 x.version), .pv (.lst (x.entries.map XCached.e))]
def XCache.Ok (B : Nat) (x : XCache) : Prop := nb x.version ∧ (x.entries.length ≤ B ∧ ∀ y ∈ x.entries, y.Ok B)
theorem XCache.of {B : Nat} : ∀ r : List PV, be sA r → gO r ≤ B → ∃ x : XCache, r = x.e ∧ x.Ok B := fun r h hz => by
 obtain ⟨⟨c0, c1, _⟩, e, g0, g1, _⟩ := cf h
 obtain rfl : r = [.int _ c0, .lst c1] := e
 have z1 := Nat.le_trans (cA (i := 1) rfl) hz
 obtain ⟨l1, rfl, y1⟩ := ut XCached.of (aD g1).2 z1
 exact ⟨⟨c0, l1⟩, rfl, ⟨ck g0, y1⟩⟩
theorem XCache.has {B : Nat} (hB : B ≤ maxLen) {x : XCache} (h : x.Ok B) : be sA x.e := by
 obtain ⟨h0, h1⟩ := h
 simp only [sA, XCache.e, be]
 exact ⟨by simp only [bR]; exact ⟨trivial, bO h0⟩, bY (fun _ q => XCached.has hB q) hB h1, trivial⟩
structure XCacheSet where
 caches : List XCache
def XCacheSet.e (x : XCacheSet) : List PV := [.lst (x.caches.map XCache.e)]
def XCacheSet.v (x : XCacheSet) : V := .agg [.pv (.lst (x.caches.map XCache.e))]
def XCacheSet.Ok (B : Nat) (x : XCacheSet) : Prop := (x.caches.length ≤ B ∧ ∀ y ∈ x.caches, y.Ok B)
theorem XCacheSet.of {B : Nat} : ∀ r : List PV, be lS r → gO r ≤ B → ∃ x : XCacheSet, r = x.e ∧ x.Ok B := fun r h hz => by
 obtain ⟨⟨c0, _⟩, e, g0, _⟩ := cf h
 obtain rfl : r = [.lst c0] := e
 have z0 := Nat.le_trans (cA (i := 0) rfl) hz
 obtain ⟨l0, rfl, y0⟩ := ut XCache.of (aD g0).2 z0
 exact ⟨⟨l0⟩, rfl, y0⟩
theorem XCacheSet.has {B : Nat} (hB : B ≤ maxLen) {x : XCacheSet} (h : x.Ok B) : be lS x.e := by
 have h0 := h
 simp only [lS, XCacheSet.e, be]
 exact ⟨bY (fun _ q => XCache.has hB q) hB h0, trivial⟩
structure XRegistration where
 site : List UInt8
 installing : Int
 waiting : Int
 active : Int
def XRegistration.e (x : XRegistration) : List PV := [.str x.site, .int .i64 x.installing, .int .i64 x.waiting, .int .i64 x.active]
def XRegistration.v (x : XRegistration) : V := .agg [.pv (.str x.site), .pv (.int .i64 x.installing), .pv (.int .i64 x.waiting), .pv (.int .i64 x.active)]
def XRegistration.Ok (B : Nat) (x : XRegistration) : Prop := x.site.length ≤ B ∧ nb x.installing ∧ nb x.waiting ∧ nb x.active
theorem XRegistration.of {B : Nat} : ∀ r : List PV, be iL r → gO r ≤ B → ∃ x : XRegistration, r = x.e ∧ x.Ok B := fun r h hz => by
 obtain ⟨⟨c0, c1, c2, c3, _⟩, e, g0, g1, g2, g3, _⟩ := cf h
 obtain rfl : r = [.str c0, .int _ c1, .int _ c2, .int _ c3] := e
 have z0 := Nat.le_trans (cA (i := 0) rfl) hz
 rw [fW] at z0
 exact ⟨⟨c0, c1, c2, c3⟩, rfl, ⟨z0, ck g1, ck g2, ck g3⟩⟩
theorem XRegistration.has {B : Nat} (hB : B ≤ maxLen) {x : XRegistration} (h : x.Ok B) : be iL x.e := by
 obtain ⟨h0, h1, h2, h3⟩ := h
 simp only [iL, XRegistration.e, be]
 exact ⟨by simp only [bR]; exact Nat.le_trans h0 hB, by simp only [bR]; exact ⟨trivial, bO h1⟩, by simp only [bR]; exact ⟨trivial, bO h2⟩, by simp only [bR]; exact ⟨trivial, bO h3⟩, trivial⟩
structure XLoaded where
 path : List UInt8
 version : Int
def XLoaded.e (x : XLoaded) : List PV := [.str x.path, .int .i64 x.version]
def XLoaded.v (x : XLoaded) : V := .agg [.pv (.str x.path), .pv (.int .i64 x.version)]
def XLoaded.Ok (B : Nat) (x : XLoaded) : Prop := x.path.length ≤ B ∧ nb x.version
theorem XLoaded.of {B : Nat} : ∀ r : List PV, be pP r → gO r ≤ B → ∃ x : XLoaded, r = x.e ∧ x.Ok B := fun r h hz => by
 obtain ⟨⟨c0, c1, _⟩, e, g0, g1, _⟩ := cf h
 obtain rfl : r = [.str c0, .int _ c1] := e
 have z0 := Nat.le_trans (cA (i := 0) rfl) hz
 rw [fW] at z0
 exact ⟨⟨c0, c1⟩, rfl, ⟨z0, ck g1⟩⟩
theorem XLoaded.has {B : Nat} (hB : B ≤ maxLen) {x : XLoaded} (h : x.Ok B) : be pP x.e := by
 obtain ⟨h0, h1⟩ := h
 simp only [pP, XLoaded.e, be]
 exact ⟨by simp only [bR]; exact Nat.le_trans h0 hB, by simp only [bR]; exact ⟨trivial, bO h1⟩, trivial⟩
structure XInstr where
 kind : Int
 r : Int
 n : Int
 text : List UInt8
def XInstr.e (x : XInstr) : List PV := [.int .i64 x.kind, .int .i64 x.r, .int .i64 x.n, .str x.text]
def XInstr.v (x : XInstr) : V := .agg [.pv (.int .i64 x.kind), .pv (.int .i64 x.r), .pv (.int .i64 x.n), .pv (.str x.text)]
def XInstr.Ok (B : Nat) (x : XInstr) : Prop := nb x.kind ∧ nb x.r ∧ nb x.n ∧ x.text.length ≤ B
theorem XInstr.of {B : Nat} : ∀ r : List PV, be sD r → gO r ≤ B → ∃ x : XInstr, r = x.e ∧ x.Ok B := fun r h hz => by
 obtain ⟨⟨c0, c1, c2, c3, _⟩, e, g0, g1, g2, g3, _⟩ := cf h
 obtain rfl : r = [.int _ c0, .int _ c1, .int _ c2, .str c3] := e
 have z3 := Nat.le_trans (cA (i := 3) rfl) hz
 rw [fW] at z3
 exact ⟨⟨c0, c1, c2, c3⟩, rfl, ⟨ck g0, ck g1, ck g2, z3⟩⟩
theorem XInstr.has {B : Nat} (hB : B ≤ maxLen) {x : XInstr} (h : x.Ok B) : be sD x.e := by
 obtain ⟨h0, h1, h2, h3⟩ := h
 simp only [sD, XInstr.e, be]
 exact ⟨by simp only [bR]; exact ⟨trivial, bO h0⟩, by simp only [bR]; exact ⟨trivial, bO h1⟩, by simp only [bR]; exact ⟨trivial, bO h2⟩, by simp only [bR]; exact Nat.le_trans h3 hB, trivial⟩
structure XMachine where
 script : List XInstr
 pc : Int
 regs : List Int
 steps : Int
 done : Bool
 wait : Bool
def XMachine.e (x : XMachine) : List PV := [.lst (x.script.map XInstr.e), .int .i64 x.pc, .lst (x.regs.map Cm), .int .i64 x.steps, .bool x.done, .bool x.wait]
def XMachine.v (x : XMachine) : V := .agg [.pv (.lst (x.script.map XInstr.e)), .pv (.int .i64 x.pc), .pv (.lst (x.regs.map Cm)), .pv (.int .i64 x.steps), .pv (.bool x.done), .pv (.bool x.wait)]
def XMachine.Ok (B : Nat) (x : XMachine) : Prop := (x.script.length ≤ B ∧ ∀ y ∈ x.script, y.Ok B) ∧ nb x.pc ∧ (x.regs.length ≤ B ∧ ∀ y ∈ x.regs, nb y) ∧ nb x.steps
theorem XMachine.of {B : Nat} : ∀ r : List PV, be nI r → gO r ≤ B → ∃ x : XMachine, r = x.e ∧ x.Ok B := fun r h hz => by
 obtain ⟨⟨c0, c1, c2, c3, c4, c5, _⟩, e, g0, g1, g2, g3, g4, g5, _⟩ := cf h
 obtain rfl : r = [.lst c0, .int _ c1, .lst c2, .int _ c3, .bool c4, .bool c5] := e
 have z0 := Nat.le_trans (cA (i := 0) rfl) hz
 obtain ⟨l0, rfl, y0⟩ := ut XInstr.of (aD g0).2 z0
 have z2 := Nat.le_trans (cA (i := 2) rfl) hz
 obtain ⟨l2, rfl, y2⟩ := ut L0 (aD g2).2 z2
 exact ⟨⟨l0, c1, l2, c3, c4, c5⟩, rfl, ⟨y0, ck g1, y2, ck g3⟩⟩
theorem XMachine.has {B : Nat} (hB : B ≤ maxLen) {x : XMachine} (h : x.Ok B) : be nI x.e := by
 obtain ⟨h0, h1, h2, h3⟩ := h
 simp only [nI, XMachine.e, be]
 exact ⟨bY (fun _ q => XInstr.has hB q) hB h0, by simp only [bR]; exact ⟨trivial, bO h1⟩, bY (fun _ q => Jp q) hB h2, by simp only [bR]; exact ⟨trivial, bO h3⟩, by simp only [bR], by simp only [bR], trivial⟩
structure XPage where
 id : Int
 site : List UInt8
 top : List UInt8
 version : Int
 loaded : List XLoaded
 machine : XMachine
def XPage.e (x : XPage) : List PV := [.int .i64 x.id, .str x.site, .str x.top, .int .i64 x.version, .lst (x.loaded.map XLoaded.e), .lst (x.machine.script.map XInstr.e), .int .i64 x.machine.pc, .lst (x.machine.regs.map Cm), .int .i64 x.machine.steps, .bool x.machine.done, .bool x.machine.wait]
def XPage.v (x : XPage) : V := .agg [.pv (.int .i64 x.id), .pv (.str x.site), .pv (.str x.top), .pv (.int .i64 x.version), .pv (.lst (x.loaded.map XLoaded.e)), .pv (.lst (x.machine.script.map XInstr.e)), .pv (.int .i64 x.machine.pc), .pv (.lst (x.machine.regs.map Cm)), .pv (.int .i64 x.machine.steps), .pv (.bool x.machine.done), .pv (.bool x.machine.wait)]
def XPage.Ok (B : Nat) (x : XPage) : Prop := nb x.id ∧ x.site.length ≤ B ∧ x.top.length ≤ B ∧ nb x.version ∧ (x.loaded.length ≤ B ∧ ∀ y ∈ x.loaded, y.Ok B) ∧ x.machine.Ok B
theorem XPage.of {B : Nat} : ∀ r : List PV, be sH r → gO r ≤ B → ∃ x : XPage, r = x.e ∧ x.Ok B := fun r h hz => by
 obtain ⟨⟨c0, c1, c2, c3, c4, c5, c6, c7, c8, c9, c10, _⟩, e, g0, g1, g2, g3, g4, g5, g6, g7, g8, g9, g10, _⟩ := cf h
 obtain rfl : r = [.int _ c0, .str c1, .str c2, .int _ c3, .lst c4, .lst c5, .int _ c6, .lst c7, .int _ c8, .bool c9, .bool c10] := e
 have z1 := Nat.le_trans (cA (i := 1) rfl) hz
 rw [fW] at z1
 have z2 := Nat.le_trans (cA (i := 2) rfl) hz
 rw [fW] at z2
 have z4 := Nat.le_trans (cA (i := 4) rfl) hz
 obtain ⟨l4, rfl, y4⟩ := ut XLoaded.of (aD g4).2 z4
 have z5 := Nat.le_trans (cA (i := 5) rfl) hz
 obtain ⟨l5, rfl, y5⟩ := ut XInstr.of (aD g5).2 z5
 have z7 := Nat.le_trans (cA (i := 7) rfl) hz
 obtain ⟨l7, rfl, y7⟩ := ut L0 (aD g7).2 z7
 exact ⟨⟨c0, c1, c2, c3, l4, ⟨l5, c6, l7, c8, c9, c10⟩⟩, rfl, ⟨ck g0, z1, z2, ck g3, y4, ⟨y5, ck g6, y7, ck g8⟩⟩⟩
theorem XPage.has {B : Nat} (hB : B ≤ maxLen) {x : XPage} (h : x.Ok B) : be sH x.e := by
 obtain ⟨h0, h1, h2, h3, h4, ⟨h5, h6, h7, h8⟩⟩ := h
 simp only [sH, XPage.e, be]
 exact ⟨by simp only [bR]; exact ⟨trivial, bO h0⟩, by simp only [bR]; exact Nat.le_trans h1 hB, by simp only [bR]; exact Nat.le_trans h2 hB, by simp only [bR]; exact ⟨trivial, bO h3⟩, bY (fun _ q => XLoaded.has hB q) hB h4, bY (fun _ q => XInstr.has hB q) hB h5, by simp only [bR]; exact ⟨trivial, bO h6⟩, bY (fun _ q => Jp q) hB h7, by simp only [bR]; exact ⟨trivial, bO h8⟩, by simp only [bR], by simp only [bR], trivial⟩
structure XIndexDef where
 store : List UInt8
 field : List UInt8
def XIndexDef.e (x : XIndexDef) : List PV := [.str x.store, .str x.field]
def XIndexDef.v (x : XIndexDef) : V := .agg [.pv (.str x.store), .pv (.str x.field)]
def XIndexDef.Ok (B : Nat) (x : XIndexDef) : Prop := x.store.length ≤ B ∧ x.field.length ≤ B
theorem XIndexDef.of {B : Nat} : ∀ r : List PV, be lV r → gO r ≤ B → ∃ x : XIndexDef, r = x.e ∧ x.Ok B := fun r h hz => by
 obtain ⟨⟨c0, c1, _⟩, e, g0, g1, _⟩ := cf h
 obtain rfl : r = [.str c0, .str c1] := e
 have z0 := Nat.le_trans (cA (i := 0) rfl) hz
 rw [fW] at z0
 have z1 := Nat.le_trans (cA (i := 1) rfl) hz
 rw [fW] at z1
 exact ⟨⟨c0, c1⟩, rfl, ⟨z0, z1⟩⟩
theorem XIndexDef.has {B : Nat} (hB : B ≤ maxLen) {x : XIndexDef} (h : x.Ok B) : be lV x.e := by
 obtain ⟨h0, h1⟩ := h
 simp only [lV, XIndexDef.e, be]
 exact ⟨by simp only [bR]; exact Nat.le_trans h0 hB, by simp only [bR]; exact Nat.le_trans h1 hB, trivial⟩
structure XDatabase where
 name : List UInt8
 version : Int
 stores : List XStore
 unique : List XIndexDef
def XDatabase.e (x : XDatabase) : List PV := [.str x.name, .int .i64 x.version, .lst (x.stores.map XStore.e), .lst (x.unique.map XIndexDef.e)]
def XDatabase.v (x : XDatabase) : V := .agg [.pv (.str x.name), .pv (.int .i64 x.version), .pv (.lst (x.stores.map XStore.e)), .pv (.lst (x.unique.map XIndexDef.e))]
def XDatabase.Ok (B : Nat) (x : XDatabase) : Prop := x.name.length ≤ B ∧ nb x.version ∧ (x.stores.length ≤ B ∧ ∀ y ∈ x.stores, y.Ok B) ∧ (x.unique.length ≤ B ∧ ∀ y ∈ x.unique, y.Ok B)
theorem XDatabase.of {B : Nat} : ∀ r : List PV, be lU r → gO r ≤ B → ∃ x : XDatabase, r = x.e ∧ x.Ok B := fun r h hz => by
 obtain ⟨⟨c0, c1, c2, c3, _⟩, e, g0, g1, g2, g3, _⟩ := cf h
 obtain rfl : r = [.str c0, .int _ c1, .lst c2, .lst c3] := e
 have z0 := Nat.le_trans (cA (i := 0) rfl) hz
 rw [fW] at z0
 have z2 := Nat.le_trans (cA (i := 2) rfl) hz
 obtain ⟨l2, rfl, y2⟩ := ut XStore.of (aD g2).2 z2
 have z3 := Nat.le_trans (cA (i := 3) rfl) hz
 obtain ⟨l3, rfl, y3⟩ := ut XIndexDef.of (aD g3).2 z3
 exact ⟨⟨c0, c1, l2, l3⟩, rfl, ⟨z0, ck g1, y2, y3⟩⟩
theorem XDatabase.has {B : Nat} (hB : B ≤ maxLen) {x : XDatabase} (h : x.Ok B) : be lU x.e := by
 obtain ⟨h0, h1, h2, h3⟩ := h
 simp only [lU, XDatabase.e, be]
 exact ⟨by simp only [bR]; exact Nat.le_trans h0 hB, by simp only [bR]; exact ⟨trivial, bO h1⟩, bY (fun _ q => XStore.has hB q) hB h2, bY (fun _ q => XIndexDef.has hB q) hB h3, trivial⟩
structure XDisk where
 base : XDatabase
 log : List UInt8
 count : Int
def XDisk.e (x : XDisk) : List PV := [.str x.base.name, .int .i64 x.base.version, .lst (x.base.stores.map XStore.e), .lst (x.base.unique.map XIndexDef.e), .lst (aU x.log), .int .i64 x.count]
def XDisk.v (x : XDisk) : V := .agg [.pv (.str x.base.name), .pv (.int .i64 x.base.version), .pv (.lst (x.base.stores.map XStore.e)), .pv (.lst (x.base.unique.map XIndexDef.e)), .pv (.lst (aU x.log)), .pv (.int .i64 x.count)]
def XDisk.Ok (B : Nat) (x : XDisk) : Prop := x.base.Ok B ∧ x.log.length ≤ B ∧ nb x.count
theorem XDisk.of {B : Nat} : ∀ r : List PV, be wj r → gO r ≤ B → ∃ x : XDisk, r = x.e ∧ x.Ok B := fun r h hz => by
 obtain ⟨⟨c0, c1, c2, c3, c4, c5, _⟩, e, g0, g1, g2, g3, g4, g5, _⟩ := cf h
 obtain rfl : r = [.str c0, .int _ c1, .lst c2, .lst c3, .lst c4, .int _ c5] := e
 have z0 := Nat.le_trans (cA (i := 0) rfl) hz
 rw [fW] at z0
 have z2 := Nat.le_trans (cA (i := 2) rfl) hz
 obtain ⟨l2, rfl, y2⟩ := ut XStore.of (aD g2).2 z2
 have z3 := Nat.le_trans (cA (i := 3) rfl) hz
 obtain ⟨l3, rfl, y3⟩ := ut XIndexDef.of (aD g3).2 z3
 have z4 := Nat.le_trans (cA (i := 4) rfl) hz
 obtain ⟨b4, rfl⟩ := ER (aD g4).2
 rw [jH, rR] at z4
 have y4 : b4.length ≤ B := by omega
 exact ⟨⟨⟨c0, c1, l2, l3⟩, b4, c5⟩, rfl, ⟨⟨z0, ck g1, y2, y3⟩, y4, ck g5⟩⟩
theorem XDisk.has {B : Nat} (hB : B ≤ maxLen) {x : XDisk} (h : x.Ok B) : be wj x.e := by
 obtain ⟨⟨h0, h1, h2, h3⟩, h4, h5⟩ := h
 simp only [wj, XDisk.e, be]
 exact ⟨by simp only [bR]; exact Nat.le_trans h0 hB, by simp only [bR]; exact ⟨trivial, bO h1⟩, bY (fun _ q => XStore.has hB q) hB h2, bY (fun _ q => XIndexDef.has hB q) hB h3, A8 hB h4, by simp only [bR]; exact ⟨trivial, bO h5⟩, trivial⟩
structure XBucket where
 site : List UInt8
 top : List UInt8
 reg : XRegistration
 caches : XCacheSet
 disk : XDisk
 replica : XReplica
 lastUsed : Int
 persistent : Bool
def XBucket.e (x : XBucket) : List PV := [.str x.site, .str x.top, .str x.reg.site, .int .i64 x.reg.installing, .int .i64 x.reg.waiting, .int .i64 x.reg.active, .lst (x.caches.caches.map XCache.e), .str x.disk.base.name, .int .i64 x.disk.base.version, .lst (x.disk.base.stores.map XStore.e), .lst (x.disk.base.unique.map XIndexDef.e), .lst (aU x.disk.log), .int .i64 x.disk.count, .str x.replica.base.name, .lst (x.replica.base.items.map XItem.e), .int .i64 x.replica.base.auto, .int .i64 x.replica.seen, .int .i64 x.replica.sync.outbox.dev, .int .i64 x.replica.sync.outbox.next, .lst (x.replica.sync.outbox.writes.map XWrite.e), .int .i64 x.replica.sync.tries, .int .i64 x.replica.sync.wait, .int .i64 x.lastUsed, .bool x.persistent]
def XBucket.v (x : XBucket) : V := .agg [.pv (.str x.site), .pv (.str x.top), .pv (.str x.reg.site), .pv (.int .i64 x.reg.installing), .pv (.int .i64 x.reg.waiting), .pv (.int .i64 x.reg.active), .pv (.lst (x.caches.caches.map XCache.e)), .pv (.str x.disk.base.name), .pv (.int .i64 x.disk.base.version), .pv (.lst (x.disk.base.stores.map XStore.e)), .pv (.lst (x.disk.base.unique.map XIndexDef.e)), .pv (.lst (aU x.disk.log)), .pv (.int .i64 x.disk.count), .pv (.str x.replica.base.name), .pv (.lst (x.replica.base.items.map XItem.e)), .pv (.int .i64 x.replica.base.auto), .pv (.int .i64 x.replica.seen), .pv (.int .i64 x.replica.sync.outbox.dev), .pv (.int .i64 x.replica.sync.outbox.next), .pv (.lst (x.replica.sync.outbox.writes.map XWrite.e)), .pv (.int .i64 x.replica.sync.tries), .pv (.int .i64 x.replica.sync.wait), .pv (.int .i64 x.lastUsed), .pv (.bool x.persistent)]
def XBucket.Ok (B : Nat) (x : XBucket) : Prop := x.site.length ≤ B ∧ x.top.length ≤ B ∧ x.reg.Ok B ∧ x.caches.Ok B ∧ x.disk.Ok B ∧ x.replica.Ok B ∧ nb x.lastUsed
theorem XBucket.of {B : Nat} : ∀ r : List PV, be mZ r → gO r ≤ B → ∃ x : XBucket, r = x.e ∧ x.Ok B := fun r h hz => by
 obtain ⟨⟨c0, c1, c2, c3, c4, c5, c6, c7, c8, c9, c10, c11, c12, c13, c14, c15, c16, c17, c18, c19, c20, c21, c22, c23, _⟩, e, g0, g1, g2, g3, g4, g5, g6, g7, g8, g9, g10, g11, g12, g13, g14, g15, g16, g17, g18, g19, g20, g21, g22, g23, _⟩ := cf h
 obtain rfl : r = [.str c0, .str c1, .str c2, .int _ c3, .int _ c4, .int _ c5, .lst c6, .str c7, .int _ c8, .lst c9, .lst c10, .lst c11, .int _ c12, .str c13, .lst c14, .int _ c15, .int _ c16, .int _ c17, .int _ c18, .lst c19, .int _ c20, .int _ c21, .int _ c22, .bool c23] := e
 have z0 := Nat.le_trans (cA (i := 0) rfl) hz
 rw [fW] at z0
 have z1 := Nat.le_trans (cA (i := 1) rfl) hz
 rw [fW] at z1
 have z2 := Nat.le_trans (cA (i := 2) rfl) hz
 rw [fW] at z2
 have z6 := Nat.le_trans (cA (i := 6) rfl) hz
 obtain ⟨l6, rfl, y6⟩ := ut XCache.of (aD g6).2 z6
 have z7 := Nat.le_trans (cA (i := 7) rfl) hz
 rw [fW] at z7
 have z9 := Nat.le_trans (cA (i := 9) rfl) hz
 obtain ⟨l9, rfl, y9⟩ := ut XStore.of (aD g9).2 z9
 have z10 := Nat.le_trans (cA (i := 10) rfl) hz
 obtain ⟨l10, rfl, y10⟩ := ut XIndexDef.of (aD g10).2 z10
 have z11 := Nat.le_trans (cA (i := 11) rfl) hz
 obtain ⟨b11, rfl⟩ := ER (aD g11).2
 rw [jH, rR] at z11
 have y11 : b11.length ≤ B := by omega
 have z13 := Nat.le_trans (cA (i := 13) rfl) hz
 rw [fW] at z13
 have z14 := Nat.le_trans (cA (i := 14) rfl) hz
 obtain ⟨l14, rfl, y14⟩ := ut XItem.of (aD g14).2 z14
 have z19 := Nat.le_trans (cA (i := 19) rfl) hz
 obtain ⟨l19, rfl, y19⟩ := ut XWrite.of (aD g19).2 z19
 exact ⟨⟨c0, c1, ⟨c2, c3, c4, c5⟩, ⟨l6⟩, ⟨⟨c7, c8, l9, l10⟩, b11, c12⟩, ⟨⟨c13, l14, c15⟩, c16, ⟨⟨c17, c18, l19⟩, c20, c21⟩⟩, c22, c23⟩, rfl, ⟨z0, z1, ⟨z2, ck g3, ck g4, ck g5⟩, y6, ⟨⟨z7, ck g8, y9, y10⟩, y11, ck g12⟩, ⟨⟨z13, y14, ck g15⟩, ck g16, ⟨⟨ck g17, ck g18, y19⟩, ck g20, ck g21⟩⟩, ck g22⟩⟩
theorem XBucket.has {B : Nat} (hB : B ≤ maxLen) {x : XBucket} (h : x.Ok B) : be mZ x.e := by
 obtain ⟨h0, h1, ⟨h2, h3, h4, h5⟩, h6, ⟨⟨h7, h8, h9, h10⟩, h11, h12⟩, ⟨⟨h13, h14, h15⟩, h16, ⟨⟨h17, h18, h19⟩, h20, h21⟩⟩, h22⟩ := h
 simp only [mZ, XBucket.e, be]
 exact ⟨by simp only [bR]; exact Nat.le_trans h0 hB, by simp only [bR]; exact Nat.le_trans h1 hB, by simp only [bR]; exact Nat.le_trans h2 hB, by simp only [bR]; exact ⟨trivial, bO h3⟩, by simp only [bR]; exact ⟨trivial, bO h4⟩, by simp only [bR]; exact ⟨trivial, bO h5⟩, bY (fun _ q => XCache.has hB q) hB h6, by simp only [bR]; exact Nat.le_trans h7 hB, by simp only [bR]; exact ⟨trivial, bO h8⟩, bY (fun _ q => XStore.has hB q) hB h9, bY (fun _ q => XIndexDef.has hB q) hB h10, A8 hB h11, by simp only [bR]; exact ⟨trivial, bO h12⟩, by simp only [bR]; exact Nat.le_trans h13 hB, bY (fun _ q => XItem.has hB q) hB h14, by simp only [bR]; exact ⟨trivial, bO h15⟩, by simp only [bR]; exact ⟨trivial, bO h16⟩, by simp only [bR]; exact ⟨trivial, bO h17⟩, by simp only [bR]; exact ⟨trivial, bO h18⟩, bY (fun _ q => XWrite.has hB q) hB h19, by simp only [bR]; exact ⟨trivial, bO h20⟩, by simp only [bR]; exact ⟨trivial, bO h21⟩, by simp only [bR]; exact ⟨trivial, bO h22⟩, by simp only [bR], trivial⟩
structure XLock where
 name : List UInt8
 page : Int
 shared : Bool
 held : Bool
def XLock.e (x : XLock) : List PV := [.str x.name, .int .i64 x.page, .bool x.shared, .bool x.held]
def XLock.v (x : XLock) : V := .agg [.pv (.str x.name), .pv (.int .i64 x.page), .pv (.bool x.shared), .pv (.bool x.held)]
def XLock.Ok (B : Nat) (x : XLock) : Prop := x.name.length ≤ B ∧ nb x.page
theorem XLock.of {B : Nat} : ∀ r : List PV, be wk r → gO r ≤ B → ∃ x : XLock, r = x.e ∧ x.Ok B := fun r h hz => by
 obtain ⟨⟨c0, c1, c2, c3, _⟩, e, g0, g1, g2, g3, _⟩ := cf h
 obtain rfl : r = [.str c0, .int _ c1, .bool c2, .bool c3] := e
 have z0 := Nat.le_trans (cA (i := 0) rfl) hz
 rw [fW] at z0
 exact ⟨⟨c0, c1, c2, c3⟩, rfl, ⟨z0, ck g1⟩⟩
theorem XLock.has {B : Nat} (hB : B ≤ maxLen) {x : XLock} (h : x.Ok B) : be wk x.e := by
 obtain ⟨h0, h1⟩ := h
 simp only [wk, XLock.e, be]
 exact ⟨by simp only [bR]; exact Nat.le_trans h0 hB, by simp only [bR]; exact ⟨trivial, bO h1⟩, by simp only [bR], by simp only [bR], trivial⟩
structure XMail where
 to : Int
 sender : Int
 n : Int
def XMail.e (x : XMail) : List PV := [.int .i64 x.to, .int .i64 x.sender, .int .i64 x.n]
def XMail.v (x : XMail) : V := .agg [.pv (.int .i64 x.to), .pv (.int .i64 x.sender), .pv (.int .i64 x.n)]
def XMail.Ok (B : Nat) (x : XMail) : Prop := nb x.to ∧ nb x.sender ∧ nb x.n
theorem XMail.of {B : Nat} : ∀ r : List PV, be zA r → gO r ≤ B → ∃ x : XMail, r = x.e ∧ x.Ok B := fun r h hz => by
 obtain ⟨⟨c0, c1, c2, _⟩, e, g0, g1, g2, _⟩ := cf h
 obtain rfl : r = [.int _ c0, .int _ c1, .int _ c2] := e
 exact ⟨⟨c0, c1, c2⟩, rfl, ⟨ck g0, ck g1, ck g2⟩⟩
theorem XMail.has {B : Nat} (hB : B ≤ maxLen) {x : XMail} (h : x.Ok B) : be zA x.e := by
 obtain ⟨h0, h1, h2⟩ := h
 simp only [zA, XMail.e, be]
 exact ⟨by simp only [bR]; exact ⟨trivial, bO h0⟩, by simp only [bR]; exact ⟨trivial, bO h1⟩, by simp only [bR]; exact ⟨trivial, bO h2⟩, trivial⟩
structure XSite where
 name : List UInt8
 version : Int
 files : List (List UInt8)
 shared : Bool
def XSite.e (x : XSite) : List PV := [.str x.name, .int .i64 x.version, .lst (x.files.map zn), .bool x.shared]
def XSite.v (x : XSite) : V := .agg [.pv (.str x.name), .pv (.int .i64 x.version), .pv (.lst (x.files.map zn)), .pv (.bool x.shared)]
def XSite.Ok (B : Nat) (x : XSite) : Prop := x.name.length ≤ B ∧ nb x.version ∧ (x.files.length ≤ B ∧ ∀ y ∈ x.files, y.length ≤ B)
theorem XSite.of {B : Nat} : ∀ r : List PV, be wl r → gO r ≤ B → ∃ x : XSite, r = x.e ∧ x.Ok B := fun r h hz => by
 obtain ⟨⟨c0, c1, c2, c3, _⟩, e, g0, g1, g2, g3, _⟩ := cf h
 obtain rfl : r = [.str c0, .int _ c1, .lst c2, .bool c3] := e
 have z0 := Nat.le_trans (cA (i := 0) rfl) hz
 rw [fW] at z0
 have z2 := Nat.le_trans (cA (i := 2) rfl) hz
 obtain ⟨l2, rfl, y2⟩ := ut OE (aD g2).2 z2
 exact ⟨⟨c0, c1, l2, c3⟩, rfl, ⟨z0, ck g1, y2⟩⟩
theorem XSite.has {B : Nat} (hB : B ≤ maxLen) {x : XSite} (h : x.Ok B) : be wl x.e := by
 obtain ⟨h0, h1, h2⟩ := h
 simp only [wl, XSite.e, be]
 exact ⟨by simp only [bR]; exact Nat.le_trans h0 hB, by simp only [bR]; exact ⟨trivial, bO h1⟩, bY (fun _ q => NN hB q) hB h2, by simp only [bR], trivial⟩
theorem XKey.Ok.mono {A B : Nat} (hAB : A ≤ B) {x : XKey} (h : x.Ok A) : x.Ok B := by
 obtain ⟨h0, h1, h2⟩ := h
 exact ⟨h0, h1, Nat.le_trans h2 hAB⟩
theorem XField.Ok.mono {A B : Nat} (hAB : A ≤ B) {x : XField} (h : x.Ok A) : x.Ok B := by
 obtain ⟨h0, h1⟩ := h
 exact ⟨Nat.le_trans h0 hAB, h1⟩
theorem XRecord.Ok.mono {A B : Nat} (hAB : A ≤ B) {x : XRecord} (h : x.Ok A) : x.Ok B := by
 have h0 := h
 exact ⟨Nat.le_trans h0.1 hAB, fun y m => XField.Ok.mono hAB (h0.2 y m)⟩
theorem XItem.Ok.mono {A B : Nat} (hAB : A ≤ B) {x : XItem} (h : x.Ok A) : x.Ok B := by
 obtain ⟨h0, h1⟩ := h
 exact ⟨XKey.Ok.mono hAB h0, XRecord.Ok.mono hAB h1⟩
theorem XStore.Ok.mono {A B : Nat} (hAB : A ≤ B) {x : XStore} (h : x.Ok A) : x.Ok B := by
 obtain ⟨h0, h1, h2⟩ := h
 exact ⟨Nat.le_trans h0 hAB, ⟨Nat.le_trans h1.1 hAB, fun y m => XItem.Ok.mono hAB (h1.2 y m)⟩, h2⟩
theorem XWrite.Ok.mono {A B : Nat} (hAB : A ≤ B) {x : XWrite} (h : x.Ok A) : x.Ok B := by
 obtain ⟨h0, h1, h2, h3, h4⟩ := h
 exact ⟨h0, h1, XKey.Ok.mono hAB h2, Nat.le_trans h3 hAB, h4⟩
theorem XApplied.Ok.mono {A B : Nat} (hAB : A ≤ B) {x : XApplied} (h : x.Ok A) : x.Ok B := by
 obtain ⟨h0, h1⟩ := h
 exact ⟨h0, h1⟩
theorem XServer.Ok.mono {A B : Nat} (hAB : A ≤ B) {x : XServer} (h : x.Ok A) : x.Ok B := by
 obtain ⟨h0, h1, h2⟩ := h
 exact ⟨XStore.Ok.mono hAB h0, ⟨Nat.le_trans h1.1 hAB, fun y m => XApplied.Ok.mono hAB (h1.2 y m)⟩, ⟨Nat.le_trans h2.1 hAB, fun y m => XWrite.Ok.mono hAB (h2.2 y m)⟩⟩
theorem XOutbox.Ok.mono {A B : Nat} (hAB : A ≤ B) {x : XOutbox} (h : x.Ok A) : x.Ok B := by
 obtain ⟨h0, h1, h2⟩ := h
 exact ⟨h0, h1, ⟨Nat.le_trans h2.1 hAB, fun y m => XWrite.Ok.mono hAB (h2.2 y m)⟩⟩
theorem XSync.Ok.mono {A B : Nat} (hAB : A ≤ B) {x : XSync} (h : x.Ok A) : x.Ok B := by
 obtain ⟨h0, h1, h2⟩ := h
 exact ⟨XOutbox.Ok.mono hAB h0, h1, h2⟩
theorem XReplica.Ok.mono {A B : Nat} (hAB : A ≤ B) {x : XReplica} (h : x.Ok A) : x.Ok B := by
 obtain ⟨h0, h1, h2⟩ := h
 exact ⟨XStore.Ok.mono hAB h0, h1, XSync.Ok.mono hAB h2⟩
theorem XResponse.Ok.mono {A B : Nat} (hAB : A ≤ B) {x : XResponse} (h : x.Ok A) : x.Ok B := by
 obtain ⟨h0, h1, h2, h3⟩ := h
 exact ⟨h0, h1, h2, Nat.le_trans h3 hAB⟩
theorem XCached.Ok.mono {A B : Nat} (hAB : A ≤ B) {x : XCached} (h : x.Ok A) : x.Ok B := by
 obtain ⟨h0, h1, h2⟩ := h
 exact ⟨Nat.le_trans h0 hAB, Nat.le_trans h1 hAB, XResponse.Ok.mono hAB h2⟩
theorem XCache.Ok.mono {A B : Nat} (hAB : A ≤ B) {x : XCache} (h : x.Ok A) : x.Ok B := by
 obtain ⟨h0, h1⟩ := h
 exact ⟨h0, ⟨Nat.le_trans h1.1 hAB, fun y m => XCached.Ok.mono hAB (h1.2 y m)⟩⟩
theorem XCacheSet.Ok.mono {A B : Nat} (hAB : A ≤ B) {x : XCacheSet} (h : x.Ok A) : x.Ok B := by
 have h0 := h
 exact ⟨Nat.le_trans h0.1 hAB, fun y m => XCache.Ok.mono hAB (h0.2 y m)⟩
theorem XRegistration.Ok.mono {A B : Nat} (hAB : A ≤ B) {x : XRegistration} (h : x.Ok A) : x.Ok B := by
 obtain ⟨h0, h1, h2, h3⟩ := h
 exact ⟨Nat.le_trans h0 hAB, h1, h2, h3⟩
theorem XLoaded.Ok.mono {A B : Nat} (hAB : A ≤ B) {x : XLoaded} (h : x.Ok A) : x.Ok B := by
 obtain ⟨h0, h1⟩ := h
 exact ⟨Nat.le_trans h0 hAB, h1⟩
theorem XInstr.Ok.mono {A B : Nat} (hAB : A ≤ B) {x : XInstr} (h : x.Ok A) : x.Ok B := by
 obtain ⟨h0, h1, h2, h3⟩ := h
 exact ⟨h0, h1, h2, Nat.le_trans h3 hAB⟩
theorem XMachine.Ok.mono {A B : Nat} (hAB : A ≤ B) {x : XMachine} (h : x.Ok A) : x.Ok B := by
 obtain ⟨h0, h1, h2, h3⟩ := h
 exact ⟨⟨Nat.le_trans h0.1 hAB, fun y m => XInstr.Ok.mono hAB (h0.2 y m)⟩, h1, ⟨Nat.le_trans h2.1 hAB, h2.2⟩, h3⟩
theorem XPage.Ok.mono {A B : Nat} (hAB : A ≤ B) {x : XPage} (h : x.Ok A) : x.Ok B := by
 obtain ⟨h0, h1, h2, h3, h4, h5⟩ := h
 exact ⟨h0, Nat.le_trans h1 hAB, Nat.le_trans h2 hAB, h3, ⟨Nat.le_trans h4.1 hAB, fun y m => XLoaded.Ok.mono hAB (h4.2 y m)⟩, XMachine.Ok.mono hAB h5⟩
theorem XIndexDef.Ok.mono {A B : Nat} (hAB : A ≤ B) {x : XIndexDef} (h : x.Ok A) : x.Ok B := by
 obtain ⟨h0, h1⟩ := h
 exact ⟨Nat.le_trans h0 hAB, Nat.le_trans h1 hAB⟩
theorem XDatabase.Ok.mono {A B : Nat} (hAB : A ≤ B) {x : XDatabase} (h : x.Ok A) : x.Ok B := by
 obtain ⟨h0, h1, h2, h3⟩ := h
 exact ⟨Nat.le_trans h0 hAB, h1, ⟨Nat.le_trans h2.1 hAB, fun y m => XStore.Ok.mono hAB (h2.2 y m)⟩, ⟨Nat.le_trans h3.1 hAB, fun y m => XIndexDef.Ok.mono hAB (h3.2 y m)⟩⟩
theorem XDisk.Ok.mono {A B : Nat} (hAB : A ≤ B) {x : XDisk} (h : x.Ok A) : x.Ok B := by
 obtain ⟨h0, h1, h2⟩ := h
 exact ⟨XDatabase.Ok.mono hAB h0, Nat.le_trans h1 hAB, h2⟩
theorem XBucket.Ok.mono {A B : Nat} (hAB : A ≤ B) {x : XBucket} (h : x.Ok A) : x.Ok B := by
 obtain ⟨h0, h1, h2, h3, h4, h5, h6⟩ := h
 exact ⟨Nat.le_trans h0 hAB, Nat.le_trans h1 hAB, XRegistration.Ok.mono hAB h2, XCacheSet.Ok.mono hAB h3, XDisk.Ok.mono hAB h4, XReplica.Ok.mono hAB h5, h6⟩
theorem XLock.Ok.mono {A B : Nat} (hAB : A ≤ B) {x : XLock} (h : x.Ok A) : x.Ok B := by
 obtain ⟨h0, h1⟩ := h
 exact ⟨Nat.le_trans h0 hAB, h1⟩
theorem XMail.Ok.mono {A B : Nat} (hAB : A ≤ B) {x : XMail} (h : x.Ok A) : x.Ok B := by
 obtain ⟨h0, h1, h2⟩ := h
 exact ⟨h0, h1, h2⟩
theorem XSite.Ok.mono {A B : Nat} (hAB : A ≤ B) {x : XSite} (h : x.Ok A) : x.Ok B := by
 obtain ⟨h0, h1, h2⟩ := h
 exact ⟨Nat.le_trans h0 hAB, h1, ⟨Nat.le_trans h2.1 hAB, fun y m => Nat.le_trans (h2.2 y m) hAB⟩⟩
end Gi
