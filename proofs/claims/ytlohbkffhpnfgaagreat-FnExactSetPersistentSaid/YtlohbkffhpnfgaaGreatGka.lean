/- Of this proof. -/
import Derived.Test.YtlohbkffhpnfgaaGreatGsr
import Derived.Test.YtlohbkffhpnfgaaGreatGxt
import Derived.Lib.Bytealg
set_option linter.unusedSimpArgs false
set_option linter.unusedVariables false
namespace Gi
open Go Go.RowKit
set_option maxHeartbeats 4000000
set_option maxRecDepth 4000
def aF : Nat → List V → Option V := fun k xz => match k, xz with
 | 363, [.one (.pv (.str a)), .one (.pv (.str b))] => some (aa .i64 (Lib.compareBytes a b))
 | _, _ => none
theorem aQ : kH (ae Ph aF) := JH fun k xz r h => by
 unfold aF at h
 split at h
 ·cases h; rfl
 ·cases h
theorem nD {a b : List UInt8} : ie .neq a b = some (ar (!(a == b))) := rfl
theorem nC {a b : List UInt8} : ie .eql a b = some (ar (a == b)) := rfl
theorem bU : IntKind.i64.wrap 1 = 1 := by rw [IntKind.wrap_i64]; rfl
theorem mz {j n : Nat} (hn : n ≤ maxLen) (hj : j + 1 < n) : IntKind.i64.wrap ((j : Int) + 1 + 1) = (j : Int) + 1 + 1 ∧ IntKind.i64.wrap (j : Int) = (j : Int) ∧ (0 : Int) < (j : Int) + 1 ∧ (0 : Int) ≤ (j : Int) + 1 ∧ ((j : Int) + 1).toNat = j + 1 ∧ (j : Int) + 1 < (n : Int) := by
 unfold maxLen at hn
 refine ⟨?_, ?_, by omega, by omega, by omega, by omega⟩ <;> rw [IntKind.wrap_i64] <;> omega
theorem eI {m z : Nat} (hm : m ≤ 4194304) (hz : z ≤ 4096) : m * z ≤ 140737488355328 ∧ m ≤ 9223372036854775807 ∧ m ≤ 9223372036854775806 ∧ m < 9223372036854775807 := by
 refine ⟨?_, by omega, by omega, by omega⟩
 calc m * z ≤ 4194304 * 4096 := Nat.mul_le_mul hm hz
  _ ≤ 140737488355328 := by decide
theorem bT {α : Type} {e : α → List PV} {xs : List α} {k : Nat} (hk : k < xs.length) : (xs.map e).take (k + 1) = (xs.map e).take k ++ [e xs[k]] := by
 rw [List.take_succ_eq_append_getElem (by simpa using hk)]; simp
theorem dC {α : Type} {e : α → List PV} (h : ∀ x, (e x).all PV.flat = true) (xs : List α) : lf (xs.map e) = true := by
 simp only [lf, List.all_map, List.all_eq_true, Function.comp]; exact fun x _ => by simpa [List.all_eq_true] using h x
theorem du {α : Type} {e : α → List PV} {z : Nat} (h : ∀ x, (e x).length = z) (xs : List α) : ((xs.map e).all fun r => r.length == z) = true := by
 simp only [List.all_map, List.all_eq_true, Function.comp, beq_iff_eq]; exact fun x _ => h x
theorem n7 (s : List UInt8) : lf (ak s) = true := dC (e := fun b : UInt8 => [PV.int .u8 b.toNat]) (fun _ => rfl) s
theorem iy (s : List UInt8) : ((ak s).all fun r => r.length == 1) = true := du (e := fun b : UInt8 => [PV.int .u8 b.toNat]) (z := 1) (fun _ => rfl) s
def nd (z : Nat) : List (List PV) → L
 | [] => .nil
 | r :: rs => .down z (r :: rs)
def D7 (z : Nat) : List (List PV) → L
 | [] => .nil
 | r :: rs => .own z (r :: rs)
def qe : List (List PV) → L
 | [] => .nil
 | r :: rs => .pv (.lst (r :: rs))
theorem ez (z : Nat) (rows : List (List PV)) : (rows = [] ∧ nd z rows = .nil) ∨ (rows ≠ [] ∧ nd z rows = .down z rows) := by
 cases rows with
 | nil => exact .inl ⟨rfl, rfl⟩
 | cons r rs => exact .inr ⟨by simp, rfl⟩
theorem cy {z : Nat} {rows : List (List PV)} : di (nd z rows) = qe rows := by cases rows <;> rfl
theorem bL {z : Nat} {rows : List (List PV)} : di (D7 z rows) = qe rows := by cases rows <;> rfl
theorem bK {rows : List (List PV)} : di (qe rows) = qe rows := by cases rows <;> rfl
theorem bN {h : List AObj} {rows : List (List PV)} : L.view h (qe rows) = some (.lst rows) := by cases rows <;> rfl
theorem bi {rows : List (List PV)} : plain (qe rows) = true := by cases rows <;> rfl
theorem cu {h : List AObj} {rows : List (List PV)} : L.mut h (qe rows) = false := by cases rows <;> rfl
theorem aW {h : List AObj} {rows : List (List PV)} : freezeL h (qe rows) = h := by cases rows <;> rfl
theorem bJ {h : List AObj} {rows : List (List PV)} : br h (qe rows) = some (qe rows) := by cases rows <;> rfl
theorem aP {f : List Nat} {rows : List (List PV)} : (qe rows).ren f = some (qe rows) := by cases rows <;> rfl
theorem aX {o : Nat} {rows : List (List PV)} : L.notArr o (qe rows) = true := by cases rows <;> rfl
theorem bI {rows : List (List PV)} : L.flat (qe rows) = false := by cases rows <;> rfl
theorem bM {h : List AObj} {rows : List (List PV)} {ls : List L} : thawL h (qe rows :: ls) = ((qe rows :: (thawL h ls).1), (thawL h ls).2) := by cases rows <;> rfl
theorem dv : ah [] = [] := rfl
theorem cq {p : PV} {ls : List L} : ah (.pv p :: ls) = ah ls := rfl
theorem bH {ls : List L} : ah (.nil :: ls) = ah ls := rfl
theorem bF {o : Nat} {ls : List L} : ah (.arr o :: ls) = o :: ah ls := rfl
theorem bG {rows : List (List PV)} {ls : List L} : ah (qe rows :: ls) = ah ls := by cases rows <;> rfl
theorem Kn.q (f : List Nat) {t t' : List V} {h h' : List AObj} (ho : bh f h' f h := by simp [aO, aM, aN, dL, bn, aL, bd, aD, dh, bD, bh, bR, L.ren, aP]) (ht : aL f t t' := by simp [aO, aM, aN, dL, bn, aL, bd, aD, dh, bD, bh, bR, L.ren, aP]) (nd : f.Nodup := by decide) : Kn ⟨t, h⟩ ⟨t', h'⟩ := Kn.of f nd ho ht
def iV : List AObj → Nat → List Nat
 | [], _ => []
 | _ :: r, k => k :: iV r (k + 1)
theorem Kz : ∀ {h : List AObj} {k x : Nat}, x ∈ iV h k → k ≤ x
 | _ :: _, _, _, h => by
  rcases List.mem_cons.1 h with rfl | h
  ·exact Nat.le_refl _
  ·have := Kz h; omega
theorem Dj : ∀ (h : List AObj) (k : Nat), (iV h k).Nodup
 | [], _ => List.nodup_nil
 | _ :: r, k => List.nodup_cons.2 ⟨fun h => by have := Kz h; omega, Dj r (k + 1)⟩
theorem fi {t t' : List V} {h h' : List AObj} (hh : bh (iV h 0) h' (iV h 0) h ∧ aL (iV h 0) t t') : Kn ⟨t, h⟩ ⟨t', h'⟩ := Kn.of _ (Dj h 0) hh.1 hh.2
theorem fX {p : PV} : L.ow (.pv p) = .pv p := rfl
theorem dX : L.ow .nil = .nil := rfl
theorem dY {z : Nat} {rows : List (List PV)} : L.ow (.own z rows) = .own z rows := rfl
theorem cV {z : Nat} {rows : List (List PV)} : L.ow (.down z rows) = .own z rows := rfl
theorem fW {z : Nat} {rows : List (List PV)} : L.ow (nd z rows) = D7 z rows := by cases rows <;> rfl
theorem cW {z : Nat} {rows : List (List PV)} : L.ow (D7 z rows) = D7 z rows := by cases rows <;> rfl
theorem dW {rows : List (List PV)} : L.ow (qe rows) = qe rows := by cases rows <;> rfl
theorem AQ (z : Nat) (rows : List (List PV)) : (rows = [] ∧ nd z rows = .nil ∧ D7 z rows = .nil) ∨ (rows ≠ [] ∧ nd z rows = .down z rows ∧ D7 z rows = .own z rows) := by
 cases rows with
 | nil => exact .inl ⟨rfl, rfl, rfl⟩
 | cons r rs => exact .inr ⟨by simp, rfl, rfl⟩
abbrev XKey.v (x : XKey) : V := .agg [.pv (.int .i64 x.kind), .pv (.int .i64 x.n), .pv (.str x.text)]
abbrev XField.v (x : XField) : V := .agg [.pv (.str x.name), .pv (.int .i64 x.n)]
abbrev XRecord.v (x : XRecord) : V := .agg [.pv (.lst (x.fs.map XField.e))]
abbrev XItem.v (x : XItem) : V := .agg [.pv (.int .i64 x.key.kind), .pv (.int .i64 x.key.n), .pv (.str x.key.text), .pv (.lst (x.rcd.fs.map XField.e))]
abbrev XStore.v (x : XStore) : V := .agg [.pv (.str x.name), .pv (.lst (x.items.map XItem.e)), .pv (.int .i64 x.auto)]
abbrev XWrite.v (x : XWrite) : V := .agg [.pv (.int .i64 x.dev), .pv (.int .i64 x.seq), .pv (.int .i64 x.key.kind), .pv (.int .i64 x.key.n), .pv (.str x.key.text), .pv (.str x.field), .pv (.int .i64 x.n)]
abbrev XApplied.v (x : XApplied) : V := .agg [.pv (.int .i64 x.dev), .pv (.int .i64 x.seq)]
abbrev XServer.v (x : XServer) : V := .agg [.pv (.str x.store.name), .pv (.lst (x.store.items.map XItem.e)), .pv (.int .i64 x.store.auto), .pv (.lst (x.applied.map XApplied.e)), .pv (.lst (x.changes.map XWrite.e))]
abbrev XOutbox.v (x : XOutbox) : V := .agg [.pv (.int .i64 x.dev), .pv (.int .i64 x.next), .pv (.lst (x.writes.map XWrite.e))]
abbrev XSync.v (x : XSync) : V := .agg [.pv (.int .i64 x.outbox.dev), .pv (.int .i64 x.outbox.next), .pv (.lst (x.outbox.writes.map XWrite.e)), .pv (.int .i64 x.tries), .pv (.int .i64 x.wait)]
abbrev XReplica.v (x : XReplica) : V := .agg [.pv (.str x.base.name), .pv (.lst (x.base.items.map XItem.e)), .pv (.int .i64 x.base.auto), .pv (.int .i64 x.seen), .pv (.int .i64 x.sync.outbox.dev), .pv (.int .i64 x.sync.outbox.next), .pv (.lst (x.sync.outbox.writes.map XWrite.e)), .pv (.int .i64 x.sync.tries), .pv (.int .i64 x.sync.wait)]
abbrev XResponse.v (x : XResponse) : V := .agg [.pv (.int .i64 x.type), .pv (.int .i64 x.status), .pv (.int .i64 x.version), .pv (.lst (ak x.body)), .pv (.bool x.shares)]
abbrev XCached.v (x : XCached) : V := .agg [.pv (.str x.site), .pv (.str x.path), .pv (.int .i64 x.resp.type), .pv (.int .i64 x.resp.status), .pv (.int .i64 x.resp.version), .pv (.lst (ak x.resp.body)), .pv (.bool x.resp.shares)]
abbrev XCache.v (x : XCache) : V := .agg [.pv (.int .i64 x.version), .pv (.lst (x.entries.map XCached.e))]
abbrev XCacheSet.v (x : XCacheSet) : V := .agg [.pv (.lst (x.caches.map XCache.e))]
abbrev XRegistration.v (x : XRegistration) : V := .agg [.pv (.str x.site), .pv (.int .i64 x.installing), .pv (.int .i64 x.waiting), .pv (.int .i64 x.active)]
abbrev XLoaded.v (x : XLoaded) : V := .agg [.pv (.str x.path), .pv (.int .i64 x.version)]
abbrev XInstr.v (x : XInstr) : V := .agg [.pv (.int .i64 x.kind), .pv (.int .i64 x.r), .pv (.int .i64 x.n), .pv (.str x.text)]
abbrev XMachine.v (x : XMachine) : V := .agg [.pv (.lst (x.script.map XInstr.e)), .pv (.int .i64 x.pc), .pv (.lst (x.regs.map sM)), .pv (.int .i64 x.steps), .pv (.bool x.done), .pv (.bool x.wait)]
abbrev XPage.v (x : XPage) : V := .agg [.pv (.int .i64 x.id), .pv (.str x.site), .pv (.str x.top), .pv (.int .i64 x.version), .pv (.lst (x.loaded.map XLoaded.e)), .pv (.lst (x.machine.script.map XInstr.e)), .pv (.int .i64 x.machine.pc), .pv (.lst (x.machine.regs.map sM)), .pv (.int .i64 x.machine.steps), .pv (.bool x.machine.done), .pv (.bool x.machine.wait)]
abbrev XIndexDef.v (x : XIndexDef) : V := .agg [.pv (.str x.store), .pv (.str x.field)]
abbrev XDatabase.v (x : XDatabase) : V := .agg [.pv (.str x.name), .pv (.int .i64 x.version), .pv (.lst (x.stores.map XStore.e)), .pv (.lst (x.unique.map XIndexDef.e))]
abbrev XDisk.v (x : XDisk) : V := .agg [.pv (.str x.base.name), .pv (.int .i64 x.base.version), .pv (.lst (x.base.stores.map XStore.e)), .pv (.lst (x.base.unique.map XIndexDef.e)), .pv (.lst (ak x.log)), .pv (.int .i64 x.count)]
abbrev XBucket.v (x : XBucket) : V := .agg [.pv (.str x.site), .pv (.str x.top), .pv (.str x.reg.site), .pv (.int .i64 x.reg.installing), .pv (.int .i64 x.reg.waiting), .pv (.int .i64 x.reg.active), .pv (.lst (x.caches.caches.map XCache.e)), .pv (.str x.disk.base.name), .pv (.int .i64 x.disk.base.version), .pv (.lst (x.disk.base.stores.map XStore.e)), .pv (.lst (x.disk.base.unique.map XIndexDef.e)), .pv (.lst (ak x.disk.log)), .pv (.int .i64 x.disk.count), .pv (.str x.replica.base.name), .pv (.lst (x.replica.base.items.map XItem.e)), .pv (.int .i64 x.replica.base.auto), .pv (.int .i64 x.replica.seen), .pv (.int .i64 x.replica.sync.outbox.dev), .pv (.int .i64 x.replica.sync.outbox.next), .pv (.lst (x.replica.sync.outbox.writes.map XWrite.e)), .pv (.int .i64 x.replica.sync.tries), .pv (.int .i64 x.replica.sync.wait), .pv (.int .i64 x.lastUsed), .pv (.bool x.persistent)]
abbrev XStorage.v (x : XStorage) : V := .agg [.pv (.lst (x.buckets.map XBucket.e))]
abbrev XLock.v (x : XLock) : V := .agg [.pv (.str x.name), .pv (.int .i64 x.page), .pv (.bool x.shared), .pv (.bool x.held)]
abbrev XLockTable.v (x : XLockTable) : V := .agg [.pv (.lst (x.locks.map XLock.e))]
abbrev XMail.v (x : XMail) : V := .agg [.pv (.int .i64 x.to), .pv (.int .i64 x.sender), .pv (.int .i64 x.n)]
abbrev XChannel.v (x : XChannel) : V := .agg [.pv (.lst (x.mails.map XMail.e))]
abbrev XSite.v (x : XSite) : V := .agg [.pv (.str x.name), .pv (.int .i64 x.version), .pv (.lst (x.files.map uq)), .pv (.bool x.shared)]
abbrev XWorld.v (x : XWorld) : V := .agg [.pv (.int .i64 x.now), .pv (.bool x.online), .pv (.int .i64 x.device), .pv (.lst (x.storage.buckets.map XBucket.e)), .pv (.lst (x.pages.map XPage.e)), .pv (.int .i64 x.nextPage), .pv (.lst (x.locks.locks.map XLock.e)), .pv (.lst (x.channel.mails.map XMail.e)), .pv (.lst (x.sites.map XSite.e)), .pv (.lst (x.servers.map XServer.e))]
def dE (a b : Int) : Bool := decide (a < b)
theorem QQ (a b : Int) : decide (a ≤ b) = !(dE b a) := by unfold dE; by_cases h : a ≤ b <;> simp [h] <;> omega
theorem lG {a b : Int} (h : a < b) : dE a b = true := decide_eq_true h
theorem wg {a b : Int} (h : b ≤ a) : dE a b = false := decide_eq_false (by omega)
theorem Cr : ∀ (a b : List UInt8), (Op.bytesLess a b || a == b) = !(Op.bytesLess b a)
 | [], [] => rfl
 | [], _ :: _ => rfl
 | _ :: _, [] => rfl
 | a :: xz, b :: bs => by
  have ih := Cr xz bs
  simp only [Op.bytesLess]
  by_cases h1 : a < b
  ·have h2 : ¬ b < a := fun h => absurd (UInt8.lt_trans h1 h) (UInt8.lt_irrefl _)
   have h3 : ¬ b = a := fun h => by subst h; exact absurd h1 (UInt8.lt_irrefl _)
   simp [h1, h2, h3]
  ·by_cases h2 : b < a
   ·have h3 : ¬ a = b := fun h => by subst h; exact absurd h2 (UInt8.lt_irrefl _)
    simp [h1, h2, h3]
   ·obtain rfl : a = b := UInt8.le_antisymm (UInt8.not_lt.1 h2) (UInt8.not_lt.1 h1)
    simpa [UInt8.lt_irrefl] using ih
def jJ (op : BinOp) (k : IntKind) (a b : Int) : Option V :=
 match op with
 | .add => some (aa k (k.wrap (a + b)))
 | .sub => some (aa k (k.wrap (a - b)))
 | .mul => some (aa k (k.wrap (a * b)))
 | .quo => if b = 0 then none else some (aa k (k.wrap (a.tdiv b)))
 | .rem => if b = 0 then none else some (aa k (a.tmod b))
 | .and => some (aa k (k.wrap ((BitVec.ofInt k.bits a &&& BitVec.ofInt k.bits b).toNat)))
 | .or => some (aa k (k.wrap ((BitVec.ofInt k.bits a ||| BitVec.ofInt k.bits b).toNat)))
 | .eql => some (ar (a == b))
 | .neq => some (ar (!(a == b)))
 | .lss => some (ar (dE a b))
 | .leq => some (ar (!(dE b a)))
 | .gtr => some (ar (dE b a))
 | .geq => some (ar (!(dE a b)))
 | _ => none
theorem cT (op : BinOp) (k : IntKind) (a b : Int) : bC op k a b = jJ op k a b := by cases op <;> simp only [bC, jJ, QQ] <;> rfl
def jK (op : BinOp) (a b : List UInt8) : Option V :=
 match op with
 | .add => if a.length + b.length ≤ 9223372036854775807 then some (dM (a ++ b)) else none
 | .eql => some (ar (a == b))
 | .neq => some (ar (!(a == b)))
 | .lss => some (ar (Op.bytesLess a b))
 | .leq => some (ar (!(Op.bytesLess b a)))
 | .gtr => some (ar (Op.bytesLess b a))
 | .geq => some (ar (!(Op.bytesLess a b)))
 | _ => none
theorem cU (op : BinOp) (a b : List UInt8) : ie op a b = jK op a b := by cases op <;> simp only [ie, jK, Cr] <;> simp
theorem aE {n k : Nat} (hn : n ≤ maxLen) (hk : k < n) : IntKind.i64.wrap ((k : Int) + 1) = (k : Int) + 1 := by
 unfold maxLen at hn; rw [IntKind.wrap_i64]; omega
theorem aU {n k : Nat} (h : k < n) : dE (k : Int) (n : Int) = true := lG (by omega)
theorem fV (n : Nat) : dE (n : Int) (n : Int) = false := wg (Int.le_refl _)
theorem sV {n k : Nat} (hn : n ≤ maxLen) (hk : k < n) : (dE 0 (k : Int) = true → IntKind.i64.wrap ((k : Int) - 1) = ((k - 1 : Nat) : Int)) ∧ k - 1 < n := by
 refine ⟨fun h => ?_, by omega⟩
 have := of_decide_eq_true h
 unfold maxLen at hn; rw [IntKind.wrap_i64]; omega
end Gi
