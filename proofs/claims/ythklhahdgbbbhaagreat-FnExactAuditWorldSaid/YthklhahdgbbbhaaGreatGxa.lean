/- Of this proof. -/
import Derived.Test.YthklhahdgbbbhaaGreatGtw
import Derived.Test.YthklhahdgbbbhaaGreatGsp
import Derived.Test.YthklhahdgbbbhaaGreatGuo
import Derived.Test.YthklhahdgbbbhaaGreatGxd
import Derived.Test.YthklhahdgbbbhaaGreatGxt
set_option linter.unusedSimpArgs false
namespace Gi
open Go Go.RowKit
set_option maxHeartbeats 4000000
set_option maxRecDepth 4000
attribute [local simp] bW am bg bt cF dN Opd.ev put V.cells plain bz hJ isInt isStr isBool bin bf aS aR un asList L.view aB V.view viewL bC aC aT cj comp bq bZ a8 V.flat L.flat dX dJ bS putAt thaw thawL freezeVs freezeLs freezeL V.mut L.mut bm aZ wp_seq wp_block bE wp_cond wp_skip wp_exit wp_ret cN cE cK cH cS cT cR cq bj L.notArr
theorem bh : nS (aa Ph al) := IZ fun k xz r h => by
 unfold al at h
 repeat' (split at h)
 all_goals first | (cases h; rfl) | (cases h; done)
theorem rX {p : List PV → Bool} : ∀ {rs : List (List PV)} {k : Nat}, (∀ j (hj : j < rs.length), p rs[j] = false) → bN p rs k = -1
 | [], _, _ => rfl
 | r :: rs, k, h => by
  have h0 : p r = false := h 0 (by simp)
  unfold bN
  rw [h0]
  exact rX fun j hj => h (j + 1) (by simp; omega)
theorem nW {p : List PV → Bool} : ∀ {rs : List (List PV)} {k j : Nat} (hj : j < rs.length), p rs[j] = true → (∀ i (hi : i < j), p (rs[i]'(by omega)) = false) → bN p rs k = ((k + j : Nat) : Int)
 | [], _, _, h, _, _ => by simp at h
 | r :: rs, k, 0, _, h, _ => by
  have h0 : p r = true := h
  unfold bN
  rw [h0]; rfl
 | r :: rs, k, j + 1, hj, h, hn => by
  have h0 : p r = false := hn 0 (by omega)
  unfold bN
  rw [h0, cond_false, nW (k := k + 1) (j := j) (by simpa using hj) h (fun i hi => hn (i + 1) (by omega))]
  congr 1; omega
theorem yQ {p : List PV → Bool} : ∀ {rs : List (List PV)} {k : Nat}, decide (0 ≤ bN p rs k) = rs.any p
 | [], _ => rfl
 | r :: rs, k => by
  unfold bN
  rw [List.any_cons]
  cases p r with
  | true => simp
  | false => simpa using yQ
theorem Eb {call : Nat → List V → Option V} (hc : nS call) {c : ACode} (hz : c.zOk = true) {rows : List (List PV)} {p : List PV → Bool} {S R : Nat → St} {σe : St} {e er : Ex} (st : ∀ k (hk : k < rows.length), p rows[k] = false → iy call c (S k) (S (k + 1))) (le : ∀ k (hk : k < rows.length), p rows[k] = true → ff call c (S k) er (R k)) (E : ff call c (S rows.length) e σe) :
 (bN p rows 0 = -1 ∧ rows.any p = false ∧ ff call c (S 0) e σe) ∨ ∃ j, ∃ hj : j < rows.length, bN p rows 0 = (j : Int) ∧ p rows[j] = true ∧ rows.any p = true ∧ ff call c (S 0) er (R j) := by
 have at' : ∀ k (hk : k < rows.length), (match rows[k]? with | some r => p r | none => false) = p rows[k] := fun k hk => by simp [hk]
 rcases Ec hc hz (R := R) (fun k => match rows[k]? with | some r => p r | none => false) (fun k hk h => st k hk (by rw [← at' k hk]; exact h)) (fun k hk h => le k hk (by rw [← at' k hk]; exact h)) E with ⟨h1, h2⟩ | ⟨k, h1, h2, h4, h3⟩
 ·refine .inl ⟨rX fun j hj => by rw [← at' j hj]; exact h1 j hj, ?_, h2⟩
  rw [List.any_eq_false]
  intro x hx
  obtain ⟨k, hk, rfl⟩ := List.mem_iff_getElem.1 hx
  have := h1 k hk
  rw [at' k hk] at this
  simp [this]
 ·refine .inr ⟨k, h1, ?_, by rw [← at' k h1]; exact h2, ?_, h3⟩
  ·have := nW (p := p) (k := 0) h1 (by rw [← at' k h1]; exact h2) (fun i hi => by rw [← at' i (by omega)]; exact h4 i hi)
   simpa using this
  ·rw [List.any_eq_true]
   exact ⟨rows[k], List.getElem_mem h1, by rw [← at' k h1]; exact h2⟩
def i1 (n : Int) : List PV := [.int .i64 n]
def Pl (x : Int) : List PV → Bool
 | [.int _ n] => x == n
 | _ => false
theorem zq {ns : List Int} (hl : ns.length ≤ maxLen) (x : Int) : aa Ph al 321 [bJ (ns.map i1), ae .i64 x] = some (ae .i64 (bN (Pl x) (ns.map i1) 0)) := by
 refine aw (fn := jB) rfl ?_
 have E := Eb (call := aa Ph al) bh (c := eT) rfl (rows := ns.map i1) (p := Pl x) (e := .exit 0) (er := .ret)
  (S := fun k => ⟨(bJ (ns.map i1) :: ae .i64 x :: J4 (.one .junk :: ae .i64 ns.length :: ae .i64 k :: J4 (J4 (.one .junk :: .one .junk :: [])))), []⟩)
  (R := fun k => ⟨(J4 (ae .i64 k :: J4 (J4 (J4 (.one .junk :: .one .junk :: []))))), []⟩) (σe := ⟨(bV (.one .junk :: .one .junk :: .one .junk :: [])), []⟩)
  (fun k hk hp => by
   simp only [List.length_map] at hk
   have hw := ag (k := k) (by unfold maxLen at hl; omega)
   have hq : (x == ns[k]) = false := by simpa [Pl, i1] using hp
   refine iy.of ?_
   simp [eT, hk, hw, i1, hq]
   exact Kn.r [] trivial)
  (fun k hk hp => by
   simp only [List.length_map] at hk
   have hq : (x == ns[k]) = true := by simpa [Pl, i1] using hp
   refine ff.stop (by simp) ?_
   simp [eT, hk, i1, hq]
   exact Kn.r [] trivial)
  (by
   refine ff.stop (by simp) ?_
   simp [eT]
   exact Kn.r [] trivial)
 simp [jB]
 rcases E with ⟨h1, _, E⟩ | ⟨j, hj, h1, _, _, E⟩
 ·refine cw bh Cl.fin rfl E (Kn.r [] trivial) ?_
  simp [h1]
 ·refine cw bh Cl.fin rfl E (Kn.r [] trivial) ?_
  simp [h1]
theorem uP {ns : List Int} (hl : ns.length ≤ maxLen) (x : Int) : aa Ph al 307 [bJ (ns.map i1), ae .i64 x] = some (aj (ns.any (x == ·))) := by
 refine aw (fn := iN) rfl ?_
 have e1 := zq hl x
 have e2 : ns.any (x == ·) = decide (0 ≤ bN (Pl x) (ns.map i1) 0) := by
  rw [yQ, List.any_map]
  congr 1
 rw [e2]
 simp [iN, e1]
end Gi
namespace Gi
open Go Go.RowKit
set_option maxHeartbeats 4000000
set_option maxRecDepth 4000
attribute [local simp] bW am bg bt cF dN Opd.ev put V.cells plain bz hJ isInt isStr isBool bin bf aS aR un asList L.view aB V.view viewL bC aC aT cj comp bq bZ a8 V.flat L.flat dX dJ bS putAt thaw thawL freezeVs freezeLs freezeL V.mut L.mut bm aZ wp_seq wp_block bE wp_cond wp_skip wp_exit wp_ret cN cE cK cH cS cT cR cq bj L.notArr aY aW aX bH bI
def HY (a b : Int) : Int := if a < b then -1 else if b < a then 1 else 0
def fk (a : XKey) : Bool := pE a.kind a.n a.text
def kd (a b : XKey) : Int := if fk a = false ∨ fk b = false then 0 else if a.kind ≠ b.kind then HY a.kind b.kind else if a.n ≠ b.n then HY a.n b.n else Lib.compareBytes a.text b.text
theorem ml : ∀ (a b : List UInt8), Lib.compareBytes a b = if Op.bytesLess a b = true then -1 else if Op.bytesLess b a = true then 1 else 0
 | [], [] => rfl
 | [], _ :: _ => rfl
 | _ :: _, [] => rfl
 | a :: xz, b :: bs => by
  have ih := ml xz bs
  simp only [Lib.compareBytes, Op.bytesLess, ih]
  by_cases h1 : a < b
  ·simp [h1]
  ·by_cases h2 : b < a
   ·have h3 : ¬ a = b := fun h => by subst h; exact absurd h2 (UInt8.lt_irrefl _)
    simp [h1, h2, h3]
   ·have h3 : a = b := UInt8.le_antisymm (UInt8.not_lt.1 h2) (UInt8.not_lt.1 h1)
    subst h3
    simp [UInt8.lt_irrefl]
theorem ik {a : XKey} (h : a.text.length ≤ maxLen) : aa Ph al 67 [.agg [.pv (.int .i64 a.kind), .pv (.int .i64 a.n), .pv (.str a.text)]] = some (aj (fk a)) := vd h
theorem kC {a : XKey} (h : a.text.length ≤ maxLen) : aa Ph al 65 [.agg [.pv (.int .i64 a.kind), .pv (.int .i64 a.n), .pv (.str a.text)]] = some (aj (fk a)) := vj h
theorem oJ (a b : Int) : aa Ph al 362 [ae .i64 a, ae .i64 b] = some (ae .i64 (HY a b)) := by
 refine aw (fn := iH) rfl ?_
 unfold HY
 by_cases h1 : a < b
 ·simp [iH, h1]
 ·by_cases h2 : b < a
  ·simp [iH, h1, h2]
  ·simp [iH, h1, h2]
theorem pL (a b : Bool) : aa Ph al 359 [aj a, aj b] = some (ae .i64 (if a = true then -1 else if b = true then 1 else 0)) := by
 refine aw (fn := qy) rfl ?_
 cases a <;> cases b <;> simp [qy]
theorem xC {a b : Int} : HY a b = 0 ↔ a = b := by
 unfold HY
 split
 ·omega
 ·split <;> omega
theorem jj {a b : XKey} (ha : a.text.length ≤ maxLen) (hb : b.text.length ≤ maxLen) : aa Ph al 355 [.agg [.pv (.int .i64 a.kind), .pv (.int .i64 a.n), .pv (.str a.text)], .agg [.pv (.int .i64 b.kind), .pv (.int .i64 b.n), .pv (.str b.text)]] = some (ae .i64 (kd a b)) := by
 have e1 := ik ha
 have e2 := ik hb
 have e3 := oJ a.kind b.kind
 have e4 := oJ a.n b.n
 have e5 : aa Ph al 363 [eX a.text, eX b.text] = some (ae .i64 (Lib.compareBytes a.text b.text)) := J5 rfl rfl
 refine aw (fn := f8) rfl ?_
 unfold kd
 generalize Lib.compareBytes a.text b.text = C at e5 ⊢
 generalize fk a = ka at e1 ⊢
 generalize fk b = kb at e2 ⊢
 obtain ⟨ak, an, ax⟩ := a
 obtain ⟨bk, bn, bx⟩ := b
 simp only at e1 e2 e3 e4 e5 ⊢
 cases ka
 ·simp [f8, e1]
 cases kb
 ·simp [f8, e1, e2]
 by_cases h1 : ak = bk
 ·subst h1
  rw [xC.2 rfl] at e3
  by_cases h2 : an = bn
  ·subst h2
   rw [xC.2 rfl] at e4
   simp [f8, e1, e2, e3, e4, e5]
  ·have z2 : ¬ HY an bn = 0 := fun h => h2 (xC.1 h)
   simp only [h2, ne_eq, not_true_eq_false, not_false_eq_true, if_true, if_false]
   generalize HY an bn = y at e4 z2 ⊢
   have z2b : (y != 0) = true := by simpa using z2
   simp [f8, e1, e2, e3, e4, z2, z2b]
 ·have z1 : ¬ HY ak bk = 0 := fun h => h1 (xC.1 h)
  simp only [h1, ne_eq, not_true_eq_false, not_false_eq_true, if_true, if_false]
  generalize HY ak bk = y at e3 z1 ⊢
  have z1b : (y != 0) = true := by simpa using z1
  simp [f8, e1, e2, e3, z1, z1b]
theorem k8 {a b : XKey} (ha : a.text.length ≤ maxLen) (hb : b.text.length ≤ maxLen) : aa Ph al 351 [.agg [.pv (.int .i64 a.kind), .pv (.int .i64 a.n), .pv (.str a.text)], .agg [.pv (.int .i64 b.kind), .pv (.int .i64 b.n), .pv (.str b.text)]] = some (ae .i64 (kd a b)) := by
 have e1 := kC ha
 have e2 := kC hb
 have sg : ∀ x y : Int, x ≠ y → HY x y = (if decide (x < y) = true then -1 else if true = true then 1 else 0) := fun x y h => by
  unfold HY
  by_cases q : x < y
  ·simp [q]
  ·have : y < x := by omega
   simp [q, this]
 have e5 := pL (Op.bytesLess a.text b.text) (!(Op.bytesLess a.text b.text || a.text == b.text))
 have e6 : (if Op.bytesLess a.text b.text = true then (-1 : Int) else if (!(Op.bytesLess a.text b.text || a.text == b.text)) = true then 1 else 0) = Lib.compareBytes a.text b.text := by
  rw [ml, nG]
  simp
 rw [e6] at e5
 refine aw (fn := f9) rfl ?_
 unfold kd
 generalize Lib.compareBytes a.text b.text = C at e5 ⊢
 generalize fk a = ka at e1 ⊢
 generalize fk b = kb at e2 ⊢
 have l1 : fE .lss a.text b.text = some (aj (Op.bytesLess a.text b.text)) := rfl
 have l2 : fE .gtr a.text b.text = some (aj (!(Op.bytesLess a.text b.text || a.text == b.text))) := rfl
 generalize (Op.bytesLess a.text b.text) = p at e5 l1 l2
 generalize (!(p || a.text == b.text)) = q at e5 l2
 obtain ⟨ak, an, ax⟩ := a
 obtain ⟨bk, bn, bx⟩ := b
 simp only at e1 e2 e5 l1 l2 ⊢
 cases ka
 ·simp [f9, e1]
 cases kb
 ·simp [f9, e1, e2]
 by_cases h1 : ak = bk
 ·subst h1
  by_cases h2 : an = bn
  ·subst h2
   simp [f9, e1, e2, ↓l1, ↓l2, e5]
  ·have e4 := pL (decide (an < bn)) true
   rw [← sg _ _ h2] at e4
   have z2b : (an != bn) = true := by simpa using h2
   simp only [h2, ne_eq, not_true_eq_false, not_false_eq_true, if_true, if_false]
   generalize HY an bn = y at e4 ⊢
   simp [f9, e1, e2, e4, h2, z2b]
 ·have e4 := pL (decide (ak < bk)) true
  rw [← sg _ _ h1] at e4
  have z1b : (ak != bk) = true := by simpa using h1
  simp only [h1, ne_eq, not_true_eq_false, not_false_eq_true, if_true, if_false]
  generalize HY ak bk = y at e4 ⊢
  simp [f9, e1, e2, e4, h1, z1b]
def cG (r : XRecord) : Bool := pF (r.fs.map XField.e)
theorem mV {B : Nat} (hB : B ≤ maxLen) {r : XRecord} (h : r.Ok B) : aa Ph al 246 [.agg [.pv (.lst (r.fs.map XField.e))]] = some (aj (cG r)) := qV (bY (fun _ q => XField.has hB q) hB h)
theorem j7 {B : Nat} (hB : B ≤ maxLen) {r : XRecord} (h : r.Ok B) : aa Ph al 243 [.agg [.pv (.lst (r.fs.map XField.e))]] = some (aj (cG r)) := rl (bY (fun _ q => XField.has hB q) hB h)
def Gx (xs : List XItem) (k : Nat) : Bool := match xs[k]? with
 | none => false
 | some x => !(fk x.key) || (!(cG x.rcd) || (match k with
  | 0 => false
  | j + 1 => match xs[j]? with
   | none => false
   | some y => decide (0 ≤ kd y.key x.key)))
def sa (xs : List XItem) : Bool := !((List.range xs.length).any (Gx xs))
def bT (s : XStore) : Bool := sa s.items && (bF s.name && (decide ((s.items.length : Int) ≤ 16) && (decide (0 ≤ s.auto) && decide (s.auto ≤ 1000000))))
theorem Jo {xs : List XItem} {k : Nat} (hk : k < xs.length) (h : Gx xs k = false) : fk xs[k].key = true ∧ cG xs[k].rcd = true ∧ (k = 0 ∨ ∃ j, k = j + 1 ∧ ∃ hj : j < xs.length, ¬ 0 ≤ kd xs[j].key xs[k].key) := by
 unfold Gx at h
 rw [List.getElem?_eq_getElem hk] at h
 simp only [Bool.or_eq_false_iff, Bool.not_eq_false'] at h
 obtain ⟨h1, h2, h3⟩ := h
 refine ⟨h1, h2, ?_⟩
 cases k with
 | zero => exact .inl rfl
 | succ j =>
  have hj : j < xs.length := by omega
  simp only [List.getElem?_eq_getElem hj] at h3
  exact .inr ⟨j, rfl, hj, by simpa using h3⟩
theorem vm {xs : List XItem} {k : Nat} (hk : k < xs.length) (h : Gx xs k = true) : fk xs[k].key = false ∨ (fk xs[k].key = true ∧ cG xs[k].rcd = false) ∨ (fk xs[k].key = true ∧ cG xs[k].rcd = true ∧ ∃ j, k = j + 1 ∧ ∃ hj : j < xs.length, 0 ≤ kd xs[j].key xs[k].key) := by
 unfold Gx at h
 rw [List.getElem?_eq_getElem hk] at h
 simp only at h
 cases h1 : fk xs[k].key
 ·exact .inl rfl
 rw [h1] at h
 cases h2 : cG xs[k].rcd
 ·exact .inr (.inl ⟨rfl, rfl⟩)
 rw [h2] at h
 refine .inr (.inr ⟨rfl, rfl, ?_⟩)
 cases k with
 | zero => simp at h
 | succ j =>
  have hj : j < xs.length := by omega
  simp only [List.getElem?_eq_getElem hj] at h
  exact ⟨j, rfl, hj, by simpa using h⟩
theorem bP : IntKind.i64.wrap 1 = 1 := by rw [IntKind.wrap_i64]; rfl
theorem kJ {j n : Nat} (hn : n ≤ maxLen) (hj : j + 1 < n) : IntKind.i64.wrap ((j : Int) + 1 + 1) = (j : Int) + 1 + 1 ∧ IntKind.i64.wrap (j : Int) = (j : Int) ∧ (0 : Int) < (j : Int) + 1 ∧ (0 : Int) ≤ (j : Int) + 1 ∧ ((j : Int) + 1).toNat = j + 1 ∧ (j : Int) + 1 < (n : Int) := by
 unfold maxLen at hn
 refine ⟨?_, ?_, by omega, by omega, by omega, by omega⟩ <;> rw [IntKind.wrap_i64] <;> omega
theorem dM {p : Nat → Bool} {n : Nat} (h : ∀ k, k < n → p k = false) : (List.range n).any p = false := by
 rw [List.any_eq_false]
 intro x hx
 rw [h x (List.mem_range.1 hx)]
 simp
theorem cI {p : Nat → Bool} {n k : Nat} (hk : k < n) (h : p k = true) : (List.range n).any p = true := List.any_eq_true.2 ⟨k, List.mem_range.2 hk, h⟩
theorem fI {B : Nat} (hB : B ≤ maxLen) {s : XStore} (h : s.Ok B) : aa Ph al 354 [.agg [.pv (.str s.name), .pv (.lst (s.items.map XItem.e)), .pv (.int .i64 s.auto)]] = some (aj (bT s)) := by
 obtain ⟨hn, ⟨hl, hi⟩, ha⟩ := h
 have e1 := cQ (Nat.le_trans hn hB)
 have e2 := dz s.auto 0 1000000
 have e3 : ∀ k (hk : k < s.items.length), aa Ph al 67 [.agg [.pv (.int .i64 s.items[k].key.kind), .pv (.int .i64 s.items[k].key.n), .pv (.str s.items[k].key.text)]] = some (aj (fk s.items[k].key)) := fun k hk => ik (Nat.le_trans (hi _ (List.getElem_mem hk)).1.2.2 hB)
 have e4 : ∀ k (hk : k < s.items.length), aa Ph al 246 [.agg [.pv (.lst (s.items[k].rcd.fs.map XField.e))]] = some (aj (cG s.items[k].rcd)) := fun k hk => mV hB (hi _ (List.getElem_mem hk)).2
 have e5 : ∀ j k (hj : j < s.items.length) (hk : k < s.items.length), aa Ph al 355 [.agg [.pv (.int .i64 s.items[j].key.kind), .pv (.int .i64 s.items[j].key.n), .pv (.str s.items[j].key.text)], .agg [.pv (.int .i64 s.items[k].key.kind), .pv (.int .i64 s.items[k].key.n), .pv (.str s.items[k].key.text)]] = some (ae .i64 (kd s.items[j].key s.items[k].key)) := fun j k hj hk => jj (Nat.le_trans (hi _ (List.getElem_mem hj)).1.2.2 hB) (Nat.le_trans (hi _ (List.getElem_mem hk)).1.2.2 hB)
 have hlm : s.items.length ≤ maxLen := Nat.le_trans hl hB
 refine aw (fn := pe) rfl ?_
 simp [pe]
 refine bU bh Cl.fin [.f,.t,.f,.f,.f,.f,.t,.t,.t,.f,.f,.f,.f,.f,.f,.f,.f,.f,.f,.f,.f,.f,.f,.f,.f,.f,.f,.f,.f,.f,.f,.f,.f,.f,.f,.f,.f,.f,.f,.f,.f,.f,.f,.f,.f,.f,.f,.f,.f,.f,.f,.f,.f,.f,.f] (fun k => [(8, ae .i64 k)]) s.items.length (Gx s.items) rfl ?_ ?_ ?_ ?_
 ·simp only [aY, aW, aX, bH, bI, bL, ca, br, dI, co, bQ, cu, L.ren, aA]
  exact Kn.q [0]
 ·intro k hk hp
  have hw := ag (k := k) (by unfold maxLen at hlm; omega)
  obtain ⟨a1, a2, a3⟩ := Jo hk hp
  have e3k := e3 k hk
  have e4k := e4 k hk
  rw [a1] at e3k
  rw [a2] at e4k
  rcases a3 with rfl | ⟨j, rfl, hj, a3⟩
  ·simp [eR, hk, bP, e3k, e4k, XItem.e]
   exact Kn.q [0]
  ·obtain ⟨i1, i2, i3, i4, i5, i6⟩ := kJ hlm hk
   have e5k := e5 j (j + 1) hj hk
   generalize kd s.items[j].key s.items[j + 1].key = C at e5k a3
   simp [eR, hk, hj, i1, i2, i3, i4, i5, i6, e3k, e4k, e5k, a3, XItem.e]
   exact Kn.q [0]
 ·intro k hk hp _
  have hF : bT s = false := by unfold bT sa; rw [cI hk hp]; rfl
  rw [hF]
  have e3k := e3 k hk
  have e4k := e4 k hk
  rcases vm hk hp with a1 | ⟨a1, a2⟩ | ⟨a1, a2, j, rfl, hj, a3⟩
  ·rw [a1] at e3k
   simp [eR, hk, e3k, XItem.e]
  ·rw [a1] at e3k
   rw [a2] at e4k
   simp [eR, hk, e3k, e4k, XItem.e]
  ·rw [a1] at e3k
   rw [a2] at e4k
   obtain ⟨i1, i2, i3, i4, i5, i6⟩ := kJ hlm hk
   have e5k := e5 j (j + 1) hj hk
   generalize kd s.items[j].key s.items[j + 1].key = C at e5k a3
   simp [eR, hk, hj, i1, i2, i3, i4, i5, i6, e3k, e4k, e5k, a3, XItem.e]
 ·intro hp
  have hT : bT s = (bF s.name && (decide ((s.items.length : Int) ≤ 16) && (decide (0 ≤ s.auto) && decide (s.auto ≤ 1000000)))) := by
   unfold bT sa
   rw [dM hp]
   rfl
  rw [hT]
  generalize (decide (0 ≤ s.auto) && decide (s.auto ≤ 1000000)) = R at e2 ⊢
  cases c1 : bF s.name <;> rw [c1] at e1
  ·simp [eR, e1]
  ·by_cases c2 : (s.items.length : Int) ≤ 16
   ·simp [eR, e1, e2, c2, show s.items.length ≤ 16 by omega]
   ·simp [eR, e1, c2, show ¬ s.items.length ≤ 16 by omega]
theorem ly {B : Nat} (hB : B ≤ maxLen) {s : XStore} (h : s.Ok B) : aa Ph al 350 [.agg [.pv (.str s.name), .pv (.lst (s.items.map XItem.e)), .pv (.int .i64 s.auto)]] = some (aj (bT s)) := by
 obtain ⟨hn, ⟨hl, hi⟩, ha⟩ := h
 have e1 := di (Nat.le_trans hn hB)
 have e2 := fv s.auto 0 1000000
 have e3 : ∀ k (hk : k < s.items.length), aa Ph al 65 [.agg [.pv (.int .i64 s.items[k].key.kind), .pv (.int .i64 s.items[k].key.n), .pv (.str s.items[k].key.text)]] = some (aj (fk s.items[k].key)) := fun k hk => kC (Nat.le_trans (hi _ (List.getElem_mem hk)).1.2.2 hB)
 have e4 : ∀ k (hk : k < s.items.length), aa Ph al 243 [.agg [.pv (.lst (s.items[k].rcd.fs.map XField.e))]] = some (aj (cG s.items[k].rcd)) := fun k hk => j7 hB (hi _ (List.getElem_mem hk)).2
 have e5 : ∀ j k (hj : j < s.items.length) (hk : k < s.items.length), aa Ph al 351 [.agg [.pv (.int .i64 s.items[j].key.kind), .pv (.int .i64 s.items[j].key.n), .pv (.str s.items[j].key.text)], .agg [.pv (.int .i64 s.items[k].key.kind), .pv (.int .i64 s.items[k].key.n), .pv (.str s.items[k].key.text)]] = some (ae .i64 (kd s.items[j].key s.items[k].key)) := fun j k hj hk => k8 (Nat.le_trans (hi _ (List.getElem_mem hj)).1.2.2 hB) (Nat.le_trans (hi _ (List.getElem_mem hk)).1.2.2 hB)
 have hlm : s.items.length ≤ maxLen := Nat.le_trans hl hB
 refine aw (fn := pn) rfl ?_
 simp [pn]
 refine bU bh Cl.fin [.f,.t,.f,.t,.f,.f,.f,.f,.f,.f,.f,.f,.f,.f,.f,.f,.f,.f,.f,.f,.f,.f,.f,.f,.f,.f,.f,.f,.f,.f,.f,.f,.f,.f,.f,.f,.f,.f,.f,.f,.f,.f,.f,.f,.f,.f,.f,.f,.f,.f,.f,.f,.f,.f,.f,.f,.f,.f,.f,.f,.f,.f,.f,.f] (fun k => [(3, ae .i64 k)]) s.items.length (Gx s.items) rfl ?_ ?_ ?_ ?_
 ·simp only [aY, aW, aX, bH, bI, bL, ca, br, dI, co, bQ, cu, L.ren, aA]
  exact Kn.q [0]
 ·intro k hk hp
  have hw := ag (k := k) (by unfold maxLen at hlm; omega)
  obtain ⟨a1, a2, a3⟩ := Jo hk hp
  have e3k := e3 k hk
  have e4k := e4 k hk
  rw [a1] at e3k
  rw [a2] at e4k
  rcases a3 with rfl | ⟨j, rfl, hj, a3⟩
  ·simp [eW, hk, bP, e3k, e4k, XItem.e]
   exact Kn.q [0]
  ·obtain ⟨i1, i2, i3, i4, i5, i6⟩ := kJ hlm hk
   have e5k := e5 j (j + 1) hj hk
   generalize kd s.items[j].key s.items[j + 1].key = C at e5k a3
   simp [eW, hk, hj, i1, i2, i3, i4, i5, i6, e3k, e4k, e5k, a3, XItem.e]
   exact Kn.q [0]
 ·intro k hk hp _
  have hF : bT s = false := by unfold bT sa; rw [cI hk hp]; rfl
  rw [hF]
  have e3k := e3 k hk
  have e4k := e4 k hk
  rcases vm hk hp with a1 | ⟨a1, a2⟩ | ⟨a1, a2, j, rfl, hj, a3⟩
  ·rw [a1] at e3k
   simp [eW, hk, e3k, XItem.e]
  ·rw [a1] at e3k
   rw [a2] at e4k
   simp [eW, hk, e3k, e4k, XItem.e]
  ·rw [a1] at e3k
   rw [a2] at e4k
   obtain ⟨i1, i2, i3, i4, i5, i6⟩ := kJ hlm hk
   have e5k := e5 j (j + 1) hj hk
   generalize kd s.items[j].key s.items[j + 1].key = C at e5k a3
   simp [eW, hk, hj, i1, i2, i3, i4, i5, i6, e3k, e4k, e5k, a3, XItem.e]
 ·intro hp
  have hT : bT s = (bF s.name && (decide ((s.items.length : Int) ≤ 16) && (decide (0 ≤ s.auto) && decide (s.auto ≤ 1000000)))) := by
   unfold bT sa
   rw [dM hp]
   rfl
  rw [hT]
  generalize (decide (0 ≤ s.auto) && decide (s.auto ≤ 1000000)) = R at e2 ⊢
  cases c1 : bF s.name <;> rw [c1] at e1
  ·simp [eW, e1]
  ·by_cases c2 : (s.items.length : Int) ≤ 16
   ·simp [eW, e1, e2, c2, show s.items.length ≤ 16 by omega]
   ·simp [eW, e1, c2, show ¬ s.items.length ≤ 16 by omega]
end Gi
