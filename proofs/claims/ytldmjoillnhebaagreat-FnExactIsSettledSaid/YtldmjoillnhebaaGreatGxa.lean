/- Keys compared; stores: are they valid? -/
import Derived.Test.YtldmjoillnhebaaGreatGuo
import Derived.Test.YtldmjoillnhebaaGreatGxd
import Derived.Test.YtldmjoillnhebaaGreatGxt
import Derived.Test.YtldmjoillnhebaaGreatGwa
namespace Gi
open Go Go.RowKit
set_option linter.unusedSimpArgs false
set_option linter.unusedVariables false
set_option maxHeartbeats 4000000
set_option maxRecDepth 4000
attribute [local simp] start execOps stepO wants fop eop Opd.ev put V.cells plain loadV cut isInt isStr isBool bin binInt binStr_neq binStr_eql un asList L.view viewArgs V.view viewL finish resultsOf resultOf comps comp giveLs giveL arrsOf V.flat L.flat setV setL storeV putAt thaw thawL freezeVs freezeLs freezeL V.mut L.mut elemPtr viewRows wp_seq wp_block wp_region wp_cond wp_skip wp_exit wp_ret wp_end wp_sqN wp_sqR wp_sqE wp_bkN wp_bkR wp_bkE Fin_ret Fin_normal L.notArr keepM_t keepM_f keepM_n setT_c setT_n

def sgn (a b : Int) : Int := if a < b then -1 else if b < a then 1 else 0
def isKeyX (a : XKey) : Bool := isKeyB a.kind a.n a.text
def cmpK (a b : XKey) : Int := if isKeyX a = false ∨ isKeyX b = false then 0 else if a.kind ≠ b.kind then sgn a.kind b.kind else if a.n ≠ b.n then sgn a.n b.n else Lib.compareBytes a.text b.text
theorem compareBytes_less : ∀ (a b : List UInt8), Lib.compareBytes a b = if Op.bytesLess a b = true then -1 else if Op.bytesLess b a = true then 1 else 0
  | [], [] => rfl
  | [], _ :: _ => rfl
  | _ :: _, [] => rfl
  | a :: as, b :: bs => by
    have ih := compareBytes_less as bs
    simp only [Lib.compareBytes, Op.bytesLess, ih]
    by_cases h1 : a < b
    · simp [h1]
    · by_cases h2 : b < a
      · have h3 : ¬ a = b := fun h => by subst h; exact absurd h2 (UInt8.lt_irrefl _)
        simp [h1, h2, h3]
      · have h3 : a = b := UInt8.le_antisymm (UInt8.not_lt.1 h2) (UInt8.not_lt.1 h1)
        subst h3
        simp [UInt8.lt_irrefl]
theorem impl_IsKeyX_ok {a : XKey} (h : a.text.length ≤ maxLen) : callL Ph extF 67 [.agg [.pv (.int .i64 a.kind), .pv (.int .i64 a.n), .pv (.str a.text)]] = some (vbool (isKeyX a)) := impl_IsKey_ok h
theorem spec_IsKeyX_ok {a : XKey} (h : a.text.length ≤ maxLen) : callL Ph extF 65 [.agg [.pv (.int .i64 a.kind), .pv (.int .i64 a.n), .pv (.str a.text)]] = some (vbool (isKeyX a)) := spec_IsKey_ok h
theorem impl_compareInts_ok (a b : Int) : callL Ph extF 362 [vint .i64 a, vint .i64 b] = some (vint .i64 (sgn a b)) := by
  refine callL_wp (fn := f_impl_compareInts) rfl ?_
  unfold sgn
  by_cases h1 : a < b
  · simp [f_impl_compareInts, h1]
  · by_cases h2 : b < a
    · simp [f_impl_compareInts, h1, h2]
    · simp [f_impl_compareInts, h1, h2]
theorem spec_l4Sign_ok (a b : Bool) : callL Ph extF 359 [vbool a, vbool b] = some (vint .i64 (if a = true then -1 else if b = true then 1 else 0)) := by
  refine callL_wp (fn := f_spec_l4Sign) rfl ?_
  cases a <;> cases b <;> simp [f_spec_l4Sign]
theorem sgn_zero {a b : Int} : sgn a b = 0 ↔ a = b := by
  unfold sgn
  split
  · omega
  · split <;> omega
theorem impl_CompareKeys_ok {a b : XKey} (ha : a.text.length ≤ maxLen) (hb : b.text.length ≤ maxLen) : callL Ph extF 355 [.agg [.pv (.int .i64 a.kind), .pv (.int .i64 a.n), .pv (.str a.text)], .agg [.pv (.int .i64 b.kind), .pv (.int .i64 b.n), .pv (.str b.text)]] = some (vint .i64 (cmpK a b)) := by
  have e1 := impl_IsKeyX_ok ha
  have e2 := impl_IsKeyX_ok hb
  have e3 := impl_compareInts_ok a.kind b.kind
  have e4 := impl_compareInts_ok a.n b.n
  have e5 : callL Ph extF 363 [vstr a.text, vstr b.text] = some (vint .i64 (Lib.compareBytes a.text b.text)) := callL_ext rfl rfl
  refine callL_wp (fn := f_impl_CompareKeys) rfl ?_
  unfold cmpK
  generalize Lib.compareBytes a.text b.text = C at e5 ⊢
  generalize isKeyX a = ka at e1 ⊢
  generalize isKeyX b = kb at e2 ⊢
  obtain ⟨ak, an, ax⟩ := a
  obtain ⟨bk, bn, bx⟩ := b
  simp only at e1 e2 e3 e4 e5 ⊢
  cases ka
  · simp [f_impl_CompareKeys, e1]
  cases kb
  · simp [f_impl_CompareKeys, e1, e2]
  by_cases h1 : ak = bk
  · subst h1
    rw [sgn_zero.2 rfl] at e3
    by_cases h2 : an = bn
    · subst h2
      rw [sgn_zero.2 rfl] at e4
      simp [f_impl_CompareKeys, e1, e2, e3, e4, e5]
    · have z2 : ¬ sgn an bn = 0 := fun h => h2 (sgn_zero.1 h)
      simp only [h2, ne_eq, not_true_eq_false, not_false_eq_true, if_true, if_false]
      generalize sgn an bn = y at e4 z2 ⊢
      have z2b : (y != 0) = true := by simpa using z2
      simp [f_impl_CompareKeys, e1, e2, e3, e4, z2, z2b]
  · have z1 : ¬ sgn ak bk = 0 := fun h => h1 (sgn_zero.1 h)
    simp only [h1, ne_eq, not_true_eq_false, not_false_eq_true, if_true, if_false]
    generalize sgn ak bk = y at e3 z1 ⊢
    have z1b : (y != 0) = true := by simpa using z1
    simp [f_impl_CompareKeys, e1, e2, e3, z1, z1b]
theorem spec_CompareKeys_ok {a b : XKey} (ha : a.text.length ≤ maxLen) (hb : b.text.length ≤ maxLen) : callL Ph extF 351 [.agg [.pv (.int .i64 a.kind), .pv (.int .i64 a.n), .pv (.str a.text)], .agg [.pv (.int .i64 b.kind), .pv (.int .i64 b.n), .pv (.str b.text)]] = some (vint .i64 (cmpK a b)) := by
  have e1 := spec_IsKeyX_ok ha
  have e2 := spec_IsKeyX_ok hb
  have sg : ∀ x y : Int, x ≠ y → sgn x y = (if decide (x < y) = true then -1 else if true = true then 1 else 0) := fun x y h => by
    unfold sgn
    by_cases q : x < y
    · simp [q]
    · have : y < x := by omega
      simp [q, this]
  have e5 := spec_l4Sign_ok (Op.bytesLess a.text b.text) (!(Op.bytesLess a.text b.text || a.text == b.text))
  have e6 : (if Op.bytesLess a.text b.text = true then (-1 : Int) else if (!(Op.bytesLess a.text b.text || a.text == b.text)) = true then 1 else 0) = Lib.compareBytes a.text b.text := by
    rw [compareBytes_less, less_total]
    simp
  rw [e6] at e5
  refine callL_wp (fn := f_spec_CompareKeys) rfl ?_
  unfold cmpK
  generalize Lib.compareBytes a.text b.text = C at e5 ⊢
  generalize isKeyX a = ka at e1 ⊢
  generalize isKeyX b = kb at e2 ⊢
  have l1 : binStr .lss a.text b.text = some (vbool (Op.bytesLess a.text b.text)) := rfl
  have l2 : binStr .gtr a.text b.text = some (vbool (!(Op.bytesLess a.text b.text || a.text == b.text))) := rfl
  generalize (Op.bytesLess a.text b.text) = p at e5 l1 l2
  generalize (!(p || a.text == b.text)) = q at e5 l2
  obtain ⟨ak, an, ax⟩ := a
  obtain ⟨bk, bn, bx⟩ := b
  simp only at e1 e2 e5 l1 l2 ⊢
  cases ka
  · simp [f_spec_CompareKeys, e1]
  cases kb
  · simp [f_spec_CompareKeys, e1, e2]
  by_cases h1 : ak = bk
  · subst h1
    by_cases h2 : an = bn
    · subst h2
      simp [f_spec_CompareKeys, e1, e2, ↓l1, ↓l2, e5]
    · have e4 := spec_l4Sign_ok (decide (an < bn)) true
      rw [← sg _ _ h2] at e4
      have z2b : (an != bn) = true := by simpa using h2
      simp only [h2, ne_eq, not_true_eq_false, not_false_eq_true, if_true, if_false]
      generalize sgn an bn = y at e4 ⊢
      simp [f_spec_CompareKeys, e1, e2, e4, h2, z2b]
  · have e4 := spec_l4Sign_ok (decide (ak < bk)) true
    rw [← sg _ _ h1] at e4
    have z1b : (ak != bk) = true := by simpa using h1
    simp only [h1, ne_eq, not_true_eq_false, not_false_eq_true, if_true, if_false]
    generalize sgn ak bk = y at e4 ⊢
    simp [f_spec_CompareKeys, e1, e2, e4, h1, z1b]

/-! ### Stores -/
def isRecX (r : XRecord) : Bool := isRec (r.fs.map XField.e)
theorem impl_IsRecordX_ok {B : Nat} (hB : B ≤ maxLen) {r : XRecord} (h : r.Ok B) : callL Ph extF 246 [.agg [.pv (.lst (r.fs.map XField.e))]] = some (vbool (isRecX r)) := impl_IsRecord_ok (has_map (fun _ q => XField.has hB q) hB h)
theorem spec_IsRecordX_ok {B : Nat} (hB : B ≤ maxLen) {r : XRecord} (h : r.Ok B) : callL Ph extF 243 [.agg [.pv (.lst (r.fs.map XField.e))]] = some (vbool (isRecX r)) := spec_IsRecord_ok (has_map (fun _ q => XField.has hB q) hB h)
def badI (xs : List XItem) (k : Nat) : Bool := match xs[k]? with
  | none => false
  | some x => !(isKeyX x.key) || (!(isRecX x.rcd) || (match k with
    | 0 => false
    | j + 1 => match xs[j]? with
      | none => false
      | some y => decide (0 ≤ cmpK y.key x.key)))
def isItems (xs : List XItem) : Bool := !((List.range xs.length).any (badI xs))
def isStoreX (s : XStore) : Bool := isItems s.items && (isName s.name && (decide ((s.items.length : Int) ≤ 16) && (decide (0 ≤ s.auto) && decide (s.auto ≤ 1000000))))
theorem goodI {xs : List XItem} {k : Nat} (hk : k < xs.length) (h : badI xs k = false) : isKeyX xs[k].key = true ∧ isRecX xs[k].rcd = true ∧ (k = 0 ∨ ∃ j, k = j + 1 ∧ ∃ hj : j < xs.length, ¬ 0 ≤ cmpK xs[j].key xs[k].key) := by
  unfold badI at h
  rw [List.getElem?_eq_getElem hk] at h
  simp only [Bool.or_eq_false_iff, Bool.not_eq_false'] at h
  obtain ⟨h1, h2, h3⟩ := h
  refine ⟨h1, h2, ?_⟩
  cases k with
  | zero => exact .inl rfl
  | succ j =>
    have hj : j < xs.length := by omega
    simp only [List.getElem?_eq_getElem hj] at h3
    exact .inr ⟨j, rfl, hj, by simpa using h3⟩
theorem badI_cases {xs : List XItem} {k : Nat} (hk : k < xs.length) (h : badI xs k = true) : isKeyX xs[k].key = false ∨ (isKeyX xs[k].key = true ∧ isRecX xs[k].rcd = false) ∨ (isKeyX xs[k].key = true ∧ isRecX xs[k].rcd = true ∧ ∃ j, k = j + 1 ∧ ∃ hj : j < xs.length, 0 ≤ cmpK xs[j].key xs[k].key) := by
  unfold badI at h
  rw [List.getElem?_eq_getElem hk] at h
  simp only at h
  cases h1 : isKeyX xs[k].key
  · exact .inl rfl
  rw [h1] at h
  cases h2 : isRecX xs[k].rcd
  · exact .inr (.inl ⟨rfl, rfl⟩)
  rw [h2] at h
  refine .inr (.inr ⟨rfl, rfl, ?_⟩)
  cases k with
  | zero => simp at h
  | succ j =>
    have hj : j < xs.length := by omega
    simp only [List.getElem?_eq_getElem hj] at h
    exact ⟨j, rfl, hj, by simpa using h⟩
theorem wrap_1 : IntKind.i64.wrap 1 = 1 := by rw [IntKind.wrap_i64]; rfl
/-- The index behind another. -/
theorem idxS {j n : Nat} (hn : n ≤ maxLen) (hj : j + 1 < n) : IntKind.i64.wrap ((j : Int) + 1 + 1) = (j : Int) + 1 + 1 ∧ IntKind.i64.wrap (j : Int) = (j : Int) ∧ (0 : Int) < (j : Int) + 1 ∧ (0 : Int) ≤ (j : Int) + 1 ∧ ((j : Int) + 1).toNat = j + 1 ∧ (j : Int) + 1 < (n : Int) := by
  unfold maxLen at hn
  refine ⟨?_, ?_, by omega, by omega, by omega, by omega⟩ <;> rw [IntKind.wrap_i64] <;> omega
theorem range_any {p : Nat → Bool} {n : Nat} (h : ∀ k, k < n → p k = false) : (List.range n).any p = false := by
  rw [List.any_eq_false]
  intro x hx
  rw [h x (List.mem_range.1 hx)]
  simp
theorem range_any_t {p : Nat → Bool} {n k : Nat} (hk : k < n) (h : p k = true) : (List.range n).any p = true := List.any_eq_true.2 ⟨k, List.mem_range.2 hk, h⟩
theorem impl_IsStore_ok {B : Nat} (hB : B ≤ maxLen) {s : XStore} (h : s.Ok B) : callL Ph extF 354 [.agg [.pv (.str s.name), .pv (.lst (s.items.map XItem.e)), .pv (.int .i64 s.auto)]] = some (vbool (isStoreX s)) := by
  obtain ⟨hn, ⟨hl, hi⟩, ha⟩ := h
  have e1 := impl_IsName_ok (Nat.le_trans hn hB)
  have e2 := impl_InRange_ok s.auto 0 1000000
  have e3 : ∀ k (hk : k < s.items.length), callL Ph extF 67 [.agg [.pv (.int .i64 s.items[k].key.kind), .pv (.int .i64 s.items[k].key.n), .pv (.str s.items[k].key.text)]] = some (vbool (isKeyX s.items[k].key)) := fun k hk => impl_IsKeyX_ok (Nat.le_trans (hi _ (List.getElem_mem hk)).1.2.2 hB)
  have e4 : ∀ k (hk : k < s.items.length), callL Ph extF 246 [.agg [.pv (.lst (s.items[k].rcd.fs.map XField.e))]] = some (vbool (isRecX s.items[k].rcd)) := fun k hk => impl_IsRecordX_ok hB (hi _ (List.getElem_mem hk)).2
  have e5 : ∀ j k (hj : j < s.items.length) (hk : k < s.items.length), callL Ph extF 355 [.agg [.pv (.int .i64 s.items[j].key.kind), .pv (.int .i64 s.items[j].key.n), .pv (.str s.items[j].key.text)], .agg [.pv (.int .i64 s.items[k].key.kind), .pv (.int .i64 s.items[k].key.n), .pv (.str s.items[k].key.text)]] = some (vint .i64 (cmpK s.items[j].key s.items[k].key)) := fun j k hj hk => impl_CompareKeys_ok (Nat.le_trans (hi _ (List.getElem_mem hj)).1.2.2 hB) (Nat.le_trans (hi _ (List.getElem_mem hk)).1.2.2 hB)
  have hlm : s.items.length ≤ maxLen := Nat.le_trans hl hB
  refine callL_wp (fn := f_impl_IsStore) rfl ?_
  simp [f_impl_IsStore]
  refine wp_scanM tidyF Cl.fin [false, true, false, false, false, false, true, true, true, false, false, false, false, false, false, false, false, false, false, false, false, false, false, false, false, false, false, false, false, false, false, false, false, false, false, false, false, false, false, false, false, false, false, false, false, false, false, false, false, false, false, false, false, false, false] (fun k => [(8, vint .i64 k)]) s.items.length (badI s.items) rfl ?_ ?_ ?_ ?_
  · simp only [keepM_t, keepM_f, keepM_n, setT_c, setT_n, relVs, relV, relLs, relL, relTs, relObs, relOb, L.ren, ren_dat]
    exact Kn.of [0] (by decide) (by simp [keepM_t, keepM_f, keepM_n, setT_c, setT_n, relVs, relV, relLs, relL, relTs, relObs, relOb, L.ren, ren_dat]) (by simp [keepM_t, keepM_f, keepM_n, setT_c, setT_n, relVs, relV, relLs, relL, relTs, relObs, relOb, L.ren, ren_dat])
  · intro k hk hp
    have hw := wrap_small (k := k) (by unfold maxLen at hlm; omega)
    obtain ⟨a1, a2, a3⟩ := goodI hk hp
    have e3k := e3 k hk
    have e4k := e4 k hk
    rw [a1] at e3k
    rw [a2] at e4k
    rcases a3 with rfl | ⟨j, rfl, hj, a3⟩
    · simp [b_impl_IsStore_0, hk, wrap_1, e3k, e4k, XItem.e]
      exact Kn.of [0] (by decide) (by simp [keepM_t, keepM_f, keepM_n, setT_c, setT_n, relVs, relV, relLs, relL, relTs, relObs, relOb, L.ren, ren_dat]) (by simp [keepM_t, keepM_f, keepM_n, setT_c, setT_n, relVs, relV, relLs, relL, relTs, relObs, relOb, L.ren, ren_dat])
    · obtain ⟨i1, i2, i3, i4, i5, i6⟩ := idxS hlm hk
      have e5k := e5 j (j + 1) hj hk
      generalize cmpK s.items[j].key s.items[j + 1].key = C at e5k a3
      simp [b_impl_IsStore_0, hk, hj, i1, i2, i3, i4, i5, i6, e3k, e4k, e5k, a3, XItem.e]
      exact Kn.of [0] (by decide) (by simp [keepM_t, keepM_f, keepM_n, setT_c, setT_n, relVs, relV, relLs, relL, relTs, relObs, relOb, L.ren, ren_dat]) (by simp [keepM_t, keepM_f, keepM_n, setT_c, setT_n, relVs, relV, relLs, relL, relTs, relObs, relOb, L.ren, ren_dat])
  · intro k hk hp _
    have hF : isStoreX s = false := by unfold isStoreX isItems; rw [range_any_t hk hp]; rfl
    rw [hF]
    have e3k := e3 k hk
    have e4k := e4 k hk
    rcases badI_cases hk hp with a1 | ⟨a1, a2⟩ | ⟨a1, a2, j, rfl, hj, a3⟩
    · rw [a1] at e3k
      simp [b_impl_IsStore_0, hk, e3k, XItem.e]
    · rw [a1] at e3k
      rw [a2] at e4k
      simp [b_impl_IsStore_0, hk, e3k, e4k, XItem.e]
    · rw [a1] at e3k
      rw [a2] at e4k
      obtain ⟨i1, i2, i3, i4, i5, i6⟩ := idxS hlm hk
      have e5k := e5 j (j + 1) hj hk
      generalize cmpK s.items[j].key s.items[j + 1].key = C at e5k a3
      simp [b_impl_IsStore_0, hk, hj, i1, i2, i3, i4, i5, i6, e3k, e4k, e5k, a3, XItem.e]
  · intro hp
    have hT : isStoreX s = (isName s.name && (decide ((s.items.length : Int) ≤ 16) && (decide (0 ≤ s.auto) && decide (s.auto ≤ 1000000)))) := by
      unfold isStoreX isItems
      rw [range_any hp]
      rfl
    rw [hT]
    generalize (decide (0 ≤ s.auto) && decide (s.auto ≤ 1000000)) = R at e2 ⊢
    cases c1 : isName s.name <;> rw [c1] at e1
    · simp [b_impl_IsStore_0, e1]
    · by_cases c2 : (s.items.length : Int) ≤ 16
      · simp [b_impl_IsStore_0, e1, e2, c2, show s.items.length ≤ 16 by omega]
      · simp [b_impl_IsStore_0, e1, c2, show ¬ s.items.length ≤ 16 by omega]
theorem spec_IsStore_ok {B : Nat} (hB : B ≤ maxLen) {s : XStore} (h : s.Ok B) : callL Ph extF 350 [.agg [.pv (.str s.name), .pv (.lst (s.items.map XItem.e)), .pv (.int .i64 s.auto)]] = some (vbool (isStoreX s)) := by
  obtain ⟨hn, ⟨hl, hi⟩, ha⟩ := h
  have e1 := spec_IsName_ok (Nat.le_trans hn hB)
  have e2 := spec_l1In_ok s.auto 0 1000000
  have e3 : ∀ k (hk : k < s.items.length), callL Ph extF 65 [.agg [.pv (.int .i64 s.items[k].key.kind), .pv (.int .i64 s.items[k].key.n), .pv (.str s.items[k].key.text)]] = some (vbool (isKeyX s.items[k].key)) := fun k hk => spec_IsKeyX_ok (Nat.le_trans (hi _ (List.getElem_mem hk)).1.2.2 hB)
  have e4 : ∀ k (hk : k < s.items.length), callL Ph extF 243 [.agg [.pv (.lst (s.items[k].rcd.fs.map XField.e))]] = some (vbool (isRecX s.items[k].rcd)) := fun k hk => spec_IsRecordX_ok hB (hi _ (List.getElem_mem hk)).2
  have e5 : ∀ j k (hj : j < s.items.length) (hk : k < s.items.length), callL Ph extF 351 [.agg [.pv (.int .i64 s.items[j].key.kind), .pv (.int .i64 s.items[j].key.n), .pv (.str s.items[j].key.text)], .agg [.pv (.int .i64 s.items[k].key.kind), .pv (.int .i64 s.items[k].key.n), .pv (.str s.items[k].key.text)]] = some (vint .i64 (cmpK s.items[j].key s.items[k].key)) := fun j k hj hk => spec_CompareKeys_ok (Nat.le_trans (hi _ (List.getElem_mem hj)).1.2.2 hB) (Nat.le_trans (hi _ (List.getElem_mem hk)).1.2.2 hB)
  have hlm : s.items.length ≤ maxLen := Nat.le_trans hl hB
  refine callL_wp (fn := f_spec_IsStore) rfl ?_
  simp [f_spec_IsStore]
  refine wp_scanM tidyF Cl.fin [false, true, false, true, false, false, false, false, false, false, false, false, false, false, false, false, false, false, false, false, false, false, false, false, false, false, false, false, false, false, false, false, false, false, false, false, false, false, false, false, false, false, false, false, false, false, false, false, false, false, false, false, false, false, false, false, false, false, false, false, false, false, false, false] (fun k => [(3, vint .i64 k)]) s.items.length (badI s.items) rfl ?_ ?_ ?_ ?_
  · simp only [keepM_t, keepM_f, keepM_n, setT_c, setT_n, relVs, relV, relLs, relL, relTs, relObs, relOb, L.ren, ren_dat]
    exact Kn.of [0] (by decide) (by simp [keepM_t, keepM_f, keepM_n, setT_c, setT_n, relVs, relV, relLs, relL, relTs, relObs, relOb, L.ren, ren_dat]) (by simp [keepM_t, keepM_f, keepM_n, setT_c, setT_n, relVs, relV, relLs, relL, relTs, relObs, relOb, L.ren, ren_dat])
  · intro k hk hp
    have hw := wrap_small (k := k) (by unfold maxLen at hlm; omega)
    obtain ⟨a1, a2, a3⟩ := goodI hk hp
    have e3k := e3 k hk
    have e4k := e4 k hk
    rw [a1] at e3k
    rw [a2] at e4k
    rcases a3 with rfl | ⟨j, rfl, hj, a3⟩
    · simp [b_spec_IsStore_0, hk, wrap_1, e3k, e4k, XItem.e]
      exact Kn.of [0] (by decide) (by simp [keepM_t, keepM_f, keepM_n, setT_c, setT_n, relVs, relV, relLs, relL, relTs, relObs, relOb, L.ren, ren_dat]) (by simp [keepM_t, keepM_f, keepM_n, setT_c, setT_n, relVs, relV, relLs, relL, relTs, relObs, relOb, L.ren, ren_dat])
    · obtain ⟨i1, i2, i3, i4, i5, i6⟩ := idxS hlm hk
      have e5k := e5 j (j + 1) hj hk
      generalize cmpK s.items[j].key s.items[j + 1].key = C at e5k a3
      simp [b_spec_IsStore_0, hk, hj, i1, i2, i3, i4, i5, i6, e3k, e4k, e5k, a3, XItem.e]
      exact Kn.of [0] (by decide) (by simp [keepM_t, keepM_f, keepM_n, setT_c, setT_n, relVs, relV, relLs, relL, relTs, relObs, relOb, L.ren, ren_dat]) (by simp [keepM_t, keepM_f, keepM_n, setT_c, setT_n, relVs, relV, relLs, relL, relTs, relObs, relOb, L.ren, ren_dat])
  · intro k hk hp _
    have hF : isStoreX s = false := by unfold isStoreX isItems; rw [range_any_t hk hp]; rfl
    rw [hF]
    have e3k := e3 k hk
    have e4k := e4 k hk
    rcases badI_cases hk hp with a1 | ⟨a1, a2⟩ | ⟨a1, a2, j, rfl, hj, a3⟩
    · rw [a1] at e3k
      simp [b_spec_IsStore_0, hk, e3k, XItem.e]
    · rw [a1] at e3k
      rw [a2] at e4k
      simp [b_spec_IsStore_0, hk, e3k, e4k, XItem.e]
    · rw [a1] at e3k
      rw [a2] at e4k
      obtain ⟨i1, i2, i3, i4, i5, i6⟩ := idxS hlm hk
      have e5k := e5 j (j + 1) hj hk
      generalize cmpK s.items[j].key s.items[j + 1].key = C at e5k a3
      simp [b_spec_IsStore_0, hk, hj, i1, i2, i3, i4, i5, i6, e3k, e4k, e5k, a3, XItem.e]
  · intro hp
    have hT : isStoreX s = (isName s.name && (decide ((s.items.length : Int) ≤ 16) && (decide (0 ≤ s.auto) && decide (s.auto ≤ 1000000)))) := by
      unfold isStoreX isItems
      rw [range_any hp]
      rfl
    rw [hT]
    generalize (decide (0 ≤ s.auto) && decide (s.auto ≤ 1000000)) = R at e2 ⊢
    cases c1 : isName s.name <;> rw [c1] at e1
    · simp [b_spec_IsStore_0, e1]
    · by_cases c2 : (s.items.length : Int) ≤ 16
      · simp [b_spec_IsStore_0, e1, e2, c2, show s.items.length ≤ 16 by omega]
      · simp [b_spec_IsStore_0, e1, c2, show ¬ s.items.length ≤ 16 by omega]
end Gi
