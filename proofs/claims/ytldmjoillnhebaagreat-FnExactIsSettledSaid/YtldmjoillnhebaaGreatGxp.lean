/- An item put into a store: what it comes to. -/
import Derived.Test.YtldmjoillnhebaaGreatGxg
namespace Gi
open Go Go.RowKit
set_option linter.unusedSimpArgs false
set_option linter.unusedVariables false
set_option maxHeartbeats 4000000
set_option maxRecDepth 4000

def okI (x : XItem) : Bool := isKeyX x.key && isRecX x.rcd
def adjK : List XItem → Bool
  | [] => true
  | [_] => true
  | a :: b :: t => decide (cmpK a.key b.key < 0) && adjK (b :: t)
def lessO : Option XItem → Option XItem → Bool
  | some a, some b => decide (cmpK a.key b.key < 0)
  | _, _ => true
theorem adjK_at : ∀ {xs : List XItem}, adjK xs = true ↔ ∀ j (h : j + 1 < xs.length), cmpK xs[j].key xs[j + 1].key < 0
  | [] => by simp [adjK]
  | [_] => by simp [adjK]
  | a :: b :: t => by
    have ih := adjK_at (xs := b :: t)
    simp only [adjK, Bool.and_eq_true, decide_eq_true_eq, ih]
    constructor
    · intro ⟨h1, h2⟩ j hj
      cases j with
      | zero => simpa using h1
      | succ j => have := h2 j (by simpa using hj); simpa using this
    · intro h
      refine ⟨by have := h 0 (by simp); simpa using this, fun j hj => ?_⟩
      have := h (j + 1) (by simpa using hj)
      simpa using this
theorem isItems_eq (xs : List XItem) : isItems xs = (xs.all okI && adjK xs) := by
  rw [Bool.eq_iff_iff]
  unfold isItems
  simp only [Bool.not_eq_true', Bool.and_eq_true, List.any_eq_false, List.mem_range, adjK_at, List.all_eq_true]
  constructor
  · intro h
    have h' : ∀ k, k < xs.length → badI xs k = false := fun k hk => by have := h k hk; simpa using this
    refine ⟨fun x hx => ?_, fun j hj => ?_⟩
    · obtain ⟨k, hk, rfl⟩ := List.mem_iff_getElem.1 hx
      obtain ⟨h1, h2, _⟩ := goodI hk (h' k hk)
      simp [okI, h1, h2]
    · obtain ⟨_, _, h3⟩ := goodI hj (h' _ hj)
      rcases h3 with h3 | ⟨i, h4, _, h5⟩
      · omega
      · obtain rfl : i = j := by omega
        omega
  · intro ⟨h1, h2⟩ k hk hb
    rcases badI_cases hk hb with h3 | ⟨_, h3⟩ | ⟨_, _, j, rfl, hj, h3⟩
    · have := h1 _ (List.getElem_mem hk)
      simp [okI, h3] at this
    · have := h1 _ (List.getElem_mem hk)
      simp [okI, h3] at this
    · have := h2 j hk
      omega
theorem adjK_app : ∀ (l m : List XItem), adjK (l ++ m) = (adjK l && (adjK m && lessO l.getLast? m.head?))
  | [], m => by cases m <;> simp [adjK, lessO]
  | [a], [] => by simp [adjK, lessO]
  | [a], b :: m => by simp [adjK, lessO, Bool.and_comm]
  | a :: b :: t, m => by
    have ih := adjK_app (b :: t) m
    simp only [List.cons_append] at ih ⊢
    simp only [adjK, ih, Bool.and_assoc]
    have : (a :: b :: t).getLast? = (b :: t).getLast? := by simp [List.getLast?_cons_cons]
    rw [this]
theorem adjK_cons (x : XItem) (m : List XItem) : adjK (x :: m) = (adjK m && lessO (some x) m.head?) := by
  have := adjK_app [x] m
  simpa [adjK] using this

def posI (xs : List XItem) (k : XKey) : Nat := xs.findIdx fun x => !(decide (cmpK x.key k < 0))
theorem posI_le (xs : List XItem) (k : XKey) : posI xs k ≤ xs.length := List.findIdx_le_length
theorem posI_lt {xs : List XItem} {k : XKey} {j : Nat} (h : j < posI xs k) (hj : j < xs.length) : cmpK xs[j].key k < 0 := by
  have := List.not_of_lt_findIdx h
  simpa using this
theorem posI_at {xs : List XItem} {k : XKey} (h : posI xs k < xs.length) : ¬ cmpK xs[posI xs k].key k < 0 := by
  have := List.findIdx_getElem (w := h)
  unfold posI
  simpa using this
/-- keys that are valid and not the same are in one order or the other -/
theorem cmpK_flip {a b : XKey} (ha : isKeyX a = true) (hb : isKeyX b = true) (hne : a ≠ b) (h : ¬ cmpK a b < 0) : cmpK b a < 0 := by
  unfold cmpK at h ⊢
  rw [ha, hb] at h ⊢
  simp only [Bool.true_eq_false, or_self, if_false] at h ⊢
  obtain ⟨ak, an, ax⟩ := a
  obtain ⟨bk, bn, bx⟩ := b
  simp only [ne_eq, XKey.mk.injEq, not_and] at hne h ⊢
  by_cases h1 : ak = bk
  · subst h1
    simp only [not_true_eq_false, if_false] at h ⊢
    by_cases h2 : an = bn
    · subst h2
      simp only [not_true_eq_false, if_false] at h ⊢
      rw [compareBytes_less] at h ⊢
      have h3 : ¬ ax = bx := hne rfl rfl
      have ht := less_total ax bx
      have h3b : (ax == bx) = false := by simpa using h3
      rw [h3b, Bool.or_false] at ht
      cases q : Op.bytesLess ax bx with
      | true => rw [q] at h; simp at h
      | false =>
        rw [q] at ht
        have : Op.bytesLess bx ax = true := by simpa using ht.symm
        simp [this]
    · simp only [h2, not_false_eq_true, if_true, fun e => h2 (Eq.symm e)] at h ⊢
      have h2' : ¬ bn = an := fun e => h2 e.symm
      simp only [h2', not_false_eq_true, if_true]
      unfold sgn at h ⊢
      split at h
      · omega
      · rw [if_pos (by omega)]; omega
  · have h1' : ¬ bk = ak := fun e => h1 e.symm
    simp only [h1, h1', not_false_eq_true, if_true] at h ⊢
    unfold sgn at h ⊢
    split at h
    · omega
    · rw [if_pos (by omega)]; omega
def isKX (k : XKey) (x : XItem) : Bool := x.key.kind == k.kind && (x.key.n == k.n && x.key.text == k.text)
theorem isKX_eq {k : XKey} {x : XItem} : isKX k x = true ↔ x.key = k := by
  obtain ⟨⟨a, b, c⟩, r⟩ := x
  obtain ⟨d, e, f⟩ := k
  simp [isKX]
def fndX (s : XStore) (k : XKey) : Int := findI (isK k.kind k.n k.text) (s.items.map XItem.e) 0
theorem isK_e (k : XKey) (x : XItem) : isK k.kind k.n k.text x.e = isKX k x := rfl
theorem findI_no {p : List PV → Bool} : ∀ {rs : List (List PV)} {o : Nat}, findI p rs o < 0 → ∀ r ∈ rs, p r = false
  | [], _, _, r, h => by cases h
  | r :: rs, o, h, x, hx => by
    unfold findI at h
    cases q : p r with
    | true => rw [q, cond_true] at h; omega
    | false =>
      rw [q, cond_false] at h
      rcases List.mem_cons.1 hx with rfl | hx
      · exact q
      · exact findI_no h x hx
theorem findI_hit {p : List PV → Bool} : ∀ {rs : List (List PV)} {o j : Nat}, findI p rs o = ((o + j : Nat) : Int) → ∀ hj : j < rs.length, p rs[j] = true
  | [], _, _, _, hj => by simp at hj
  | r :: rs, o, j, h, hj => by
    unfold findI at h
    cases q : p r with
    | true =>
      rw [q, cond_true] at h
      obtain rfl : j = 0 := by omega
      exact q
    | false =>
      rw [q, cond_false] at h
      cases j with
      | zero => rcases findI_range p rs (o + 1) with h1 | ⟨j, h1, h2⟩ <;> omega
      | succ j => exact findI_hit (o := o + 1) (j := j) (by rw [h]; congr 1; omega) (by simpa using hj)
theorem fndX_no {s : XStore} {k : XKey} (h : fndX s k < 0) : ∀ x ∈ s.items, x.key ≠ k := fun x hx e => by
  have := findI_no h x.e (List.mem_map.2 ⟨x, hx, rfl⟩)
  rw [isK_e] at this
  rw [isKX_eq.2 e] at this
  cases this
theorem fndX_hit {s : XStore} {k : XKey} {j : Nat} (h : fndX s k = (j : Int)) (hj : j < s.items.length) : s.items[j].key = k := by
  have := findI_hit (o := 0) (j := j) (by simpa [fndX] using h) (by simpa using hj)
  simp only [List.getElem_map, isK_e] at this
  exact isKX_eq.1 this

def autoN (s : XStore) (k : XKey) : Int := if k.kind = 1 ∧ s.auto < k.n ∧ k.n ≤ 1000000 then k.n else s.auto
def insX (s : XStore) (k : XKey) (r : XRecord) : List XItem := s.items.take (posI s.items k) ++ (⟨k, r⟩ :: s.items.drop (posI s.items k))
def putX (s : XStore) (k : XKey) (r : XRecord) : XStore × Bool :=
  if isStoreX s = true ∧ isKeyX k = true ∧ isRecX r = true then
    (if 0 ≤ fndX s k then (⟨s.name, s.items.set (fndX s k).toNat ⟨k, r⟩, s.auto⟩, true)
     else if 16 ≤ s.items.length then (s, false) else (⟨s.name, insX s k r, autoN s k⟩, true))
  else (s, false)
theorem adjK_set {xs : List XItem} {j : Nat} {x : XItem} (hj : j < xs.length) (hk : xs[j].key = x.key) (h : adjK xs = true) : adjK (xs.set j x) = true := by
  have hkey : ∀ i (hi : i < xs.length), ((xs.set j x)[i]'(by simpa using hi)).key = xs[i].key := fun i hi => by
    rw [List.getElem_set]
    split
    · rename_i e; subst e; exact hk.symm
    · rfl
  rw [adjK_at] at h ⊢
  intro i hi
  have hi' : i + 1 < xs.length := by simpa using hi
  rw [hkey i (by omega), hkey (i + 1) hi']
  exact h i hi'
/-- The record of an item turned: the store is as valid as the record. -/
theorem isStore_set {s : XStore} {k : XKey} {r : XRecord} {j : Nat} (hs : isStoreX s = true) (hj : j < s.items.length) (hk : s.items[j].key = k) : isStoreX ⟨s.name, s.items.set j ⟨k, r⟩, s.auto⟩ = isRecX r := by
  unfold isStoreX at hs ⊢
  simp only [Bool.and_eq_true] at hs
  obtain ⟨h1, h2, h3, h4⟩ := hs
  simp only [List.length_set, h2, h3, h4, Bool.and_self, Bool.and_true, Bool.true_and]
  rw [isItems_eq] at h1 ⊢
  simp only [Bool.and_eq_true] at h1
  rw [adjK_set hj hk h1.2, Bool.and_true]
  cases hr : isRecX r with
  | true =>
    rw [List.all_eq_true]
    intro x hx
    rcases List.mem_or_eq_of_mem_set hx with hx | rfl
    · exact List.all_eq_true.1 h1.1 x hx
    · have := List.all_eq_true.1 h1.1 _ (List.getElem_mem hj)
      simp only [okI, hk, Bool.and_eq_true] at this
      simp [okI, hr, this.1]
  | false =>
    rw [List.all_eq_false]
    refine ⟨⟨k, r⟩, List.mem_iff_getElem.2 ⟨j, by simpa using hj, by simp⟩, by simp [okI, hr]⟩
theorem isStore_ins {s : XStore} {k : XKey} {r : XRecord} (hs : isStoreX s = true) (hk : isKeyX k = true) (hf : fndX s k < 0) : isStoreX ⟨s.name, insX s k r, autoN s k⟩ = (isRecX r && decide (s.items.length + 1 ≤ 16)) := by
  unfold isStoreX at hs ⊢
  simp only [Bool.and_eq_true] at hs
  obtain ⟨h1, h2, h3, h4⟩ := hs
  rw [isItems_eq] at h1 ⊢
  simp only [Bool.and_eq_true, decide_eq_true_eq] at h1 h4
  have hp := posI_le s.items k
  have hlen : (insX s k r).length = s.items.length + 1 := by unfold insX; simp; omega
  have ha : (decide (0 ≤ autoN s k) && decide (autoN s k ≤ 1000000)) = true := by
    unfold autoN
    split <;> simp <;> omega
  have hl : decide (((insX s k r).length : Int) ≤ 16) = decide (s.items.length + 1 ≤ 16) := by rw [hlen]; congr 1; simp; omega
  simp only [h2, ha, hl, Bool.and_true, Bool.true_and]
  congr 1
  have hadj : adjK (insX s k r) = true := by
    unfold insX
    rw [adjK_app, adjK_cons]
    have hsp := adjK_app (s.items.take (posI s.items k)) (s.items.drop (posI s.items k))
    rw [List.take_append_drop, h1.2] at hsp
    simp only [Bool.true_eq, Bool.and_eq_true] at hsp
    rw [hsp.1, hsp.2.1]
    simp only [Bool.true_and, List.head?_cons, Bool.and_eq_true]
    constructor
    · cases hq : (s.items.drop (posI s.items k)).head? with
      | none => rfl
      | some y =>
        rw [List.head?_drop] at hq
        obtain ⟨hlt, rfl⟩ := List.getElem?_eq_some_iff.1 hq
        have hy := List.all_eq_true.1 h1.1 _ (List.getElem_mem hlt)
        simp only [okI, Bool.and_eq_true] at hy
        have := cmpK_flip hy.1 hk (fndX_no hf _ (List.getElem_mem hlt)) (posI_at hlt)
        simp [lessO, this]
    · cases hq : (s.items.take (posI s.items k)).getLast? with
      | none => rfl
      | some y =>
        rw [List.getLast?_eq_getElem?] at hq
        obtain ⟨hlt, rfl⟩ := List.getElem?_eq_some_iff.1 hq
        simp only [List.length_take] at hlt ⊢
        rw [List.getElem_take]
        have := posI_lt (xs := s.items) (k := k) (j := min (posI s.items k) s.items.length - 1) (by omega) (by omega)
        simp [lessO, this]
  rw [hadj, Bool.and_true]
  cases hr : isRecX r with
  | true =>
    rw [List.all_eq_true]
    intro x hx
    unfold insX at hx
    rw [List.mem_append, List.mem_cons] at hx
    rcases hx with hx | rfl | hx
    · exact List.all_eq_true.1 h1.1 x (List.mem_of_mem_take hx)
    · simp [okI, hr, hk]
    · exact List.all_eq_true.1 h1.1 x (List.mem_of_mem_drop hx)
  | false =>
    rw [List.all_eq_false]
    exact ⟨⟨k, r⟩, by unfold insX; simp, by simp [okI, hr]⟩
end Gi
