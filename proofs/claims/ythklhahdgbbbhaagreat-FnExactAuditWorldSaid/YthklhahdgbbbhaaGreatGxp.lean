/- Of this proof. -/
import Derived.Test.YthklhahdgbbbhaaGreatGxl
set_option linter.unusedSimpArgs false
namespace Gi
open Go Go.RowKit
set_option maxHeartbeats 4000000
set_option maxRecDepth 4000
attribute [local simp] bW am bg bt cF dN Opd.ev put V.cells plain bz hJ isInt isStr isBool bin bf aS aR un asList L.view aB V.view viewL bC aC aT cj comp bq bZ bK a9 aK aI aJ aQ aE ba ar aM aA av aO aN aL aP thawT bB bw cd bG bA bz V.flat L.flat dX dJ bS putAt thaw thawL freezeVs freezeLs freezeL V.mut L.mut bm aZ wp_seq wp_block bE wp_cond wp_skip wp_exit wp_ret cN cE cK cH cS cT cR cq bj L.notArr aY aW aX bH bI
section
variable {B : Nat} {s : XStore}
theorem p6 (hB : B ≤ 1048576) {x : XItem} (h : x.Ok B) : aa Ph al 218 [.agg [.pv (.int .i64 x.key.kind), .pv (.int .i64 x.key.n), .pv (.str x.key.text), .pv (.lst (x.rcd.fs.map XField.e))]] = some (.agg [.pv (.int .i64 x.key.kind), .pv (.int .i64 x.key.n), .pv (.str x.key.text), .pv (.lst (x.rcd.fs.map XField.e))]) :=
 zb (bY (fun _ q => XField.has (by unfold maxLen; omega) q) (by unfold maxLen; omega) h.2) (by rw [List.length_map]; have := h.2.1; omega)
theorem qe (hB : B ≤ 1048576) {x : XItem} (h : x.Ok B) : aa Ph al 214 [.agg [.pv (.int .i64 x.key.kind), .pv (.int .i64 x.key.n), .pv (.str x.key.text), .pv (.lst (x.rcd.fs.map XField.e))]] = some (.agg [.pv (.int .i64 x.key.kind), .pv (.int .i64 x.key.n), .pv (.str x.key.text), .pv (.lst (x.rcd.fs.map XField.e))]) :=
 CP (bY (fun _ q => XField.has (by unfold maxLen; omega) q) (by unfold maxLen; omega) h.2) (by rw [List.length_map]; have := h.2.1; omega)
def hcs (b0 b1 : AObj) (nm : List UInt8) (au : Int) (rows : List (List PV)) : Nat → List AObj
 | 0 => [b0, b1, .box [.pv (.str nm), .nil, .pv (.int .i64 au)]]
 | k + 1 => [b0, b1, .box [.pv (.str nm), .arr 3, .pv (.int .i64 au)], .arr 4 (rows.take (k + 1))]
theorem EE {xs : List XItem} {k : Nat} (hk : k < xs.length) : (xs.map XItem.e).take (k + 1) = (xs.map XItem.e).take k ++ [xs[k].e] := by
 rw [List.take_succ_eq_append_getElem (by simpa using hk)]; simp
def rt (s : XStore) : V := .agg [.pv (.str s.name), n7 4 (s.items.map XItem.e), .pv (.int .i64 s.auto)]
theorem gZ (hB : B ≤ 1048576) (h : s.Ok B) : aa Ph al 191 [.agg [.pv (.str s.name), .pv (.lst (s.items.map XItem.e)), .pv (.int .i64 s.auto)]] = some (rt s) := by
 obtain ⟨hn, ⟨hl, hi⟩, ha⟩ := h
 have e1 : ∀ k (hk : k < s.items.length), _ := fun k hk => p6 hB (hi _ (List.getElem_mem hk))
 have hl' : s.items.length ≤ 1048576 := Nat.le_trans hl hB
 refine aw (fn := nu) rfl ?_
 simp [nu]
 refine ud bh Cl.fin s.items.length [.f,.f,.t,.t,.f,.f,.f,.f,.f,.f,.f,.f,.t,.t,.t,.f,.f,.f,.f,.f,.f,.f,.f,.f,.f,.f,.f] (fun k => [(14, ae .i64 k)]) (hcs (.box [.pv (.str s.name), .pv (.lst (s.items.map XItem.e)), .pv (.int .i64 s.auto)]) (.box [.pv (.str []), .nil, .pv (.int .i64 0)]) s.name s.auto (s.items.map XItem.e)) rfl ?_ ?_ ?_
 ·exact Kn.q [0, 1, 2] (by simp [hcs, aY, aW, aX, bH, bI, bL, ca, br, dI, co, bQ, cu, L.ren, aA])
 ·intro k hk
  have e1k := e1 k hk
  have hx := XItem.e.eq_1 s.items[k]
  have ht := EE hk
  rw [hx] at ht
  cases k with
  | zero =>
   simp only [hcs, ht]
   simp [gR, hk, hx, e1k, bP]
   exact Kn.q [0, 1, 2, 5]
  | succ k =>
   obtain ⟨i1, i2, i3, i4, i5, i6⟩ := kJ (n := s.items.length) (by unfold maxLen; omega) hk
   have b1 : min (k + 1) s.items.length = k + 1 := by omega
   have m1 := pU (m := k + 1 + 1) (z := 56) (by omega) (by omega)
   simp only [hcs, ht]
   generalize hT : (s.items.map XItem.e).take (k + 1) = T
   have hTl : T.length = k + 1 := by rw [← hT]; simp; omega
   simp [gR, hk, hx, e1k, i1, i2, i3, i4, i5, i6, hTl, m1]
   exact Kn.q [0, 1, 2, 6]
 ·unfold rt
  cases hq : s.items with
  | nil => simp [gR, hcs, n7]
  | cons x xs =>
   have hT : (s.items.map XItem.e).take (xs.length + 1) = s.items.map XItem.e := List.take_of_length_le (by rw [hq]; simp)
   rw [hq] at hT
   simp only [List.length_cons, hcs, hT]
   simp [gR, n7]
theorem lR (hB : B ≤ 1048576) (h : s.Ok B) : aa Ph al 187 [.agg [.pv (.str s.name), .pv (.lst (s.items.map XItem.e)), .pv (.int .i64 s.auto)]] = some (rt s) := by
 obtain ⟨hn, ⟨hl, hi⟩, ha⟩ := h
 have e1 : ∀ k (hk : k < s.items.length), _ := fun k hk => qe hB (hi _ (List.getElem_mem hk))
 have hl' : s.items.length ≤ 1048576 := Nat.le_trans hl hB
 refine aw (fn := qB) rfl ?_
 simp [qB]
 refine ud bh Cl.fin s.items.length [.f,.t,.t,.t,.t,.f,.f,.f,.f,.f,.f,.f,.f,.f,.f,.f,.f,.f,.f,.f,.f,.f,.f,.f,.f,.f,.f,.f,.f] (fun k => [(4, ae .i64 k)]) (hcs (.box [.pv (.str s.name), .pv (.lst (s.items.map XItem.e)), .pv (.int .i64 s.auto)]) (.box [.pv (.str []), .nil, .pv (.int .i64 0)]) s.name s.auto (s.items.map XItem.e)) rfl ?_ ?_ ?_
 ·exact Kn.q [0, 1, 2] (by simp [hcs, aY, aW, aX, bH, bI, bL, ca, br, dI, co, bQ, cu, L.ren, aA])
 ·intro k hk
  have e1k := e1 k hk
  have hx := XItem.e.eq_1 s.items[k]
  have ht := EE hk
  rw [hx] at ht
  cases k with
  | zero =>
   simp only [hcs, ht]
   simp [iR, hk, hx, e1k, bP]
   exact Kn.q [0, 1, 2, 4]
  | succ k =>
   obtain ⟨i1, i2, i3, i4, i5, i6⟩ := kJ (n := s.items.length) (by unfold maxLen; omega) hk
   have b1 : min (k + 1) s.items.length = k + 1 := by omega
   have m1 := pU (m := k + 1 + 1) (z := 56) (by omega) (by omega)
   simp only [hcs, ht]
   generalize hT : (s.items.map XItem.e).take (k + 1) = T
   have hTl : T.length = k + 1 := by rw [← hT]; simp; omega
   simp [iR, hk, hx, e1k, i1, i2, i3, i4, i5, i6, hTl, m1]
   exact Kn.q [0, 1, 2, 5]
 ·unfold rt
  cases hq : s.items with
  | nil => simp [iR, hcs, n7]
  | cons x xs =>
   have hT : (s.items.map XItem.e).take (xs.length + 1) = s.items.map XItem.e := List.take_of_length_le (by rw [hq]; simp)
   rw [hq] at hT
   simp only [List.length_cons, hcs, hT]
   simp [iR, n7]
end
end Gi
namespace Gi
open Go Go.RowKit
set_option maxHeartbeats 4000000
set_option maxRecDepth 4000
def Nf (x : XItem) : Bool := fk x.key && cG x.rcd
def rI : List XItem → Bool
 | [] => true
 | [_] => true
 | a :: b :: t => decide (kd a.key b.key < 0) && rI (b :: t)
def Cx : Option XItem → Option XItem → Bool
 | some a, some b => decide (kd a.key b.key < 0)
 | _, _ => true
theorem EM : ∀ {xs : List XItem}, rI xs = true ↔ ∀ j (h : j + 1 < xs.length), kd xs[j].key xs[j + 1].key < 0
 | [] => by simp [rI]
 | [_] => by simp [rI]
 | a :: b :: t => by
  have ih := EM (xs := b :: t)
  simp only [rI, Bool.and_eq_true, decide_eq_true_eq, ih]
  constructor
  ·intro ⟨h1, h2⟩ j hj
   cases j with
   | zero => simpa using h1
   | succ j => have := h2 j (by simpa using hj); simpa using this
  ·intro h
   refine ⟨by have := h 0 (by simp); simpa using this, fun j hj => ?_⟩
   have := h (j + 1) (by simpa using hj)
   simpa using this
theorem Cs (xs : List XItem) : sa xs = (xs.all Nf && rI xs) := by
 rw [Bool.eq_iff_iff]
 unfold sa
 simp only [Bool.not_eq_true', Bool.and_eq_true, List.any_eq_false, List.mem_range, EM, List.all_eq_true]
 constructor
 ·intro h
  have h' : ∀ k, k < xs.length → Gx xs k = false := fun k hk => by have := h k hk; simpa using this
  refine ⟨fun x hx => ?_, fun j hj => ?_⟩
  ·obtain ⟨k, hk, rfl⟩ := List.mem_iff_getElem.1 hx
   obtain ⟨h1, h2, _⟩ := Jo hk (h' k hk)
   simp [Nf, h1, h2]
  ·obtain ⟨_, _, h3⟩ := Jo hj (h' _ hj)
   rcases h3 with h3 | ⟨i, h4, _, h5⟩
   ·omega
   ·obtain rfl : i = j := by omega
    omega
 ·intro ⟨h1, h2⟩ k hk hb
  rcases vm hk hb with h3 | ⟨_, h3⟩ | ⟨_, _, j, rfl, hj, h3⟩
  ·have := h1 _ (List.getElem_mem hk)
   simp [Nf, h3] at this
  ·have := h1 _ (List.getElem_mem hk)
   simp [Nf, h3] at this
  ·have := h2 j hk
   omega
theorem wt : ∀ (l m : List XItem), rI (l ++ m) = (rI l && (rI m && Cx l.getLast? m.head?))
 | [], m => by cases m <;> simp [rI, Cx]
 | [a], [] => by simp [rI, Cx]
 | [a], b :: m => by simp [rI, Cx, Bool.and_comm]
 | a :: b :: t, m => by
  have ih := wt (b :: t) m
  simp only [List.cons_append] at ih ⊢
  simp only [rI, ih, Bool.and_assoc]
  have : (a :: b :: t).getLast? = (b :: t).getLast? := by simp [List.getLast?_cons_cons]
  rw [this]
theorem JT (x : XItem) (m : List XItem) : rI (x :: m) = (rI m && Cx (some x) m.head?) := by
 have := wt [x] m
 simpa [rI] using this
def pV (xs : List XItem) (k : XKey) : Nat := xs.findIdx fun x => !(decide (kd x.key k < 0))
theorem xt (xs : List XItem) (k : XKey) : pV xs k ≤ xs.length := List.findIdx_le_length
theorem FE {xs : List XItem} {k : XKey} {j : Nat} (h : j < pV xs k) (hj : j < xs.length) : kd xs[j].key k < 0 := by
 have := List.not_of_lt_findIdx h
 simpa using this
theorem FD {xs : List XItem} {k : XKey} (h : pV xs k < xs.length) : ¬ kd xs[pV xs k].key k < 0 := by
 have := List.findIdx_getElem (w := h)
 unfold pV
 simpa using this
theorem J8 {a b : XKey} (ha : fk a = true) (hb : fk b = true) (hne : a ≠ b) (h : ¬ kd a b < 0) : kd b a < 0 := by
 unfold kd at h ⊢
 rw [ha, hb] at h ⊢
 simp only [Bool.true_eq_false, or_self, if_false] at h ⊢
 obtain ⟨ak, an, ax⟩ := a
 obtain ⟨bk, bn, bx⟩ := b
 simp only [ne_eq, XKey.mk.injEq, not_and] at hne h ⊢
 by_cases h1 : ak = bk
 ·subst h1
  simp only [not_true_eq_false, if_false] at h ⊢
  by_cases h2 : an = bn
  ·subst h2
   simp only [not_true_eq_false, if_false] at h ⊢
   rw [ml] at h ⊢
   have h3 : ¬ ax = bx := hne rfl rfl
   have ht := nG ax bx
   have h3b : (ax == bx) = false := by simpa using h3
   rw [h3b, Bool.or_false] at ht
   cases q : Op.bytesLess ax bx with
   | true => rw [q] at h; simp at h
   | false =>
    rw [q] at ht
    have : Op.bytesLess bx ax = true := by simpa using ht.symm
    simp [this]
  ·simp only [h2, not_false_eq_true, if_true, fun e => h2 (Eq.symm e)] at h ⊢
   have h2' : ¬ bn = an := fun e => h2 e.symm
   simp only [h2', not_false_eq_true, if_true]
   unfold HY at h ⊢
   split at h
   ·omega
   ·rw [if_pos (by omega)]; omega
 ·have h1' : ¬ bk = ak := fun e => h1 e.symm
  simp only [h1, h1', not_false_eq_true, if_true] at h ⊢
  unfold HY at h ⊢
  split at h
  ·omega
  ·rw [if_pos (by omega)]; omega
def OB (k : XKey) (x : XItem) : Bool := x.key.kind == k.kind && (x.key.n == k.n && x.key.text == k.text)
theorem Js {k : XKey} {x : XItem} : OB k x = true ↔ x.key = k := by
 obtain ⟨⟨a, b, c⟩, r⟩ := x
 obtain ⟨d, e, f⟩ := k
 simp [OB]
def k6 (s : XStore) (k : XKey) : Int := bN (Is k.kind k.n k.text) (s.items.map XItem.e) 0
theorem N0 (k : XKey) (x : XItem) : Is k.kind k.n k.text x.e = OB k x := rfl
theorem GZ {p : List PV → Bool} : ∀ {rs : List (List PV)} {o : Nat}, bN p rs o < 0 → ∀ r ∈ rs, p r = false
 | [], _, _, r, h => by cases h
 | r :: rs, o, h, x, hx => by
  unfold bN at h
  cases q : p r with
  | true => rw [q, cond_true] at h; omega
  | false =>
   rw [q, cond_false] at h
   rcases List.mem_cons.1 hx with rfl | hx
   ·exact q
   ·exact GZ h x hx
theorem Ej {p : List PV → Bool} : ∀ {rs : List (List PV)} {o j : Nat}, bN p rs o = ((o + j : Nat) : Int) → ∀ hj : j < rs.length, p rs[j] = true
 | [], _, _, _, hj => by simp at hj
 | r :: rs, o, j, h, hj => by
  unfold bN at h
  cases q : p r with
  | true =>
   rw [q, cond_true] at h
   obtain rfl : j = 0 := by omega
   exact q
  | false =>
   rw [q, cond_false] at h
   cases j with
   | zero => rcases lZ p rs (o + 1) with h1 | ⟨j, h1, h2⟩ <;> omega
   | succ j => exact Ej (o := o + 1) (j := j) (by rw [h]; congr 1; omega) (by simpa using hj)
theorem Nt {s : XStore} {k : XKey} (h : k6 s k < 0) : ∀ x ∈ s.items, x.key ≠ k := fun x hx e => by
 have := GZ h x.e (List.mem_map.2 ⟨x, hx, rfl⟩)
 rw [N0] at this
 rw [Js.2 e] at this
 cases this
theorem LO {s : XStore} {k : XKey} {j : Nat} (h : k6 s k = (j : Int)) (hj : j < s.items.length) : s.items[j].key = k := by
 have := Ej (o := 0) (j := j) (by simpa [k6] using h) (by simpa using hj)
 simp only [List.getElem_map, N0] at this
 exact Js.1 this
def k9 (s : XStore) (k : XKey) : Int := if k.kind = 1 ∧ s.auto < k.n ∧ k.n ≤ 1000000 then k.n else s.auto
def lh (s : XStore) (k : XKey) (r : XRecord) : List XItem := s.items.take (pV s.items k) ++ (⟨k, r⟩ :: s.items.drop (pV s.items k))
def pW (s : XStore) (k : XKey) (r : XRecord) : XStore × Bool :=
 if bT s = true ∧ fk k = true ∧ cG r = true then
  (if 0 ≤ k6 s k then (⟨s.name, s.items.set (k6 s k).toNat ⟨k, r⟩, s.auto⟩, true)
   else if 16 ≤ s.items.length then (s, false) else (⟨s.name, lh s k r, k9 s k⟩, true))
 else (s, false)
theorem Lu {xs : List XItem} {j : Nat} {x : XItem} (hj : j < xs.length) (hk : xs[j].key = x.key) (h : rI xs = true) : rI (xs.set j x) = true := by
 have hkey : ∀ i (hi : i < xs.length), ((xs.set j x)[i]'(by simpa using hi)).key = xs[i].key := fun i hi => by
  rw [List.getElem_set]
  split
  ·rename_i e; subst e; exact hk.symm
  ·rfl
 rw [EM] at h ⊢
 intro i hi
 have hi' : i + 1 < xs.length := by simpa using hi
 rw [hkey i (by omega), hkey (i + 1) hi']
 exact h i hi'
theorem Ha {s : XStore} {k : XKey} {r : XRecord} {j : Nat} (hs : bT s = true) (hj : j < s.items.length) (hk : s.items[j].key = k) : bT ⟨s.name, s.items.set j ⟨k, r⟩, s.auto⟩ = cG r := by
 unfold bT at hs ⊢
 simp only [Bool.and_eq_true] at hs
 obtain ⟨h1, h2, h3, h4⟩ := hs
 simp only [List.length_set, h2, h3, h4, Bool.and_self, Bool.and_true, Bool.true_and]
 rw [Cs] at h1 ⊢
 simp only [Bool.and_eq_true] at h1
 rw [Lu hj hk h1.2, Bool.and_true]
 cases hr : cG r with
 | true =>
  rw [List.all_eq_true]
  intro x hx
  rcases List.mem_or_eq_of_mem_set hx with hx | rfl
  ·exact List.all_eq_true.1 h1.1 x hx
  ·have := List.all_eq_true.1 h1.1 _ (List.getElem_mem hj)
   simp only [Nf, hk, Bool.and_eq_true] at this
   simp [Nf, hr, this.1]
 | false =>
  rw [List.all_eq_false]
  refine ⟨⟨k, r⟩, List.mem_iff_getElem.2 ⟨j, by simpa using hj, by simp⟩, by simp [Nf, hr]⟩
theorem zQ {s : XStore} {k : XKey} {r : XRecord} (hs : bT s = true) (hk : fk k = true) (hf : k6 s k < 0) : bT ⟨s.name, lh s k r, k9 s k⟩ = (cG r && decide (s.items.length + 1 ≤ 16)) := by
 unfold bT at hs ⊢
 simp only [Bool.and_eq_true] at hs
 obtain ⟨h1, h2, h3, h4⟩ := hs
 rw [Cs] at h1 ⊢
 simp only [Bool.and_eq_true, decide_eq_true_eq] at h1 h4
 have hp := xt s.items k
 have hlen : (lh s k r).length = s.items.length + 1 := by unfold lh; simp; omega
 have ha : (decide (0 ≤ k9 s k) && decide (k9 s k ≤ 1000000)) = true := by
  unfold k9
  split <;> simp <;> omega
 have hl : decide (((lh s k r).length : Int) ≤ 16) = decide (s.items.length + 1 ≤ 16) := by rw [hlen]; congr 1; simp; omega
 simp only [h2, ha, hl, Bool.and_true, Bool.true_and]
 congr 1
 have hadj : rI (lh s k r) = true := by
  unfold lh
  rw [wt, JT]
  have hsp := wt (s.items.take (pV s.items k)) (s.items.drop (pV s.items k))
  rw [List.take_append_drop, h1.2] at hsp
  simp only [Bool.true_eq, Bool.and_eq_true] at hsp
  rw [hsp.1, hsp.2.1]
  simp only [Bool.true_and, List.head?_cons, Bool.and_eq_true]
  constructor
  ·cases hq : (s.items.drop (pV s.items k)).head? with
   | none => rfl
   | some y =>
    rw [List.head?_drop] at hq
    obtain ⟨hlt, rfl⟩ := List.getElem?_eq_some_iff.1 hq
    have hy := List.all_eq_true.1 h1.1 _ (List.getElem_mem hlt)
    simp only [Nf, Bool.and_eq_true] at hy
    have := J8 hy.1 hk (Nt hf _ (List.getElem_mem hlt)) (FD hlt)
    simp [Cx, this]
  ·cases hq : (s.items.take (pV s.items k)).getLast? with
   | none => rfl
   | some y =>
    rw [List.getLast?_eq_getElem?] at hq
    obtain ⟨hlt, rfl⟩ := List.getElem?_eq_some_iff.1 hq
    simp only [List.length_take] at hlt ⊢
    rw [List.getElem_take]
    have := FE (xs := s.items) (k := k) (j := min (pV s.items k) s.items.length - 1) (by omega) (by omega)
    simp [Cx, this]
 rw [hadj, Bool.and_true]
 cases hr : cG r with
 | true =>
  rw [List.all_eq_true]
  intro x hx
  unfold lh at hx
  rw [List.mem_append, List.mem_cons] at hx
  rcases hx with hx | rfl | hx
  ·exact List.all_eq_true.1 h1.1 x (List.mem_of_mem_take hx)
  ·simp [Nf, hr, hk]
  ·exact List.all_eq_true.1 h1.1 x (List.mem_of_mem_drop hx)
 | false =>
  rw [List.all_eq_false]
  exact ⟨⟨k, r⟩, by unfold lh; simp, by simp [Nf, hr]⟩
end Gi
