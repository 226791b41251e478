/- Of this proof. -/
import Derived.Test.YthklhahdgbbbhaaGreatGyb
import Derived.Test.YthklhahdgbbbhaaGreatGxp
set_option linter.unusedSimpArgs false
set_option linter.unusedVariables false
namespace Gi
open Go Go.RowKit
set_option maxHeartbeats 8000000
set_option maxRecDepth 4000
attribute [local simp] bW am bg bt cF dN Opd.ev put V.cells plain bz hJ isInt isStr isBool bin bf aS aR un asList L.view aB V.view viewL bC aC aT cj comp bq bZ bK a9 aK aI aJ aQ aE ba ar aM aA av aO aN aL aP thawT bB bw cd bG bA bz V.flat L.flat dX dJ bS putAt thaw thawL freezeVs freezeLs freezeL V.mut L.mut bm aZ wp_seq wp_block bE wp_cond wp_skip wp_exit wp_ret cN cE cK cH cS cT cR cq bj L.notArr aY aW aX bH bI
def gN (f : List UInt8) (x : XItem) : Int × Bool := lN f (x.rcd.fs.map XField.e)
def vf (f : List UInt8) (a b : XItem) : Bool := decide ((gN f a).1 < (gN f b).1) || (decide ((gN f a).1 = (gN f b).1) && decide (kd a.key b.key < 0))
def Ke (f : List UInt8) (x : XItem) (out : List XItem) : Nat → Nat
 | 0 => 0
 | n + 1 => match out[n]? with
  | none => n + 1
  | some y => cond (vf f x y) (Ke f x out n) (n + 1)
theorem E5 {f : List UInt8} {x : XItem} {out : List XItem} : ∀ n, Ke f x out n ≤ n
 | 0 => Nat.le_refl _
 | n + 1 => by
  unfold Ke
  cases out[n]? with
  | none => exact Nat.le_refl _
  | some y =>
   cases h : vf f x y with
   | true => simp only [h, cond_true]; exact Nat.le_succ_of_le (E5 n)
   | false => simp only [h, cond_false]; exact Nat.le_refl _
theorem Bq {f : List UInt8} {x : XItem} {out : List XItem} : ∀ n, n ≤ out.length → ∀ p, Ke f x out n ≤ p → ∀ (hp : p < n) (ho : p < out.length), vf f x out[p] = true
 | 0, _, p, _, hp, _ => by omega
 | n + 1, hn, p, h, hp, ho => by
  unfold Ke at h
  have hn' : n < out.length := by omega
  rw [List.getElem?_eq_getElem hn'] at h
  simp only at h
  cases q : vf f x out[n] with
  | true =>
   rw [q, cond_true] at h
   by_cases e : p = n
   ·subst e; exact q
   ·exact Bq n (by omega) p h (by omega) ho
  | false => rw [q, cond_false] at h; omega
theorem Br {f : List UInt8} {x : XItem} {out : List XItem} : ∀ n, n ≤ out.length → ∀ j, Ke f x out n = j + 1 → ∃ h : j < out.length, vf f x out[j] = false
 | 0, _, j, h => by simp [Ke] at h
 | n + 1, hn, j, h => by
  unfold Ke at h
  have hn' : n < out.length := by omega
  rw [List.getElem?_eq_getElem hn'] at h
  simp only at h
  cases q : vf f x out[n] with
  | true => rw [q, cond_true] at h; exact Br n (by omega) j h
  | false =>
   rw [q, cond_false] at h
   obtain rfl : n = j := by omega
   exact ⟨hn', q⟩
def Cp (out : List XItem) (x : XItem) (p : Nat) : List XItem := out.take p ++ x :: out.drop p
def lm (f : List UInt8) (out : List XItem) (x : XItem) : List XItem := cond (gN f x).2 (Cp out x (Ke f x out out.length)) out
def nE (f : List UInt8) (xs : List XItem) : List XItem := xs.foldl (lm f) []
theorem En {f : List UInt8} {xs : List XItem} {k : Nat} (hk : k < xs.length) : nE f (xs.take (k + 1)) = lm f (nE f (xs.take k)) xs[k] := by
 unfold nE
 rw [List.take_succ_eq_append_getElem hk, List.foldl_append]
 rfl
theorem Eo (out : List XItem) (x : XItem) (p : Nat) : (Cp out x p).map XItem.e = (out.map XItem.e).take p ++ x.e :: (out.map XItem.e).drop p := by simp [Cp, List.map_take, List.map_drop]
theorem KG {out : List XItem} {x y : XItem} {p : Nat} (h : y ∈ Cp out x p) : y = x ∨ y ∈ out := by
 unfold Cp at h
 rcases List.mem_append.1 h with h | h
 ·exact .inr (List.mem_of_mem_take h)
 ·rcases List.mem_cons.1 h with h | h
  ·exact .inl h
  ·exact .inr (List.mem_of_mem_drop h)
theorem KE (out : List XItem) (x : XItem) {p : Nat} (h : p ≤ out.length) : (Cp out x p).length = out.length + 1 := by simp [Cp]; omega
theorem G6 {f : List UInt8} {out : List XItem} {x y : XItem} (h : y ∈ lm f out x) : y = x ∨ y ∈ out := by
 unfold lm at h
 cases q : (gN f x).2 with
 | true => rw [q, cond_true] at h; exact KG h
 | false => rw [q, cond_false] at h; exact .inr h
theorem uZ {f : List UInt8} : ∀ (xs out : List XItem) (y : XItem), y ∈ xs.foldl (lm f) out → y ∈ xs ∨ y ∈ out
 | [], out, y, h => .inr h
 | x :: xs, out, y, h => by
  rcases uZ xs (lm f out x) y h with h | h
  ·exact .inl (List.mem_cons_of_mem _ h)
  ·rcases G6 h with rfl | h
   ·exact .inl List.mem_cons_self
   ·exact .inr h
theorem w8 {f : List UInt8} {xs : List XItem} {y : XItem} (h : y ∈ nE f xs) : y ∈ xs := by
 rcases uZ xs [] y h with h | h
 ·exact h
 ·cases h
theorem G5 {f : List UInt8} {out : List XItem} {x : XItem} : (lm f out x).length ≤ out.length + 1 := by
 unfold lm
 cases (gN f x).2 with
 | true => rw [cond_true, KE _ _ (E5 _)]; exact Nat.le_refl _
 | false => rw [cond_false]; omega
theorem uY {f : List UInt8} : ∀ (xs out : List XItem), (xs.foldl (lm f) out).length ≤ out.length + xs.length
 | [], out => by simp
 | x :: xs, out => by
  have h1 := uY (f := f) xs (lm f out x)
  have h2 := G5 (f := f) (out := out) (x := x)
  simp only [List.foldl_cons, List.length_cons]
  omega
theorem w7 (f : List UInt8) (xs : List XItem) : (nE f xs).length ≤ xs.length := by
 have := uY (f := f) xs []
 simpa [nE] using this
theorem EC (xs : List XItem) (k : Nat) : ((xs.map XItem.e).take k).all (fun e => e.length == 4) = true := by rw [← List.map_take]; exact kL XItem.len _
theorem D8 (xs : List XItem) (k : Nat) : ((xs.map XItem.e).drop k).all (fun e => e.length == 4) = true := by rw [← List.map_drop]; exact kL XItem.len _
def sU (l : List XItem) (k : Nat) : XKey := match l[k]? with
 | some x => x.key
 | none => ⟨0, 0, []⟩
def Ng (f : List UInt8) (l : List XItem) (k : Nat) : Bool := match l[k]?, l[k + 1]? with
 | some a, some b => (gN f a).1 == (gN f b).1
 | _, _ => false
theorem Gh {f : List UInt8} {l : List XItem} {k : Nat} (hk : k + 1 < l.length) : Ng f l k = ((gN f (l[k]'(by omega))).1 == (gN f l[k + 1]).1) := by
 have : k < l.length := by omega
 simp [Ng, hk, this]
def M3 (f : List UInt8) (l : List XItem) : XKey × XKey × Bool := match (List.range (l.length - 1)).find? (Ng f l) with
 | some k => (sU l k, sU l (k + 1), true)
 | none => (⟨0, 0, []⟩, ⟨0, 0, []⟩, false)
theorem HT {f : List UInt8} {l : List XItem} {k : Nat} (hk : k < l.length - 1) (h : Ng f l k = true) (hn : ∀ j, j < k → Ng f l j = false) : M3 f l = (sU l k, sU l (k + 1), true) := by
 have : (List.range (l.length - 1)).find? (Ng f l) = some k := by
  rw [List.find?_range_eq_some]
  exact ⟨h, List.mem_range.2 hk, fun j hj => by simp [hn j hj]⟩
 simp only [M3, this]
theorem HS {f : List UInt8} {l : List XItem} (hn : ∀ j, j < l.length - 1 → Ng f l j = false) : M3 f l = (⟨0, 0, []⟩, ⟨0, 0, []⟩, false) := by
 have : (List.range (l.length - 1)).find? (Ng f l) = none := by
  rw [List.find?_range_eq_none]
  exact fun j hj => by simp [hn j hj]
 simp only [M3, this]
def Oh (t : XKey × XKey × Bool) : V := .tup [(true, [.pv (.int .i64 t.1.kind), .pv (.int .i64 t.1.n), .pv (.str t.1.text)]), (true, [.pv (.int .i64 t.2.1.kind), .pv (.int .i64 t.2.1.n), .pv (.str t.2.1.text)]), (false, [.pv (.bool t.2.2)])]
def O2 (f : List UInt8) (xs : List XItem) : Bool := (M3 f (nE f xs)).2.2
section
variable {B : Nat} {f : List UInt8}
theorem Fx (hB : B ≤ maxLen) {a b : XItem} (ha : a.Ok B) (hb : b.Ok B) : aa Ph al 415 [.agg [.pv (.int .i64 a.key.kind), .pv (.int .i64 a.key.n), .pv (.str a.key.text), .pv (.lst (a.rcd.fs.map XField.e))], .agg [.pv (.int .i64 b.key.kind), .pv (.int .i64 b.key.n), .pv (.str b.key.text), .pv (.lst (b.rcd.fs.map XField.e))], eX f] = some (aj (vf f a b)) := by
 have e1 := kK (bY (fun _ q => XField.has hB q) hB ha.2) f
 have e2 := kK (bY (fun _ q => XField.has hB q) hB hb.2) f
 have e3 := jj (a := a.key) (b := b.key) (Nat.le_trans ha.1.2.2 hB) (Nat.le_trans hb.1.2.2 hB)
 refine aw (fn := gV) rfl ?_
 unfold vf gN
 unfold wC at e1 e2
 generalize lN f (a.rcd.fs.map XField.e) = u at e1 ⊢
 generalize lN f (b.rcd.fs.map XField.e) = v at e2 ⊢
 generalize kd a.key b.key = C at e3 ⊢
 by_cases q1 : u.1 < v.1
 ·simp [gV, e1, e2, q1]
 ·by_cases q2 : u.1 = v.1
  ·have q3 : (u.1 == v.1) = true := by simpa using q2
   by_cases q4 : C < 0
   ·simp [gV, e1, e2, e3, q1, q2, q3, q4]
   ·simp [gV, e1, e2, e3, q1, q2, q3, q4]
  ·have q3 : (u.1 == v.1) = false := by simpa using q2
   simp [gV, e1, e2, q1, q2, q3]
theorem FM (hB : B ≤ maxLen) {a b : XItem} (ha : a.Ok B) (hb : b.Ok B) : aa Ph al 414 [.agg [.pv (.int .i64 a.key.kind), .pv (.int .i64 a.key.n), .pv (.str a.key.text), .pv (.lst (a.rcd.fs.map XField.e))], .agg [.pv (.int .i64 b.key.kind), .pv (.int .i64 b.key.n), .pv (.str b.key.text), .pv (.lst (b.rcd.fs.map XField.e))], eX f] = some (aj (vf f a b)) := by
 have e1 := kN (bY (fun _ q => XField.has hB q) hB ha.2) f
 have e2 := kN (bY (fun _ q => XField.has hB q) hB hb.2) f
 have e3 := k8 (a := a.key) (b := b.key) (Nat.le_trans ha.1.2.2 hB) (Nat.le_trans hb.1.2.2 hB)
 refine aw (fn := jQ) rfl ?_
 unfold vf gN
 unfold wC at e1 e2
 generalize lN f (a.rcd.fs.map XField.e) = u at e1 ⊢
 generalize lN f (b.rcd.fs.map XField.e) = v at e2 ⊢
 generalize kd a.key b.key = C at e3 ⊢
 by_cases q1 : u.1 < v.1
 ·simp [jQ, e1, e2, q1]
 ·by_cases q2 : u.1 = v.1
  ·have q3 : (u.1 == v.1) = true := by simpa using q2
   by_cases q4 : C < 0
   ·simp [jQ, e1, e2, e3, q1, q2, q3, q4]
   ·simp [jQ, e1, e2, e3, q1, q2, q3, q4]
  ·have q3 : (u.1 == v.1) = false := by simpa using q2
   simp [jQ, e1, e2, q1, q2, q3]
theorem AV (hB1 : B ≤ 1048576) {s : XStore} (h : s.Ok B) : aa Ph al 413 [.agg [.pv (.str s.name), .pv (.lst (s.items.map XItem.e)), .pv (.int .i64 s.auto)], eX f] = some (.one (.own 4 ((nE f s.items).map XItem.e))) := by
 have hB : B ≤ maxLen := by unfold maxLen; omega
 have hl : s.items.length ≤ 1048576 := Nat.le_trans h.2.1.1 hB1
 have hok := h.2.1.2
 have eG : ∀ k (hk : k < s.items.length), _ := fun k hk => kK (bY (fun _ q => XField.has hB q) hB (hok _ (List.getElem_mem hk)).2) f
 have eC : ∀ k (hk : k < s.items.length), _ := fun k hk => p6 hB1 (hok _ (List.getElem_mem hk))
 refine aw (fn := pd) rfl ?_
 simp [pd]
 refine ud bh Cl.fin s.items.length [.f,.t,.f,.f,.f,.t,.f,.f,.f,.f,.f,.f,.f,.t,.t,.t,.f,.f,.f,.f,.f,.f,.f,.f,.f,.f,.f,.f,.f,.f,.f,.f,.f,.f,.f,.f,.f,.f,.f,.f,.f,.f,.f,.f,.f,.f,.f,.f,.f,.f,.f,.f] (fun k => [(5, .one (.arr 0)), (15, ae .i64 k)]) (fun k => [.arr 4 ((nE f (s.items.take k)).map XItem.e)]) rfl ?_ ?_ ?_
 ·exact Kn.q [1] (by simp [aY, aW, aX, bH, bI, bL, ca, br, dI, co, bQ, cu, L.ren, aA, show nE f [] = [] from rfl])
 ·intro k hk
  have hw := ag (k := k) (by omega)
  have f1 := eG k hk
  have f2 := eC k hk
  have hx := XItem.e.eq_1 s.items[k]
  have hkk := hok _ (List.getElem_mem hk)
  have hol := Nat.le_trans (w7 f (s.items.take k)) (by rw [List.length_take]; exact Nat.min_le_left _ _)
  have hoo : ∀ y ∈ nE f (s.items.take k), y.Ok B := fun y hy => hok y (List.mem_of_mem_take (w8 hy))
  try dsimp only
  rw [En hk]
  generalize nE f (s.items.take k) = out at hol hoo ⊢
  unfold lm
  have hgv : gN f s.items[k] = lN f (s.items[k].rcd.fs.map XField.e) := rfl
  rw [hgv]
  have hls : ∀ q (hq : q < out.length), _ := fun q hq => Fx (f := f) hB hkk (hoo _ (List.getElem_mem hq))
  unfold wC at f1
  generalize lN f (s.items[k].rcd.fs.map XField.e) = u at f1 ⊢
  obtain ⟨u1, u2⟩ := u
  simp only at f1 ⊢
  cases u2
  ·simp only [cond_false]
   simp [jn, hk, hw, hx, f1]
   exact Kn.q [0]
  ·simp only [cond_true]
   have hd1 := E5 (f := f) (x := s.items[k]) (out := out) out.length
   have hd2 := Bq (f := f) (x := s.items[k]) (out := out) out.length (Nat.le_refl _)
   have hd3 := Br (f := f) (x := s.items[k]) (out := out) out.length (Nat.le_refl _)
   have hm := Eo out s.items[k] (Ke f s.items[k] out out.length)
   rw [hm, hx]
   clear hm
   have m1 := pU (m := out.length + 1) (z := 56) (by omega) (by omega)
   generalize Ke f s.items[k] out out.length = d at hd1 hd2 hd3 ⊢
   simp [jn, hk, hw, hx, f1]
   refine ql bh Cl.kn (out.length - d) [.f,.t,.f,.f,.f,.t,.f,.t,.f,.f,.t,.f,.f,.t,.t,.t,.f,.f,.f,.f,.f,.f,.f,.f,.f,.f,.f,.f,.f,.f,.f,.f,.f,.f,.f,.f,.f,.f,.f,.f,.f,.f,.f,.f,.f,.f,.f,.f,.f,.f,.f,.f] (fun j => [(10, ae .i64 ((out.length - j : Nat) : Int))]) (fun _ => [.arr 4 (out.map XItem.e), .box [.pv (.int .i64 s.items[k].key.kind), .pv (.int .i64 s.items[k].key.n), .pv (.str s.items[k].key.text), .pv (.lst (s.items[k].rcd.fs.map XField.e))]]) 2 rfl ?_ ?_ ?_ ?_
   ·exact Kn.q [0, 1]
   ·intro j hj
    obtain ⟨q, hq⟩ : ∃ q, out.length - j = q + 1 := ⟨out.length - j - 1, by omega⟩
    have hq1 : out.length - (j + 1) = q := by omega
    have hqo : q < out.length := by omega
    have l1 := hls q hqo
    rw [hd2 q (by omega) hqo hqo] at l1
    have hy := XItem.e.eq_1 out[q]
    have w1 := ag (k := q) (by omega)
    have w2 : IntKind.i64.wrap (((q + 1 : Nat) : Int) - 1) = (q : Int) := by rw [IntKind.wrap_i64]; omega
    have w3 : (0 : Int) < ((q + 1 : Nat) : Int) := by omega
    have w4 : (0 : Int) < (q : Int) + 1 := by omega
    have w5 : IntKind.i64.wrap ((q : Int) + 1 - 1) = (q : Int) := by rw [IntKind.wrap_i64]; omega
    have w6 : IntKind.i64.wrap (q : Int) = (q : Int) := by rw [IntKind.wrap_i64]; omega
    try dsimp only
    rw [hq, hq1]
    clear hd2 hd3
    simp [iD, hk, hx, hy, hqo, l1, w2, w3, w4, w5, w6]
    exact Kn.q [0, 1]
   ·have hz : out.length - (out.length - d) = d := by omega
    try dsimp only
    rw [hz]
    cases d with
    | zero =>
     simp [iD]
     exact Kn.q [0, 1]
    | succ q =>
     obtain ⟨hqo, hlq⟩ := hd3 q rfl
     have l1 := hls q hqo
     rw [hlq] at l1
     have hy := XItem.e.eq_1 out[q]
     have w3 : (0 : Int) < ((q + 1 : Nat) : Int) := by omega
     have w4 : (0 : Int) < (q : Int) + 1 := by omega
     have w5 : IntKind.i64.wrap ((q : Int) + 1 - 1) = (q : Int) := by rw [IntKind.wrap_i64]; omega
     have w6 : IntKind.i64.wrap (q : Int) = (q : Int) := by rw [IntKind.wrap_i64]; omega
     simp [iD, hk, hx, hy, hqo, l1, w3, w4, w5, w6]
     exact Kn.q [0, 1]
   ·have hz : out.length - (out.length - d) = d := by omega
    try dsimp only
    rw [hz]
    have t1 := EC out d
    have t2 := D8 out d
    have n1 : min d out.length = d := Nat.min_eq_left hd1
    have n2 : d + (out.length - d) = out.length := by omega
    have n3 : d + 1 + (out.length - d) = out.length + 1 := by omega
    have m2 := pU (m := d + 1) (z := 56) (by omega) (by omega)
    have m3 := pU (m := d) (z := 56) (by omega) (by omega)
    have hdi : (d : Int) ≤ (out.length : Int) := by omega
    have n4 : List.take (out.length - d) (List.drop d (List.map XItem.e out)) = List.drop d (List.map XItem.e out) := List.take_of_length_le (by simp)
    simp [n4, f2, hk, hx, hw, hd1, hdi, ↓t1, ↓t2, XItem.len, n1, n2, n3, m1, m2, m3]
    exact Kn.q [3]
 ·try dsimp only
  rw [List.take_length]
  simp [jn]
theorem A1 (hB1 : B ≤ 1048576) {s : XStore} (h : s.Ok B) : aa Ph al 409 [.agg [.pv (.str s.name), .pv (.lst (s.items.map XItem.e)), .pv (.int .i64 s.auto)], eX f] = some (.one (.own 4 ((nE f s.items).map XItem.e))) := by
 have hB : B ≤ maxLen := by unfold maxLen; omega
 have hl : s.items.length ≤ 1048576 := Nat.le_trans h.2.1.1 hB1
 have hok := h.2.1.2
 have eG : ∀ k (hk : k < s.items.length), _ := fun k hk => kN (bY (fun _ q => XField.has hB q) hB (hok _ (List.getElem_mem hk)).2) f
 have eC : ∀ k (hk : k < s.items.length), _ := fun k hk => qe hB1 (hok _ (List.getElem_mem hk))
 refine aw (fn := pm) rfl ?_
 simp [pm]
 refine ud bh Cl.fin s.items.length [.f,.t,.t,.f,.f,.t,.t,.f,.f,.f,.f,.f,.f,.f,.f,.f,.f,.f,.f,.f,.f,.f,.f,.f,.f,.f,.f,.f,.f,.f,.f,.f,.f,.f,.f,.f,.f,.f,.f,.f,.f,.f,.f,.f,.f,.f,.f,.f,.f,.f,.f,.f,.f,.f,.f,.f,.f,.f,.f,.f,.f,.f,.f,.f,.f,.f,.f,.f,.f,.f,.f,.f] (fun k => [(5, .one (.arr 1)), (6, ae .i64 k)]) (fun k => [.box [.pv (.str s.name), .pv (.lst (s.items.map XItem.e)), .pv (.int .i64 s.auto)], .arr 4 ((nE f (s.items.take k)).map XItem.e)]) rfl ?_ ?_ ?_
 ·exact Kn.q [0, 1] (by simp [aY, aW, aX, bH, bI, bL, ca, br, dI, co, bQ, cu, L.ren, aA, show nE f [] = [] from rfl])
 ·intro k hk
  have hw := ag (k := k) (by omega)
  have f1 := eG k hk
  have f2 := eC k hk
  have hx := XItem.e.eq_1 s.items[k]
  have hkk := hok _ (List.getElem_mem hk)
  have hol := Nat.le_trans (w7 f (s.items.take k)) (by rw [List.length_take]; exact Nat.min_le_left _ _)
  have hoo : ∀ y ∈ nE f (s.items.take k), y.Ok B := fun y hy => hok y (List.mem_of_mem_take (w8 hy))
  try dsimp only
  rw [En hk]
  generalize nE f (s.items.take k) = out at hol hoo ⊢
  unfold lm
  have hgv : gN f s.items[k] = lN f (s.items[k].rcd.fs.map XField.e) := rfl
  rw [hgv]
  have hls : ∀ q (hq : q < out.length), _ := fun q hq => FM (f := f) hB hkk (hoo _ (List.getElem_mem hq))
  unfold wC at f1
  generalize lN f (s.items[k].rcd.fs.map XField.e) = u at f1 ⊢
  obtain ⟨u1, u2⟩ := u
  simp only at f1 ⊢
  cases u2
  ·simp only [cond_false]
   simp [jo, hk, hw, hx, f1]
   exact Kn.q [0, 1]
  ·simp only [cond_true]
   have hd1 := E5 (f := f) (x := s.items[k]) (out := out) out.length
   have hd2 := Bq (f := f) (x := s.items[k]) (out := out) out.length (Nat.le_refl _)
   have hd3 := Br (f := f) (x := s.items[k]) (out := out) out.length (Nat.le_refl _)
   have hm := Eo out s.items[k] (Ke f s.items[k] out out.length)
   rw [hm, hx]
   clear hm
   have m1 := pU (m := out.length + 1) (z := 56) (by omega) (by omega)
   generalize Ke f s.items[k] out out.length = d at hd1 hd2 hd3 ⊢
   simp [jo, hk, hw, hx, f1]
   refine ql bh Cl.kn (out.length - d) [.f,.t,.t,.f,.f,.t,.t,.f,.f,.t,.f,.f,.f,.f,.f,.f,.f,.f,.f,.f,.f,.f,.f,.f,.f,.f,.f,.f,.f,.f,.f,.f,.f,.f,.f,.f,.f,.f,.f,.f,.f,.f,.f,.f,.f,.f,.f,.f,.f,.f,.f,.f,.f,.f,.f,.f,.f,.f,.f,.f,.f,.f,.f,.f,.f,.f,.f,.f,.f,.f,.f,.f] (fun j => [(9, ae .i64 ((out.length - j : Nat) : Int))]) (fun _ => [.box [.pv (.str s.name), .pv (.lst (s.items.map XItem.e)), .pv (.int .i64 s.auto)], .arr 4 (out.map XItem.e)]) 2 rfl ?_ ?_ ?_ ?_
   ·exact Kn.q [0, 1]
   ·intro j hj
    obtain ⟨q, hq⟩ : ∃ q, out.length - j = q + 1 := ⟨out.length - j - 1, by omega⟩
    have hq1 : out.length - (j + 1) = q := by omega
    have hqo : q < out.length := by omega
    have l1 := hls q hqo
    rw [hd2 q (by omega) hqo hqo] at l1
    have hy := XItem.e.eq_1 out[q]
    have w1 := ag (k := q) (by omega)
    have w2 : IntKind.i64.wrap (((q + 1 : Nat) : Int) - 1) = (q : Int) := by rw [IntKind.wrap_i64]; omega
    have w3 : (0 : Int) < ((q + 1 : Nat) : Int) := by omega
    have w4 : (0 : Int) < (q : Int) + 1 := by omega
    have w5 : IntKind.i64.wrap ((q : Int) + 1 - 1) = (q : Int) := by rw [IntKind.wrap_i64]; omega
    have w6 : IntKind.i64.wrap (q : Int) = (q : Int) := by rw [IntKind.wrap_i64]; omega
    try dsimp only
    rw [hq, hq1]
    clear hd2 hd3
    simp [iE, hk, hx, hy, hqo, l1, w2, w3, w4, w5, w6]
    exact Kn.q [0, 1]
   ·have hz : out.length - (out.length - d) = d := by omega
    try dsimp only
    rw [hz]
    cases d with
    | zero =>
     simp [iE]
     exact Kn.q [0, 1]
    | succ q =>
     obtain ⟨hqo, hlq⟩ := hd3 q rfl
     have l1 := hls q hqo
     rw [hlq] at l1
     have hy := XItem.e.eq_1 out[q]
     have w3 : (0 : Int) < ((q + 1 : Nat) : Int) := by omega
     have w4 : (0 : Int) < (q : Int) + 1 := by omega
     have w5 : IntKind.i64.wrap ((q : Int) + 1 - 1) = (q : Int) := by rw [IntKind.wrap_i64]; omega
     have w6 : IntKind.i64.wrap (q : Int) = (q : Int) := by rw [IntKind.wrap_i64]; omega
     simp [iE, hk, hx, hy, hqo, l1, w3, w4, w5, w6]
     exact Kn.q [0, 1]
   ·have hz : out.length - (out.length - d) = d := by omega
    try dsimp only
    rw [hz]
    have t1 := EC out d
    have t2 := D8 out d
    have n1 : min d out.length = d := Nat.min_eq_left hd1
    have n2 : d + (out.length - d) = out.length := by omega
    have n3 : d + 1 + (out.length - d) = out.length + 1 := by omega
    have m2 := pU (m := d + 1) (z := 56) (by omega) (by omega)
    have m3 := pU (m := d) (z := 56) (by omega) (by omega)
    have hdi : (d : Int) ≤ (out.length : Int) := by omega
    have n4 : List.take (out.length - d) (List.drop d (List.map XItem.e out)) = List.drop d (List.map XItem.e out) := List.take_of_length_le (by simp)
    simp [n4, f2, hk, hx, hw, hd1, hdi, ↓t1, ↓t2, XItem.len, n1, n2, n3, m1, m2, m3]
    exact Kn.q [0, 6]
 ·try dsimp only
  rw [List.take_length]
  simp [jo]
theorem uN (hB1 : B ≤ 1048576) {s : XStore} (h : s.Ok B) : aa Ph al 406 [.agg [.pv (.str s.name), .pv (.lst (s.items.map XItem.e)), .pv (.int .i64 s.auto)], eX f] = some (Oh (M3 f (nE f s.items))) := by
 have hB : B ≤ maxLen := by unfold maxLen; omega
 have e1 := AV (f := f) hB1 h
 have hll := Nat.le_trans (w7 f s.items) (Nat.le_trans h.2.1.1 hB1)
 have hoo : ∀ y ∈ nE f s.items, y.Ok B := fun y hy => h.2.1.2 y (w8 hy)
 refine aw (fn := lG) rfl ?_
 generalize nE f s.items = l at e1 hll hoo ⊢
 have eG : ∀ k (hk : k < l.length), _ := fun k hk => kK (bY (fun _ q => XField.has hB q) hB (hoo _ (List.getElem_mem hk)).2) f
 unfold Oh
 simp [lG, e1]
 refine HW bh Cl.fin [.f,.t,.f,.f,.t,.t,.f,.t,.t,.f,.f,.f,.f,.f,.f,.f,.f,.f,.f,.f,.f,.f,.f,.f,.f,.f,.f,.f,.f,.f,.f,.f,.f,.f,.f,.f,.f,.f,.f,.f,.f,.f,.f,.f,.f,.f,.f,.f,.f,.f,.f,.f,.f,.f,.f,.f,.f,.f,.f] (fun k => [(4, .one (.ptr 0 0 0)), (5, .one (.ptr 1 0 0)), (7, .one (.arr 2)), (8, ae .i64 (k + 1 : Nat))]) (fun _ => [.box [.pv (.int .i64 0), .pv (.int .i64 0), .pv (.str [])], .box [.pv (.int .i64 0), .pv (.int .i64 0), .pv (.str [])], .arr 4 (l.map XItem.e)]) (l.length - 1) (Ng f l) rfl ?_ ?_ ?_ ?_
 ·exact Kn.q [1, 2, 3]
 ·intro k hk hp
  have hk1 : k + 1 < l.length := by omega
  have hk0 : k < l.length := by omega
  obtain ⟨i1, i2, i3, i4, i5, i6⟩ := kJ (n := l.length) (by unfold maxLen; omega) hk1
  have f1 := eG k hk0
  have f2 := eG (k + 1) hk1
  have hx := XItem.e.eq_1 l[k]
  have hy := XItem.e.eq_1 l[k + 1]
  rw [Gh hk1] at hp
  unfold gN at hp
  unfold wC at f1 f2
  generalize lN f (l[k].rcd.fs.map XField.e) = u at f1 hp
  generalize lN f (l[k + 1].rcd.fs.map XField.e) = v at f2 hp
  simp [ia, hk0, hk1, hx, hy, i1, i2, i3, i4, i5, i6, f1, f2, hp]
  exact Kn.q [0, 1, 2]
 ·intro k hk hp hn
  rw [HT hk hp hn]
  have hk1 : k + 1 < l.length := by omega
  have hk0 : k < l.length := by omega
  obtain ⟨i1, i2, i3, i4, i5, i6⟩ := kJ (n := l.length) (by unfold maxLen; omega) hk1
  have f1 := eG k hk0
  have f2 := eG (k + 1) hk1
  have hx := XItem.e.eq_1 l[k]
  have hy := XItem.e.eq_1 l[k + 1]
  rw [Gh hk1] at hp
  unfold gN at hp
  unfold wC at f1 f2
  generalize lN f (l[k].rcd.fs.map XField.e) = u at f1 hp
  generalize lN f (l[k + 1].rcd.fs.map XField.e) = v at f2 hp
  have ka : sU l k = l[k].key := by simp [sU, hk0]
  have kb : sU l (k + 1) = l[k + 1].key := by simp [sU, hk1]
  simp only [ka, kb]
  simp [ia, hk0, hk1, hx, hy, i1, i2, i3, i4, i5, i6, f1, f2, hp]
 ·intro hp
  rw [HS hp]
  have hge : l.length ≤ l.length - 1 + 1 := by omega
  have hge2 : ¬ ((l.length - 1 + 1 : Nat) : Int) < (l.length : Int) := by omega
  have hge3 : ¬ ((l.length - 1 : Nat) : Int) + 1 < (l.length : Int) := by omega
  simp [ia, hge, hge2, hge3]
theorem uT (hB1 : B ≤ 1048576) {s : XStore} (h : s.Ok B) : aa Ph al 401 [.agg [.pv (.str s.name), .pv (.lst (s.items.map XItem.e)), .pv (.int .i64 s.auto)], eX f] = some (Oh (M3 f (nE f s.items))) := by
 have hB : B ≤ maxLen := by unfold maxLen; omega
 have e1 := A1 (f := f) hB1 h
 have hll := Nat.le_trans (w7 f s.items) (Nat.le_trans h.2.1.1 hB1)
 have hoo : ∀ y ∈ nE f s.items, y.Ok B := fun y hy => h.2.1.2 y (w8 hy)
 refine aw (fn := lL) rfl ?_
 generalize nE f s.items = l at e1 hll hoo ⊢
 have eG : ∀ k (hk : k < l.length), _ := fun k hk => kN (bY (fun _ q => XField.has hB q) hB (hoo _ (List.getElem_mem hk)).2) f
 unfold Oh
 simp [lL, e1]
 refine HW bh Cl.fin [.f,.t,.f,.f,.t,.t,.f,.t,.t,.f,.f,.f,.f,.f,.f,.f,.f,.f,.f,.f,.f,.f,.f,.f,.f,.f,.f,.f,.f,.f,.f,.f,.f,.f,.f,.f,.f,.f,.f,.f,.f,.f,.f,.f,.f,.f,.f,.f,.f,.f,.f,.f,.f,.f,.f,.f,.f,.f,.f] (fun k => [(4, .one (.ptr 0 0 0)), (5, .one (.ptr 1 0 0)), (7, .one (.arr 2)), (8, ae .i64 (k + 1 : Nat))]) (fun _ => [.box [.pv (.int .i64 0), .pv (.int .i64 0), .pv (.str [])], .box [.pv (.int .i64 0), .pv (.int .i64 0), .pv (.str [])], .arr 4 (l.map XItem.e)]) (l.length - 1) (Ng f l) rfl ?_ ?_ ?_ ?_
 ·exact Kn.q [1, 2, 3]
 ·intro k hk hp
  have hk1 : k + 1 < l.length := by omega
  have hk0 : k < l.length := by omega
  obtain ⟨i1, i2, i3, i4, i5, i6⟩ := kJ (n := l.length) (by unfold maxLen; omega) hk1
  have f1 := eG k hk0
  have f2 := eG (k + 1) hk1
  have hx := XItem.e.eq_1 l[k]
  have hy := XItem.e.eq_1 l[k + 1]
  rw [Gh hk1] at hp
  unfold gN at hp
  unfold wC at f1 f2
  generalize lN f (l[k].rcd.fs.map XField.e) = u at f1 hp
  generalize lN f (l[k + 1].rcd.fs.map XField.e) = v at f2 hp
  simp [ic, hk0, hk1, hx, hy, i1, i2, i3, i4, i5, i6, f1, f2, hp]
  exact Kn.q [0, 1, 2]
 ·intro k hk hp hn
  rw [HT hk hp hn]
  have hk1 : k + 1 < l.length := by omega
  have hk0 : k < l.length := by omega
  obtain ⟨i1, i2, i3, i4, i5, i6⟩ := kJ (n := l.length) (by unfold maxLen; omega) hk1
  have f1 := eG k hk0
  have f2 := eG (k + 1) hk1
  have hx := XItem.e.eq_1 l[k]
  have hy := XItem.e.eq_1 l[k + 1]
  rw [Gh hk1] at hp
  unfold gN at hp
  unfold wC at f1 f2
  generalize lN f (l[k].rcd.fs.map XField.e) = u at f1 hp
  generalize lN f (l[k + 1].rcd.fs.map XField.e) = v at f2 hp
  have ka : sU l k = l[k].key := by simp [sU, hk0]
  have kb : sU l (k + 1) = l[k + 1].key := by simp [sU, hk1]
  simp only [ka, kb]
  simp [ic, hk0, hk1, hx, hy, i1, i2, i3, i4, i5, i6, f1, f2, hp]
 ·intro hp
  rw [HS hp]
  have hge : l.length ≤ l.length - 1 + 1 := by omega
  have hge2 : ¬ ((l.length - 1 + 1 : Nat) : Int) < (l.length : Int) := by omega
  have hge3 : ¬ ((l.length - 1 : Nat) : Int) + 1 < (l.length : Int) := by omega
  simp [ic, hge, hge2, hge3]
end
end Gi
