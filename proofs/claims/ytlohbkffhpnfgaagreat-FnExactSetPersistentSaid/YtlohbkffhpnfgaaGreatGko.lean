/- Of this proof. -/
import Derived.Test.YtlohbkffhpnfgaaGreatGki
set_option linter.unusedSimpArgs false
set_option linter.unusedVariables false
namespace Gi
open Go Go.RowKit
set_option maxHeartbeats 8000000
set_option maxRecDepth 4000
attribute [local simp] bt sJ bf bW dV fU dU fT fZ fY uF uO uG uP uH uQ uI uR uJ uS uK uT uL uU uM uV uN uW V.cells plain bm f4 isInt isStr isBool bin cT jJ cU jK fV un asList L.view am V.view viewL aR au cX cd bO comp aJ br dv cq bH bF bG bN bi cu aW bJ aP aX bL cy bK bI bM V.flat L.flat dF di bz putAt thaw thawL thawT V.ow fX dX dY cV fW cW dW freezeVs freezeLs freezeL V.mut L.mut aI fi iV aL bd aD dh bD bh bR L.ren aT dG cf dK bS bB wp_seq wp_block bE ed cY ce cZ wp_skip wp_exit wp_ret cK cJ cP cL df dg de cj aV L.notArr aO aM aN dZ bn storeD ba fK bq cB be ny L.mov L.closed V.closed PV.bare PV.flat
def gN (f : List UInt8) (x : XItem) : Int × Bool := oO x.rcd.fs f
def tn (f : List UInt8) (a b : XItem) : Bool := dE (gN f a).1 (gN f b).1 || ((gN f a).1 == (gN f b).1 && dE (K3 a.key b.key) 0)
def K9 (f : List UInt8) (x : XItem) (out : List XItem) : Nat → Nat
 | 0 => 0
 | n + 1 => match out[n]? with
  | none => n + 1
  | some y => cond (tn f x y) (K9 f x out n) (n + 1)
theorem Fd {f : List UInt8} {x : XItem} {out : List XItem} : ∀ n, K9 f x out n ≤ n
 | 0 => Nat.le_refl _
 | n + 1 => by
  unfold K9
  cases out[n]? with
  | none => exact Nat.le_refl _
  | some y =>
   cases h : tn f x y with
   | true => simp only [h, cond_true]; exact Nat.le_succ_of_le (Fd n)
   | false => simp only [h, cond_false]; exact Nat.le_refl _
theorem A8 {f : List UInt8} {x : XItem} {out : List XItem} : ∀ n, n ≤ out.length → ∀ p, K9 f x out n ≤ p → ∀ (hp : p < n) (ho : p < out.length), tn f x out[p] = true
 | 0, _, p, _, hp, _ => by omega
 | n + 1, hn, p, h, hp, ho => by
  unfold K9 at h
  have hn' : n < out.length := by omega
  rw [List.getElem?_eq_getElem hn'] at h
  simp only at h
  cases q : tn f x out[n] with
  | true =>
   rw [q, cond_true] at h
   by_cases e : p = n
   ·subst e; exact q
   ·exact A8 n (by omega) p h (by omega) ho
  | false => rw [q, cond_false] at h; omega
theorem A9 {f : List UInt8} {x : XItem} {out : List XItem} : ∀ n, n ≤ out.length → ∀ j, K9 f x out n = j + 1 → ∃ h : j < out.length, tn f x out[j] = false
 | 0, _, j, h => by simp [K9] at h
 | n + 1, hn, j, h => by
  unfold K9 at h
  have hn' : n < out.length := by omega
  rw [List.getElem?_eq_getElem hn'] at h
  simp only at h
  cases q : tn f x out[n] with
  | true => rw [q, cond_true] at h; exact A9 n (by omega) j h
  | false =>
   rw [q, cond_false] at h
   obtain rfl : n = j := by omega
   exact ⟨hn', q⟩
def Cm (out : List XItem) (x : XItem) (p : Nat) : List XItem := out.take p ++ x :: out.drop p
def jY (f : List UInt8) (out : List XItem) (x : XItem) : List XItem := cond (gN f x).2 (Cm out x (K9 f x out out.length)) out
def mh (f : List UInt8) (xs : List XItem) : List XItem := xs.foldl (jY f) []
theorem EC {f : List UInt8} {xs : List XItem} {k : Nat} (hk : k < xs.length) : mh f (xs.take (k + 1)) = jY f (mh f (xs.take k)) xs[k] := by
 unfold mh
 rw [List.take_succ_eq_append_getElem hk, List.foldl_append]
 rfl
theorem ED (out : List XItem) (x : XItem) (p : Nat) : (Cm out x p).map XItem.e = (out.map XItem.e).take p ++ x.e :: (out.map XItem.e).drop p := by simp [Cm, List.map_take, List.map_drop]
theorem LA {out : List XItem} {x y : XItem} {p : Nat} (h : y ∈ Cm out x p) : y = x ∨ y ∈ out := by
 unfold Cm at h
 rcases List.mem_append.1 h with h | h
 ·exact .inr (List.mem_of_mem_take h)
 ·rcases List.mem_cons.1 h with h | h
  ·exact .inl h
  ·exact .inr (List.mem_of_mem_drop h)
theorem Lz (out : List XItem) (x : XItem) {p : Nat} (h : p ≤ out.length) : (Cm out x p).length = out.length + 1 := by simp [Cm]; omega
theorem Hv {f : List UInt8} {out : List XItem} {x y : XItem} (h : y ∈ jY f out x) : y = x ∨ y ∈ out := by
 unfold jY at h
 cases q : (gN f x).2 with
 | true => rw [q, cond_true] at h; exact LA h
 | false => rw [q, cond_false] at h; exact .inr h
theorem te {f : List UInt8} : ∀ (xs out : List XItem) (y : XItem), y ∈ xs.foldl (jY f) out → y ∈ xs ∨ y ∈ out
 | [], out, y, h => .inr h
 | x :: xs, out, y, h => by
  rcases te xs (jY f out x) y h with h | h
  ·exact .inl (List.mem_cons_of_mem _ h)
  ·rcases Hv h with rfl | h
   ·exact .inl List.mem_cons_self
   ·exact .inr h
theorem vS {f : List UInt8} {xs : List XItem} {y : XItem} (h : y ∈ mh f xs) : y ∈ xs := by
 rcases te xs [] y h with h | h
 ·exact h
 ·cases h
theorem Hu {f : List UInt8} {out : List XItem} {x : XItem} : (jY f out x).length ≤ out.length + 1 := by
 unfold jY
 cases (gN f x).2 with
 | true => rw [cond_true, Lz _ _ (Fd _)]; exact Nat.le_refl _
 | false => rw [cond_false]; omega
theorem td {f : List UInt8} : ∀ (xs out : List XItem), (xs.foldl (jY f) out).length ≤ out.length + xs.length
 | [], out => by simp
 | x :: xs, out => by
  have h1 := td (f := f) xs (jY f out x)
  have h2 := Hu (f := f) (out := out) (x := x)
  simp only [List.foldl_cons, List.length_cons]
  omega
theorem vR (f : List UInt8) (xs : List XItem) : (mh f xs).length ≤ xs.length := by
 have := td (f := f) xs []
 simpa [mh] using this
def qC (l : List XItem) (k : Nat) : XKey := match l[k]? with
 | some x => x.key
 | none => ⟨0, 0, []⟩
def NR (f : List UInt8) (l : List XItem) (k : Nat) : Bool := match l[k]?, l[k + 1]? with
 | some a, some b => (gN f a).1 == (gN f b).1
 | _, _ => false
theorem NE {f : List UInt8} {l : List XItem} {k : Nat} (hk : k + 1 < l.length) : NR f l k = ((gN f (l[k]'(by omega))).1 == (gN f l[k + 1]).1) := by
 have : k < l.length := by omega
 simp [NR, hk, this]
def NF (f : List UInt8) (l : List XItem) : XKey × XKey × Bool := match (List.range (l.length - 1)).find? (NR f l) with
 | some k => (qC l k, qC l (k + 1), true)
 | none => (⟨0, 0, []⟩, ⟨0, 0, []⟩, false)
theorem Iw {f : List UInt8} {l : List XItem} {k : Nat} (hk : k < l.length - 1) (h : NR f l k = true) (hn : ∀ j, j < k → NR f l j = false) : NF f l = (qC l k, qC l (k + 1), true) := by
 have : (List.range (l.length - 1)).find? (NR f l) = some k := by
  rw [List.find?_range_eq_some]
  exact ⟨h, List.mem_range.2 hk, fun j hj => by simp [hn j hj]⟩
 simp only [NF, this]
theorem Iv {f : List UInt8} {l : List XItem} (hn : ∀ j, j < l.length - 1 → NR f l j = false) : NF f l = (⟨0, 0, []⟩, ⟨0, 0, []⟩, false) := by
 have : (List.range (l.length - 1)).find? (NR f l) = none := by
  rw [List.find?_range_eq_none]
  exact fun j hj => by simp [hn j hj]
 simp only [NF, this]
def Px (t : XKey × XKey × Bool) : V := .tup [(true, [.pv (.int .i64 t.1.kind), .pv (.int .i64 t.1.n), .pv (.str t.1.text)]), (true, [.pv (.int .i64 t.2.1.kind), .pv (.int .i64 t.2.1.n), .pv (.str t.2.1.text)]), (false, [.pv (.bool t.2.2)])]
section
variable {B : Nat} {f : List UInt8}
theorem FG {f : List UInt8} {a b : XItem} (ha : a.Ok maxLen) (hb : b.Ok maxLen) : ae Ph aF 415 [a.v, b.v, dM f] = some (ar (tn f a b)) := by
 have e1 := gS ha.2.1 f
 have e2 := gS hb.2.1 f
 have e3 := m8 ha.1 hb.1
 unfold tn gN
 generalize oO a.rcd.fs f = u at e1 ⊢
 generalize oO b.rcd.fs f = v at e2 ⊢
 obtain ⟨w, hw⟩ : ∃ w, (u.1 == v.1) = w := ⟨_, rfl⟩
 rw [hw]
 refine ab (fn := km) rfl ?_
 simp +contextual (maxSteps := 9999999) [km, e1, e2, e3, hw]
theorem FV {f : List UInt8} {a b : XItem} (ha : a.Ok maxLen) (hb : b.Ok maxLen) : ae Ph aF 414 [a.v, b.v, dM f] = some (ar (tn f a b)) := by
 have e1 := gT ha.2.1 f
 have e2 := gT hb.2.1 f
 have e3 := na ha.1 hb.1
 unfold tn gN
 generalize oO a.rcd.fs f = u at e1 ⊢
 generalize oO b.rcd.fs f = v at e2 ⊢
 obtain ⟨w, hw⟩ : ∃ w, (u.1 == v.1) = w := ⟨_, rfl⟩
 rw [hw]
 refine ab (fn := pq) rfl ?_
 simp +contextual (maxSteps := 9999999) [pq, e1, e2, e3, hw]
end
theorem Ai {B : Nat} (hB1 : B ≤ 1048576) {s : XStore} (h : s.Ok B) (f : List UInt8) : ae Ph aF 413 [s.v, dM f] = some (.one (.own 4 ((mh f s.items).map XItem.e))) := by
 have hB : B ≤ maxLen := by unfold maxLen; omega
 have hl : s.items.length ≤ 1048576 := Nat.le_trans h.2.1.1 hB1
 have hok := h.2.1.2
 refine ab (fn := nF) rfl ?_
 simp (maxSteps := 9999999) [nF]
 refine cI aQ Cl.fin s.items.length [.f,.t,.f,.f,.f,.t,.f,.f,.f,.f,.f,.f,.f,.t,.t,.t,.f,.f,.f,.f,.f,.f,.f,.f,.f,.f,.f,.f,.f,.f,.f,.f,.f,.f,.f,.f,.f,.f,.f,.f,.f,.f,.f,.f,.f,.f,.f,.f,.f,.f,.f,.f] (fun k => [(5, .one (.arr 0)), (15, aa .i64 k)]) (fun k => [.arr 4 ((mh f (s.items.take k)).map XItem.e)]) rfl ?_ ?_ ?_
 ·exact Kn.of [1] (by decide) (by simp [show mh f [] = [] from rfl]) (by simp)
 ·intro k hk
  have hx := XItem.e.eq_1 s.items[k]
  have hkk := hok _ (List.getElem_mem hk)
  have hkL := XItem.Ok.mono hB hkk
  have f1 := gS (r := s.items[k].rcd) hkL.2.1 f
  have f2 := pM hB1 hkk
  have hol := Nat.le_trans (vR f (s.items.take k)) (by rw [List.length_take]; exact Nat.min_le_left _ _)
  have hoo : ∀ y ∈ mh f (s.items.take k), y.Ok B := fun y hy => hok y (List.mem_of_mem_take (vS hy))
  try dsimp only
  rw [EC hk]
  generalize mh f (s.items.take k) = out at hol hoo ⊢
  unfold jY
  have hls : ∀ q (hq : q < out.length), _ := fun q hq => FG (f := f) hkL (XItem.Ok.mono hB (hoo _ (List.getElem_mem hq)))
  have hgv : gN f s.items[k] = oO s.items[k].rcd.fs f := rfl
  rw [hgv]
  generalize oO s.items[k].rcd.fs f = u at f1 ⊢
  obtain ⟨u1, u2⟩ := u
  cases u2
  ·simp only [cond_false]
   simp (maxSteps := 9999999) [gH, hk, aE (n := s.items.length) (by unfold maxLen; omega) hk, aU hk, hx, f1]
  ·simp only [cond_true]
   have hd1 := Fd (f := f) (x := s.items[k]) (out := out) out.length
   have hd2 := A8 (f := f) (x := s.items[k]) (out := out) out.length (Nat.le_refl _)
   have hd3 := A9 (f := f) (x := s.items[k]) (out := out) out.length (Nat.le_refl _)
   have hm := ED out s.items[k] (K9 f s.items[k] out out.length)
   rw [hm, hx]
   clear hm
   have m1 := eI (m := out.length + 1) (z := 56) (by omega) (by omega)
   generalize K9 f s.items[k] out out.length = d at hd1 hd2 hd3 ⊢
   simp (maxSteps := 9999999) [gH, hk, aE (n := s.items.length) (by unfold maxLen; omega) hk, aU hk, hx, f1]
   refine KD aQ Cl.kn (out.length - d) [.f,.t,.f,.f,.f,.t,.f,.t,.f,.f,.t,.f,.f,.t,.t,.t,.f,.f,.f,.f,.f,.f,.f,.f,.f,.f,.f,.f,.f,.f,.f,.f,.f,.f,.f,.f,.f,.f,.f,.f,.f,.f,.f,.f,.f,.f,.f,.f,.f,.f,.f,.f] (fun j => [(10, aa .i64 ((out.length - j : Nat) : Int))]) (fun _ => [.arr 4 (out.map XItem.e), .box [.pv (.int .i64 s.items[k].key.kind), .pv (.int .i64 s.items[k].key.n), .pv (.str s.items[k].key.text), .pv (.lst (s.items[k].rcd.fs.map XField.e))]]) 2 rfl ?_ ?_ ?_ ?_
   ·simp
   ·intro j hj
    obtain ⟨q, hq⟩ : ∃ q, out.length - j = q + 1 := ⟨out.length - j - 1, by omega⟩
    have hq1 : out.length - (j + 1) = q := by omega
    have hqo : q < out.length := by omega
    have l1 := hls q hqo
    rw [hd2 q (by omega) hqo hqo] at l1
    have hy := XItem.e.eq_1 out[q]
    have w4 : dE 0 ((q : Int) + 1) = true := lG (by omega)
    have w5 : IntKind.i64.wrap ((q : Int) + 1 - 1) = (q : Int) := by rw [IntKind.wrap_i64]; omega
    have w6 : IntKind.i64.wrap (q : Int) = (q : Int) := by rw [IntKind.wrap_i64]; omega
    try dsimp only
    rw [hq, hq1]
    clear hd2 hd3
    simp (maxSteps := 9999999) [fF, hk, hx, hy, hqo, l1, w4, w5, w6]
   ·have hz : out.length - (out.length - d) = d := by omega
    try dsimp only
    rw [hz]
    cases d with
    | zero =>
     simp (maxSteps := 9999999) [fF, show dE 0 0 = false from rfl]
    | succ q =>
     obtain ⟨hqo, hlq⟩ := hd3 q rfl
     have l1 := hls q hqo
     rw [hlq] at l1
     have hy := XItem.e.eq_1 out[q]
     have w4 : dE 0 ((q : Int) + 1) = true := lG (by omega)
     have w5 : IntKind.i64.wrap ((q : Int) + 1 - 1) = (q : Int) := by rw [IntKind.wrap_i64]; omega
     have w6 : IntKind.i64.wrap (q : Int) = (q : Int) := by rw [IntKind.wrap_i64]; omega
     simp (maxSteps := 9999999) [fF, hk, hx, hy, hqo, l1, w4, w5, w6]
   ·have hz : out.length - (out.length - d) = d := by omega
    try dsimp only
    rw [hz]
    have hdi : (d : Int) ≤ (out.length : Int) := by omega
    simp (maxSteps := 9999999) [f2, hk, hx, aE (n := s.items.length) (by unfold maxLen; omega) hk, hd1, hdi, m1, -fi]
    exact Kn.of [4] (by decide) (by simp) (by simp)
 ·try dsimp only
  rw [List.take_length]
  simp (maxSteps := 9999999) [gH]
theorem Aq {B : Nat} (hB1 : B ≤ 1048576) {s : XStore} (h : s.Ok B) (f : List UInt8) : ae Ph aF 409 [s.v, dM f] = some (.one (.own 4 ((mh f s.items).map XItem.e))) := by
 have hB : B ≤ maxLen := by unfold maxLen; omega
 have hl : s.items.length ≤ 1048576 := Nat.le_trans h.2.1.1 hB1
 have hok := h.2.1.2
 refine ab (fn := nK) rfl ?_
 simp (maxSteps := 9999999) [nK]
 refine cI aQ Cl.fin s.items.length [.f,.t,.t,.f,.f,.t,.t,.f,.f,.f,.f,.f,.f,.f,.f,.f,.f,.f,.f,.f,.f,.f,.f,.f,.f,.f,.f,.f,.f,.f,.f,.f,.f,.f,.f,.f,.f,.f,.f,.f,.f,.f,.f,.f,.f,.f,.f,.f,.f,.f,.f,.f,.f,.f,.f,.f,.f,.f,.f,.f,.f,.f,.f,.f,.f,.f,.f,.f,.f,.f,.f,.f] (fun k => [(5, .one (.arr 1)), (6, aa .i64 k)]) (fun k => [.box [.pv (.str s.name), .pv (.lst (s.items.map XItem.e)), .pv (.int .i64 s.auto)], .arr 4 ((mh f (s.items.take k)).map XItem.e)]) rfl ?_ ?_ ?_
 ·exact Kn.of [0, 1] (by decide) (by simp [show mh f [] = [] from rfl]) (by simp)
 ·intro k hk
  have hx := XItem.e.eq_1 s.items[k]
  have hkk := hok _ (List.getElem_mem hk)
  have hkL := XItem.Ok.mono hB hkk
  have f1 := gT (r := s.items[k].rcd) hkL.2.1 f
  have f2 := rV hB1 hkk
  have hol := Nat.le_trans (vR f (s.items.take k)) (by rw [List.length_take]; exact Nat.min_le_left _ _)
  have hoo : ∀ y ∈ mh f (s.items.take k), y.Ok B := fun y hy => hok y (List.mem_of_mem_take (vS hy))
  try dsimp only
  rw [EC hk]
  generalize mh f (s.items.take k) = out at hol hoo ⊢
  unfold jY
  have hls : ∀ q (hq : q < out.length), _ := fun q hq => FV (f := f) hkL (XItem.Ok.mono hB (hoo _ (List.getElem_mem hq)))
  have hgv : gN f s.items[k] = oO s.items[k].rcd.fs f := rfl
  rw [hgv]
  generalize oO s.items[k].rcd.fs f = u at f1 ⊢
  obtain ⟨u1, u2⟩ := u
  cases u2
  ·simp only [cond_false]
   simp (maxSteps := 9999999) [gI, hk, aE (n := s.items.length) (by unfold maxLen; omega) hk, aU hk, hx, f1]
  ·simp only [cond_true]
   have hd1 := Fd (f := f) (x := s.items[k]) (out := out) out.length
   have hd2 := A8 (f := f) (x := s.items[k]) (out := out) out.length (Nat.le_refl _)
   have hd3 := A9 (f := f) (x := s.items[k]) (out := out) out.length (Nat.le_refl _)
   have hm := ED out s.items[k] (K9 f s.items[k] out out.length)
   rw [hm, hx]
   clear hm
   have m1 := eI (m := out.length + 1) (z := 56) (by omega) (by omega)
   generalize K9 f s.items[k] out out.length = d at hd1 hd2 hd3 ⊢
   simp (maxSteps := 9999999) [gI, hk, aE (n := s.items.length) (by unfold maxLen; omega) hk, aU hk, hx, f1]
   refine KD aQ Cl.kn (out.length - d) [.f,.t,.t,.f,.f,.t,.t,.f,.f,.t,.f,.f,.f,.f,.f,.f,.f,.f,.f,.f,.f,.f,.f,.f,.f,.f,.f,.f,.f,.f,.f,.f,.f,.f,.f,.f,.f,.f,.f,.f,.f,.f,.f,.f,.f,.f,.f,.f,.f,.f,.f,.f,.f,.f,.f,.f,.f,.f,.f,.f,.f,.f,.f,.f,.f,.f,.f,.f,.f,.f,.f,.f] (fun j => [(9, aa .i64 ((out.length - j : Nat) : Int))]) (fun _ => [.box [.pv (.str s.name), .pv (.lst (s.items.map XItem.e)), .pv (.int .i64 s.auto)], .arr 4 (out.map XItem.e)]) 2 rfl ?_ ?_ ?_ ?_
   ·simp
   ·intro j hj
    obtain ⟨q, hq⟩ : ∃ q, out.length - j = q + 1 := ⟨out.length - j - 1, by omega⟩
    have hq1 : out.length - (j + 1) = q := by omega
    have hqo : q < out.length := by omega
    have l1 := hls q hqo
    rw [hd2 q (by omega) hqo hqo] at l1
    have hy := XItem.e.eq_1 out[q]
    have w4 : dE 0 ((q : Int) + 1) = true := lG (by omega)
    have w5 : IntKind.i64.wrap ((q : Int) + 1 - 1) = (q : Int) := by rw [IntKind.wrap_i64]; omega
    have w6 : IntKind.i64.wrap (q : Int) = (q : Int) := by rw [IntKind.wrap_i64]; omega
    try dsimp only
    rw [hq, hq1]
    clear hd2 hd3
    simp (maxSteps := 9999999) [fH, hk, hx, hy, hqo, l1, w4, w5, w6]
   ·have hz : out.length - (out.length - d) = d := by omega
    try dsimp only
    rw [hz]
    cases d with
    | zero =>
     simp (maxSteps := 9999999) [fH, show dE 0 0 = false from rfl]
    | succ q =>
     obtain ⟨hqo, hlq⟩ := hd3 q rfl
     have l1 := hls q hqo
     rw [hlq] at l1
     have hy := XItem.e.eq_1 out[q]
     have w4 : dE 0 ((q : Int) + 1) = true := lG (by omega)
     have w5 : IntKind.i64.wrap ((q : Int) + 1 - 1) = (q : Int) := by rw [IntKind.wrap_i64]; omega
     have w6 : IntKind.i64.wrap (q : Int) = (q : Int) := by rw [IntKind.wrap_i64]; omega
     simp (maxSteps := 9999999) [fH, hk, hx, hy, hqo, l1, w4, w5, w6]
   ·have hz : out.length - (out.length - d) = d := by omega
    try dsimp only
    rw [hz]
    have hdi : (d : Int) ≤ (out.length : Int) := by omega
    have t1 : ((out.map XItem.e).take d).all (fun e => e.length == 4) = true := by rw [← List.map_take]; exact du (e := XItem.e) (z := 4) (fun _ => rfl) _
    have t2 : ((out.map XItem.e).drop d).all (fun e => e.length == 4) = true := by rw [← List.map_drop]; exact du (e := XItem.e) (z := 4) (fun _ => rfl) _
    have t3 := du (e := XItem.e) (z := 4) (fun _ => rfl) out
    have n1 : min d out.length = d := Nat.min_eq_left hd1
    have n3 : d + 1 + (out.length - d) = out.length + 1 := by omega
    have m2 := eI (m := d + 1) (z := 56) (by omega) (by omega)
    have m3 := eI (m := d) (z := 56) (by omega) (by omega)
    have n4 : List.take (out.length - d) (List.drop d (List.map XItem.e out)) = List.drop d (List.map XItem.e out) := List.take_of_length_le (by simp)
    simp (maxSteps := 9999999) [n4, f2, hk, hx, aE (n := s.items.length) (by unfold maxLen; omega) hk, hd1, hdi, t1, t2, t3, n1, n3, m1, m2, m3, -fi]
    exact Kn.of [0, 7] (by decide) (by simp) (by simp)
 ·try dsimp only
  rw [List.take_length]
  simp (maxSteps := 9999999) [gI]
theorem sP {B : Nat} (hB1 : B ≤ 1048576) {s : XStore} (h : s.Ok B) (f : List UInt8) : ae Ph aF 406 [s.v, dM f] = some (Px (NF f (mh f s.items))) := by
 have hB : B ≤ maxLen := by unfold maxLen; omega
 have e1 := Ai hB1 h f
 have hll := Nat.le_trans (vR f s.items) (Nat.le_trans h.2.1.1 hB1)
 have hoo : ∀ y ∈ mh f s.items, y.Ok maxLen := fun y hy => XItem.Ok.mono hB (h.2.1.2 y (vS hy))
 refine ab (fn := kd) rfl ?_
 generalize mh f s.items = l at e1 hll hoo ⊢
 unfold Px
 simp (maxSteps := 9999999) [kd, e1]
 refine aA aQ Cl.fin [.f,.t,.f,.f,.t,.t,.f,.t,.t,.f,.f,.f,.f,.f,.f,.f,.f,.f,.f,.f,.f,.f,.f,.f,.f,.f,.f,.f,.f,.f,.f,.f,.f,.f,.f,.f,.f,.f,.f,.f,.f,.f,.f,.f,.f,.f,.f,.f,.f,.f,.f,.f,.f,.f,.f,.f,.f,.f,.f] (fun k => [(8, aa .i64 ((k : Int) + 1))]) (l.length - 1) (NR f l) rfl (by simp) (fun k hk hn => ?_) (fun hp _ => ?_)
 ·have hk1 : k + 1 < l.length := by omega
  have hk0 : k < l.length := by omega
  obtain ⟨i1, i2, i3, i4, i5, i6⟩ := mz (n := l.length) (by unfold maxLen; omega) hk1
  have f1 := gS (r := l[k].rcd) (hoo _ (List.getElem_mem hk0)).2.1 f
  have f2 := gS (r := l[k + 1].rcd) (hoo _ (List.getElem_mem hk1)).2.1 f
  have hx := XItem.e.eq_1 l[k]
  have hy := XItem.e.eq_1 l[k + 1]
  have hq := Iw (f := f) hk
  have hpe := NE (f := f) hk1
  unfold gN at hpe
  have ka : qC l k = l[k].key := by simp [qC, hk0]
  have kb : qC l (k + 1) = l[k + 1].key := by simp [qC, hk1]
  rw [hpe]
  rw [hpe, ka, kb] at hq
  generalize oO l[k].rcd.fs f = u at f1 hq ⊢
  generalize oO l[k + 1].rcd.fs f = v at f2 hq ⊢
  cases hc : (u.1 == v.1)
  ·simp (maxSteps := 9999999) [fa, hk0, hk1, hx, hy, i1, i2, i4, i5, i6, lG i6, f1, f2, hc]
  ·rw [hq hc hn]
   simp (maxSteps := 9999999) [fa, hk0, hk1, hx, hy, i1, i2, i4, i5, i6, lG i6, f1, f2, hc]
 ·rw [Iv hp]
  have hge : dE (((l.length - 1 : Nat) : Int) + 1) (l.length : Int) = false := wg (by omega)
  simp (maxSteps := 9999999) [fa, hge]
theorem sZ {B : Nat} (hB1 : B ≤ 1048576) {s : XStore} (h : s.Ok B) (f : List UInt8) : ae Ph aF 401 [s.v, dM f] = some (Px (NF f (mh f s.items))) := by
 have hB : B ≤ maxLen := by unfold maxLen; omega
 have e1 := Aq hB1 h f
 have hll := Nat.le_trans (vR f s.items) (Nat.le_trans h.2.1.1 hB1)
 have hoo : ∀ y ∈ mh f s.items, y.Ok maxLen := fun y hy => XItem.Ok.mono hB (h.2.1.2 y (vS hy))
 refine ab (fn := ky) rfl ?_
 generalize mh f s.items = l at e1 hll hoo ⊢
 unfold Px
 simp (maxSteps := 9999999) [ky, e1]
 refine aA aQ Cl.fin [.f,.t,.f,.f,.t,.t,.f,.t,.t,.f,.f,.f,.f,.f,.f,.f,.f,.f,.f,.f,.f,.f,.f,.f,.f,.f,.f,.f,.f,.f,.f,.f,.f,.f,.f,.f,.f,.f,.f,.f,.f,.f,.f,.f,.f,.f,.f,.f,.f,.f,.f,.f,.f,.f,.f,.f,.f,.f,.f] (fun k => [(8, aa .i64 ((k : Int) + 1))]) (l.length - 1) (NR f l) rfl (by simp) (fun k hk hn => ?_) (fun hp _ => ?_)
 ·have hk1 : k + 1 < l.length := by omega
  have hk0 : k < l.length := by omega
  obtain ⟨i1, i2, i3, i4, i5, i6⟩ := mz (n := l.length) (by unfold maxLen; omega) hk1
  have f1 := gT (r := l[k].rcd) (hoo _ (List.getElem_mem hk0)).2.1 f
  have f2 := gT (r := l[k + 1].rcd) (hoo _ (List.getElem_mem hk1)).2.1 f
  have hx := XItem.e.eq_1 l[k]
  have hy := XItem.e.eq_1 l[k + 1]
  have hq := Iw (f := f) hk
  have hpe := NE (f := f) hk1
  unfold gN at hpe
  have ka : qC l k = l[k].key := by simp [qC, hk0]
  have kb : qC l (k + 1) = l[k + 1].key := by simp [qC, hk1]
  rw [hpe]
  rw [hpe, ka, kb] at hq
  generalize oO l[k].rcd.fs f = u at f1 hq ⊢
  generalize oO l[k + 1].rcd.fs f = v at f2 hq ⊢
  cases hc : (u.1 == v.1)
  ·simp (maxSteps := 9999999) [fb, hk0, hk1, hx, hy, i1, i2, i4, i5, i6, lG i6, f1, f2, hc]
  ·rw [hq hc hn]
   simp (maxSteps := 9999999) [fb, hk0, hk1, hx, hy, i1, i2, i4, i5, i6, lG i6, f1, f2, hc]
 ·rw [Iv hp]
  have hge : dE (((l.length - 1 : Nat) : Int) + 1) (l.length : Int) = false := wg (by omega)
  simp (maxSteps := 9999999) [fb, hge]
def MH (ss : List XStore) (k : Nat) : Bool := match ss[k]?, ss[k - 1]? with
 | some x, some y => !(lm x) || (dE 0 k && !(Op.bytesLess y.name x.name))
 | _, _ => false
def ov (a b : XIndexDef) : Bool := a.store == b.store && a.field == b.field
theorem CG (a b : XIndexDef) : ov a b = ov b a := by unfold ov; rw [Bool.beq_comm (a := a.store), Bool.beq_comm (a := a.field)]
def G3 (us : List XIndexDef) (k : Nat) : Bool := match us[k]? with
 | some u => fE k (iJ (ov u) us)
 | none => false
def Di (ss : List XStore) (us : List XIndexDef) (k : Nat) : Bool := match us[k]? with
 | some u => match ss.find? (Oc u.store) with
  | some s => !(ct u.field) || (G3 us k || (NF u.field (mh u.field s.items)).2.2)
  | none => true
 | none => false
def I8 (d : XDatabase) : Bool := ct d.name && (rg d.version 0 1000 && (!(dE 4 d.stores.length) && (!(dE 4 d.unique.length) && (!(fE d.stores.length (MH d.stores)) && !(fE d.unique.length (Di d.stores d.unique))))))
theorem Ez {α : Type} (p : α → Bool) (xs : List α) : (gv p xs = -1 ∧ xs.find? p = none) ∨ ∃ j, ∃ hj : j < xs.length, gv p xs = (j : Int) ∧ xs.find? p = some xs[j] := by
 unfold gv
 cases h : xs.findIdx? p with
 | none => exact .inl ⟨rfl, by rw [List.findIdx?_eq_none_iff] at h; rw [List.find?_eq_none]; exact fun x hx => by simp [h x hx]⟩
 | some i =>
  rw [List.findIdx?_eq_some_iff_getElem] at h
  obtain ⟨h1, h2, h3⟩ := h
  refine .inr ⟨i, h1, rfl, ?_⟩
  rw [List.find?_eq_some_iff_getElem]
  exact ⟨h2, i, h1, rfl, fun j hj => by simpa using h3 j hj⟩
theorem Lo {p : XIndexDef → Bool} {us : List XIndexDef} {k : Nat} (hk : k < us.length) : (!(dE (gv p (us.take k)) 0)) = fE k (iJ p us) := by
 have at' : ∀ j, j < k → iJ p (us.take k) j = iJ p us j := fun j hj => by simp [iJ, List.getElem?_take, hj]
 rcases N6 p (us.take k) with h | ⟨j, hj, h1, h2⟩
 ·rw [h, lG (by omega)]
  refine (Mv fun j hj => ?_).symm
  have hj2 : j < (us.take k).length := by simp; omega
  rw [← at' j hj]
  have := N5 h _ (List.getElem_mem hj2)
  simp only [iJ, List.getElem?_eq_getElem hj2]; exact this
 ·have hj2 : j < k := by simp at hj; omega
  rw [h1, wg (by omega)]
  refine (Mx hj2 ?_).symm
  rw [← at' j hj2]; simp only [iJ, List.getElem?_eq_getElem hj]; exact h2
theorem Ci {us : List XIndexDef} (hl : us.length ≤ maxLen) (x : XIndexDef) : ae Ph aF 412 [bu (us.map XIndexDef.e), x.v] = some (aa .i64 (gv (ov x) us)) := by
 refine ab (fn := cN) rfl ?_
 simp +contextual (maxSteps := 9999999) [cN]
 refine aA aQ Cl.fin [.t,.f,.f,.t,.f,.f,.f,.t,.t,.f,.f,.f,.f,.f,.f,.f,.f,.f,.f] (fun k => [(8, aa .i64 k)]) us.length (iJ (ov x) us) rfl (by simp) (fun k hk hj => ?_) (fun hj _ => ?_)
 ·have hf := xV hk hj
  simp +contextual (maxSteps := 9999999) [bQ, iJ, ov, hk, hf, aE hl hk, aU hk, XIndexDef.e.eq_1 us[k], oN, Ml]
 ·simp +contextual (maxSteps := 9999999) [bQ, B2 hj]
theorem vT {us : List XIndexDef} (hl : us.length ≤ maxLen) (x : XIndexDef) : ae Ph aF 405 [bu (us.map XIndexDef.e), x.v] = some (ar (!(dE (gv (ov x) us) 0))) := by
 have e1 := Ci hl x
 refine ab (fn := cA) rfl ?_
 simp +contextual (maxSteps := 9999999) [cA, e1]
theorem t8 {B : Nat} (hB1 : B ≤ 1048576) {d : XDatabase} (h : d.Ok B) : ae Ph aF 397 [d.v] = some (ar (I8 d)) := by
 have hB : B ≤ maxLen := by unfold maxLen; omega
 obtain ⟨hn, hv, ⟨hsl, hs⟩, hul, hu⟩ := h
 have e1 := bg (Nat.le_trans hn hB)
 have e2 := aY d.version 0 1000
 have hsL : d.stores.length ≤ maxLen := Nat.le_trans hsl hB
 have huL : d.unique.length ≤ maxLen := Nat.le_trans hul hB
 unfold I8
 refine ab (fn := ep) rfl ?_
 cases c1 : ct d.name <;> rw [c1] at e1
 ·simp (maxSteps := 9999999) [ep, e1]
 cases c2 : rg d.version 0 1000 <;> rw [c2] at e2
 ·simp (maxSteps := 9999999) [ep, e1, e2]
 cases c3 : dE 4 d.stores.length
 rotate_left
 ·simp (maxSteps := 9999999) [ep, e1, e2, c3]
 cases c4 : dE 4 d.unique.length
 rotate_left
 ·simp (maxSteps := 9999999) [ep, e1, e2, c3, c4]
 simp (maxSteps := 9999999) [ep, e1, e2, c3, c4]
 refine aA aQ Cl.fin [.f,.t,.f,.f,.f,.f,.f,.f,.f,.f,.f,.f,.f,.f,.f,.f,.f,.f,.f,.f,.f,.f,.f,.f,.f,.f,.f,.f,.f,.f,.f,.f,.f,.f,.t,.t,.t,.f,.f,.f,.f,.f,.f,.f,.f,.f,.f,.f,.f,.f,.f,.f,.f,.f,.f,.f,.f,.f,.f,.f,.f,.f,.f,.f,.f,.f,.f,.f,.f,.f,.f,.f,.f,.f,.f,.f,.f,.f,.f,.f,.f,.f,.f,.f,.f,.f,.f,.f,.f,.f,.f,.f,.f,.f,.f,.f,.f,.f,.f,.f,.f,.f,.f] (fun k => [(36, aa .i64 k)]) d.stores.length (MH d.stores) rfl (by simp) (fun k hk _ => ?_) (fun _ hp => ?_)
 ·obtain ⟨q1, q2⟩ := sV hsL hk
  have e3 := mY (XStore.Ok.mono hB (hs _ (List.getElem_mem hk)))
  simp +contextual (maxSteps := 9999999) [fx, MH, hk, q1, q2, aE hsL hk, aU hk, XStore.e.eq_1 d.stores[k], XStore.e.eq_1 d.stores[k - 1], e3]
 ·simp (maxSteps := 9999999) [fx, hp]
  refine aA aQ Cl.fin [.f,.t,.f,.f,.f,.f,.f,.f,.f,.f,.f,.f,.f,.f,.f,.f,.f,.f,.f,.f,.f,.f,.f,.f,.f,.f,.f,.f,.f,.f,.f,.f,.f,.f,.f,.f,.f,.f,.f,.f,.f,.f,.f,.f,.f,.f,.f,.f,.f,.f,.f,.f,.f,.f,.f,.f,.f,.f,.f,.f,.f,.f,.t,.t,.t,.f,.f,.f,.f,.f,.f,.f,.f,.f,.f,.f,.f,.f,.f,.f,.f,.f,.f,.f,.f,.f,.f,.f,.f,.f,.f,.f,.f,.f,.f,.f,.f,.f,.f,.f,.f,.f,.f] (fun k => [(64, aa .i64 k)]) d.unique.length (Di d.stores d.unique) rfl (by simp) (fun k hk _ => ?_) (fun _ hp => ?_)
  ·have e3 := vV (d := d) hsL d.unique[k].store
   have e4 := bg (Nat.le_trans (hu _ (List.getElem_mem hk)).2 hB)
   have e5 := vT (us := d.unique.take k) (by rw [List.length_take]; omega) d.unique[k]
   rw [Lo hk] at e5
   have hdup : G3 d.unique k = fE k (iJ (ov d.unique[k]) d.unique) := by simp [G3, hk]
   rw [← hdup] at e5
   rw [List.map_take] at e5
   have hx := XIndexDef.e.eq_1 d.unique[k]
   have w := du (e := XIndexDef.e) (z := 2) (fun _ => rfl) d.unique
   rcases Ez (Oc d.unique[k].store) d.stores with ⟨h1, h2⟩ | ⟨j, hj, h1, h2⟩ <;> rw [h1] at e3
   ·rw [show Di d.stores d.unique k = true by simp [Di, hk, h2]]
    simp +contextual (maxSteps := 9999999) [fy, hk, e3, hx, aE huL hk, aU hk, show dE (-1) 0 = true from rfl]
   ·have e6 := sP hB1 (hs _ (List.getElem_mem hj)) d.unique[k].field
    have hy := XStore.e.eq_1 d.stores[j]
    rw [show Di d.stores d.unique k = (!(ct d.unique[k].field) || (G3 d.unique k || (NF d.unique[k].field (mh d.unique[k].field d.stores[j].items)).2.2)) by simp [Di, hk, h2]]
    generalize NF d.unique[k].field (mh d.unique[k].field d.stores[j].items) = T at e6 ⊢
    unfold Px at e6
    generalize ct d.unique[k].field = N at e4 ⊢
    generalize G3 d.unique k = D at e5 ⊢
    simp +contextual (maxSteps := 9999999) [fy, hk, hj, e3, e4, e5, e6, hx, hy, w, Nat.le_of_lt hk, aE huL hk, aU hk, uj]
  ·simp (maxSteps := 9999999) [fy, hp]
end Gi
