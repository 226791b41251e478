/- Of this proof. -/
import Derived.Test.YthklhahdgbbbhaaGreatGxfc
import Derived.Test.YthklhahdgbbbhaaGreatGxl
set_option linter.unusedSimpArgs false
namespace Gi
open Go Go.RowKit
set_option maxHeartbeats 16000000
set_option maxRecDepth 4000
attribute [local simp] bW am bg bt cF dN Opd.ev put V.cells plain bz hJ isInt isStr isBool bin bf aS aR un asList L.view aB V.view viewL bC aC aT cj comp bq bZ bK a9 aK aI aJ aQ aE ba ar aM aA av aO aN aL aP thawT bB bw cd bG bA bz V.flat L.flat dX dJ bS putAt thaw thawL freezeVs freezeLs freezeL V.mut L.mut bm aZ wp_seq wp_block bE wp_cond wp_skip wp_exit wp_ret cN cE cK cH cS cT cR cq bj L.notArr aY aW aX bH bI
section
variable {B : Nat} {s : XStore} {k : XKey} {r : XRecord}
theorem IB (h : cG r = false) : pW s k r = (s, false) := by
 unfold pW
 rw [if_neg]
 simp [h]
theorem KQ (hs : bT s = true) (hk : fk k = true) (hf : k6 s k < 0) (h : 16 ≤ s.items.length) : pW s k r = (s, false) := by
 rw [xx hs hk hf]
 have : decide (s.items.length + 1 ≤ 16) = false := by simp; omega
 rw [this, Bool.and_false]
 rfl
theorem KR (hs : bT s = true) (hk : fk k = true) (hr : cG r = true) (hf : k6 s k < 0) (h : ¬ 16 ≤ s.items.length) : pW s k r = (⟨s.name, lh s k r, k9 s k⟩, true) := by
 rw [xx hs hk hf, hr]
 have : decide (s.items.length + 1 ≤ 16) = true := by simp; omega
 rw [this]
 rfl
theorem Lb (xs : List XItem) (k : Nat) : ((xs.map XItem.e).take k).all (fun e => e.length == 4) = true := by rw [← List.map_take]; exact kL XItem.len _
theorem Kf (xs : List XItem) (k : Nat) : ((xs.map XItem.e).drop k).all (fun e => e.length == 4) = true := by rw [← List.map_drop]; exact kL XItem.len _
theorem Nj (hs : bT s = true) : 0 ≤ s.auto ∧ s.auto ≤ 1000000 := by
 unfold bT at hs
 simp only [Bool.and_eq_true, decide_eq_true_eq] at hs
 exact hs.2.2.2
theorem A3 (hB : B ≤ 1048576) (hs : s.Ok B) (hk : k.Ok B) (hr : r.Ok B) : aa Ph al 339 [.agg [.pv (.str s.name), .pv (.lst (s.items.map XItem.e)), .pv (.int .i64 s.auto)], .agg [.pv (.int .i64 k.kind), .pv (.int .i64 k.n), .pv (.str k.text)], .agg [.pv (.lst (r.fs.map XField.e))]] = some (j2 (pW s k r)) := by
 have hM : B ≤ maxLen := by unfold maxLen; omega
 have e1 := ly hM hs
 have e2 := kC (Nat.le_trans hk.2.2 hM)
 have e2r := j7 hM hr
 have e3 := lR hB hs
 have e4 := ro hB hr
 have e5 := qb (k := k) hM hs
 have hl : s.items.length ≤ 1048576 := Nat.le_trans hs.2.1.1 hB
 unfold rt at e3
 refine aw (fn := cP) rfl ?_
 have bad : ∀ {b1 b2 b3 : Bool}, bT s = b1 → fk k = b2 → cG r = b3 → (b1 && (b2 && b3)) = false → wp (aa Ph al) (Om cP.results (j2 (s, false))) [] (aq (aa Ph al) ah cP.body (bW cP [.agg [.pv (.str s.name), .pv (.lst (s.items.map XItem.e)), .pv (.int .i64 s.auto)], .agg [.pv (.int .i64 k.kind), .pv (.int .i64 k.n), .pv (.str k.text)], .agg [.pv (.lst (r.fs.map XField.e))]])) := by
  intro b1 b2 b3 h1 h2 h3 hb
  rw [h1] at e1
  rw [h2] at e2
  rw [h3] at e2r
  unfold j2
  cases hq : s.items with
  | nil =>
   rw [hq] at e1 e3
   simp only [List.map_nil, n7] at e1 e3
   cases b1
   ·simp [cP, e1, e3, n7]
   cases b2
   ·simp [cP, e1, e2, e3, n7]
   cases b3
   ·simp [cP, e1, e2, e2r, e3, n7]
   cases hb
  | cons x xs =>
   rw [← hq]
   have hne : s.items.map XItem.e ≠ [] := by rw [hq]; simp
   rw [iM hne] at e3 ⊢
   cases b1
   ·simp [cP, e1, e3]
   cases b2
   ·simp [cP, e1, e2, e3]
   cases b3
   ·simp [cP, e1, e2, e2r, e3]
   cases hb
 cases c1 : bT s
 ·rw [xw (.inl c1)]
  exact bad c1 rfl rfl rfl
 cases c2 : fk k
 ·rw [xw (.inr c2)]
  exact bad c1 c2 rfl rfl
 cases c3 : cG r
 ·rw [IB c3]
  exact bad c1 c2 c3 rfl
 clear bad
 rw [c1] at e1
 rw [c2] at e2
 rw [c3] at e2r
 by_cases hneg : k6 s k < 0
 ·by_cases hfull : 16 ≤ s.items.length
  ·rw [KQ c1 c2 hneg hfull]
   generalize k6 s k = I at e5 hneg
   have hneg2 : ¬ 0 ≤ I := by omega
   have hne : s.items.map XItem.e ≠ [] := fun h => by
    have : (s.items.map XItem.e).length = 0 := by rw [h]; rfl
    simp at this
    rw [this] at hfull
    simp at hfull
   rw [iM hne] at e3
   unfold j2
   simp only [iM hne]
   have hf2 : (16 : Int) ≤ (s.items.length : Int) := by omega
   simp [cP, e1, e2, e2r, e3, e5, hneg2, hfull, hf2]
  ·rw [KR c1 c2 c3 hneg hfull]
   have hf2 : ¬ (16 : Int) ≤ (s.items.length : Int) := by omega
   have e6 : ∀ j (hj : j < s.items.length), aa Ph al 351 [.agg [.pv (.int .i64 s.items[j].key.kind), .pv (.int .i64 s.items[j].key.n), .pv (.str s.items[j].key.text)], .agg [.pv (.int .i64 k.kind), .pv (.int .i64 k.n), .pv (.str k.text)]] = some (ae .i64 (kd s.items[j].key k)) := fun j hj => k8 (Nat.le_trans (hs.2.1.2 _ (List.getElem_mem hj)).1.2.2 hM) (Nat.le_trans hk.2.2 hM)
   have hp := xt s.items k
   have hm : (lh s k r).map XItem.e = (s.items.map XItem.e).take (pV s.items k) ++ ([.int .i64 k.kind, .int .i64 k.n, .str k.text, .lst (r.fs.map XField.e)] :: (s.items.map XItem.e).drop (pV s.items k)) := Cq k r s.items _
   have hmne : (lh s k r).map XItem.e ≠ [] := by unfold lh; simp
   obtain ⟨ha1, ha2⟩ := Nj c1
   have hw : IntKind.i64.wrap (s.auto + 1) = s.auto + 1 := by rw [IntKind.wrap_i64]; omega
   have e8 := fv k.n (s.auto + 1) 1000000
   have hau : (k.kind = 1 ∧ (decide (s.auto + 1 ≤ k.n) && decide (k.n ≤ 1000000)) = true ∧ k9 s k = k.n) ∨ (k9 s k = s.auto ∧ (¬ k.kind = 1 ∨ (k.kind = 1 ∧ (decide (s.auto + 1 ≤ k.n) && decide (k.n ≤ 1000000)) = false))) := by
    unfold k9
    by_cases q1 : k.kind = 1
    ·by_cases q2 : s.auto < k.n
     ·by_cases q3 : k.n ≤ 1000000
      ·refine .inl ⟨q1, by simp [q3]; omega, by simp [q1, q2, q3]⟩
      ·simp [q1, q2, q3]
     ·have : ¬ s.auto + 1 ≤ k.n := by omega
      simp [q1, q2, this]
    ·simp [q1]
   generalize hI : k6 s k = I at e5 hneg
   have hneg2 : ¬ 0 ≤ I := by omega
   generalize (decide (s.auto + 1 ≤ k.n) && decide (k.n ≤ 1000000)) = d at e8 hau
   have hE : n7 4 ((lh s k r).map XItem.e) = .own 4 ((s.items.map XItem.e).take (pV s.items k) ++ ([.int .i64 k.kind, .int .i64 k.n, .str k.text, .lst (r.fs.map XField.e)] :: (s.items.map XItem.e).drop (pV s.items k))) := by rw [iM hmne, hm]
   unfold j2
   simp only [hE]
   clear hE hm hmne
   cases hq : s.items with
   | nil =>
    have hr0 : s.items.map XItem.e = [] := by rw [hq]; rfl
    rw [← hq]
    rw [hr0] at e1 e3 e5 ⊢
    simp only [n7] at e3
    simp only [List.take_nil, List.drop_nil, List.nil_append]
    clear e6 hp hl hs
    have m1 := pU (m := 1) (z := 56) (by decide) (by decide)
    rcases hau with ⟨q1, rfl, q4⟩ | ⟨q4, q1 | ⟨q1, rfl⟩⟩ <;> simp only [q4]
    ·have q1b : (k.kind == 1) = true := by simpa using q1
     simp [cP, gh, pS, e1, e2, e2r, e3, e5, hneg, hneg2, e4, m1, q1b, hw, e8]
    ·have q1b : (k.kind == 1) = false := by simpa using q1
     simp [cP, gh, pS, e1, e2, e2r, e3, e5, hneg, hneg2, e4, m1, q1b]
    ·have q1b : (k.kind == 1) = true := by simpa using q1
     simp [cP, gh, pS, e1, e2, e2r, e3, e5, hneg, hneg2, e4, m1, q1b, hw, e8]
   | cons x xs =>
    rw [← hq]
    have hne : s.items.map XItem.e ≠ [] := by rw [hq]; simp
    rw [iM hne] at e3
    simp [cP, e1, e2, e2r, e3, e5, hneg, hneg2, hfull, hf2]
    generalize hpp : pV s.items k = p at hp
    refine ql bh Cl.fin p [.f,.f,.f,.t,.t,.t,.t,.f,.t,.f,.t,.f,.f,.f,.f,.f,.f,.f,.f,.f,.f,.f,.f,.f,.f,.f,.f,.f,.f,.f,.f,.f,.f,.f,.f,.f,.f,.f,.f,.f,.f,.f,.f,.f,.f,.f,.f,.f,.f,.f,.f,.f,.f,.f,.f,.f,.f,.f,.f,.f,.f,.f,.f,.f,.f,.f,.f,.f,.f,.f,.f,.f,.f,.f,.f,.f,.f,.f,.f,.f,.f,.f,.f,.f,.f,.f,.f,.f,.f,.f,.f,.f,.f,.f,.f,.f,.f,.f,.f,.f] (fun k => [(10, ae .i64 k)]) (fun _ => [.box [.pv (.str s.name), .pv (.lst (s.items.map XItem.e)), .pv (.int .i64 s.auto)], .box [.pv (.int .i64 k.kind), .pv (.int .i64 k.n), .pv (.str k.text)], .box [.pv (.lst (r.fs.map XField.e))], .box [.pv (.str []), .nil, .pv (.int .i64 0)], .arr 4 (s.items.map XItem.e), .box [.pv (.str s.name), .arr 4, .pv (.int .i64 s.auto)]]) 0 rfl ?_ ?_ ?_ ?_
    ·exact Kn.q [0, 1, 2, 3, 4, 5]
    ·intro j hj
     have hj2 : j < s.items.length := by omega
     have hwj := ag (k := j) (by omega)
     have e6j := e6 j hj2
     have hlt : kd s.items[j].key k < 0 := FE (by rw [hpp]; exact hj) hj2
     generalize kd s.items[j].key k = C at e6j hlt
     simp [gh, hj2, XItem.e.eq_1 s.items[j], e6j, hlt, hwj]
     exact Kn.q [0, 1, 2, 3, 4, 5]
    ·by_cases hlt : p < s.items.length
     ·have e6j := e6 p hlt
      have hge : ¬ kd s.items[p].key k < 0 := by subst hpp; exact FD hlt
      generalize kd s.items[p].key k = C at e6j hge
      simp [gh, hlt, XItem.e.eq_1 s.items[p], e6j, hge]
      exact Kn.q [0, 1, 2, 3, 4, 5]
     ·simp [gh, hlt]
      exact Kn.q [0, 1, 2, 3, 4, 5]
    ·have m0 := pU (m := p) (z := 56) (by omega) (by omega)
     have m1 := pU (m := p + 1) (z := 56) (by omega) (by omega)
     have m2 := pU (m := s.items.length + 1) (z := 56) (by omega) (by omega)
     have m3 : p + 1 + (s.items.length - p) = s.items.length + 1 := by omega
     have q0 := kL XItem.len s.items
     have t1 := Lb s.items p
     have t2 := Kf s.items p
     have tk : ((s.items.map XItem.e).drop p).take (s.items.length - p) = (s.items.map XItem.e).drop p := List.take_of_length_le (by simp)
     have b1 : min p s.items.length = p := by omega
     rcases hau with ⟨q1, rfl, q4⟩ | ⟨q4, q1 | ⟨q1, rfl⟩⟩ <;> simp only [q4]
     ·have q1b : (k.kind == 1) = true := by simpa using q1
      simp [e4, hp, ↓q0, ↓t1, ↓t2, ↓tk, b1, m0, m1, m2, m3, q1b, hw, e8]
     ·have q1b : (k.kind == 1) = false := by simpa using q1
      simp [e4, hp, ↓q0, ↓t1, ↓t2, ↓tk, b1, m0, m1, m2, m3, q1b]
     ·have q1b : (k.kind == 1) = true := by simpa using q1
      simp [e4, hp, ↓q0, ↓t1, ↓t2, ↓tk, b1, m0, m1, m2, m3, q1b, hw, e8]
 ·obtain ⟨j, hj, hfi, hkk⟩ := Ba hneg
  rw [Hp c1 c2 hfi, c3]
  rw [hfi] at e5
  have hm := Jt (r := r) hj hkk
  have hx := XItem.e.eq_1 s.items[j]
  have hne : s.items.map XItem.e ≠ [] := fun h => by
   have : (s.items.map XItem.e).length = 0 := by rw [h]; rfl
   simp at this
   rw [this] at hj
   simp at hj
  have hne2 : (s.items.set j ⟨k, r⟩).map XItem.e ≠ [] := fun h => by
   have : ((s.items.set j ⟨k, r⟩).map XItem.e).length = 0 := by rw [h]; rfl
   simp at this
   rw [this] at hj
   simp at hj
  rw [iM hne] at e3
  unfold j2
  have hE : n7 4 ((s.items.set j ⟨k, r⟩).map XItem.e) = .own 4 ((s.items.map XItem.e).set j [.int .i64 s.items[j].key.kind, .int .i64 s.items[j].key.n, .str s.items[j].key.text, .lst (r.fs.map XField.e)]) := by rw [iM hne2, ← hm]
  simp only [cond_true, hE]
  simp [cP, e1, e2, e2r, e3, e4, e5, hj, hx]
end
set_option maxHeartbeats 8000000
section
variable {B : Nat} {s : XStore}
theorem fM (z : Nat) (rows : List (List PV)) : (rows = [] ∧ n7 z rows = .nil ∧ m7 rows = .nil) ∨ (rows ≠ [] ∧ n7 z rows = .own z rows ∧ m7 rows = .pv (.lst rows)) := by
 cases rows with
 | nil => exact .inl ⟨rfl, rfl, rfl⟩
 | cons r rs => exact .inr ⟨by simp, rfl, rfl⟩
theorem AY {k : XKey} {r : XRecord} (hB : B ≤ 1048576) (hs : s.Ok B) (hk : k.Ok B) (hr : r.Ok B) : aa Ph al 342 [.agg [.pv (.str s.name), .pv (.lst (s.items.map XItem.e)), .pv (.int .i64 s.auto)], .agg [.pv (.int .i64 k.kind), .pv (.int .i64 k.n), .pv (.str k.text)], .agg [.pv (.lst (r.fs.map XField.e))]] = some (j2 (pW s k r)) := by
 cases c1 : bT s
 ·exact qW hB hs hk hr (.inl c1)
 cases c2 : fk k
 ·exact qW hB hs hk hr (.inr c2)
 by_cases hneg : k6 s k < 0
 ·cases hq : s.items with
  | nil => rw [← hq]; exact yY hB hs hk hr c1 c2 hneg hq
  | cons x xs => rw [← hq]; exact xf hB hs hk hr c1 c2 hneg (by rw [hq]; simp)
 ·exact yZ hB hs hk hr c1 c2 hneg
theorem NJ {k : XKey} {r : XRecord} (h16 : 16 ≤ B) (hs : s.Ok B) (hk : k.Ok B) (hr : r.Ok B) : (pW s k r).1.Ok B := by
 unfold pW
 split
 ·split
  ·exact JK hs hk hr _
  ·split
   ·exact hs
   ·rename_i hn
    obtain ⟨h1, ⟨h2, h3⟩, h4⟩ := hs
    refine ⟨h1, ⟨by simp only [G7]; omega, fun x hx => ?_⟩, Gw h4 hk.2.1⟩
    unfold lh at hx
    rw [List.mem_append, List.mem_cons] at hx
    rcases hx with hx | rfl | hx
    ·exact h3 x (List.mem_of_mem_take hx)
    ·exact ⟨hk, hr⟩
    ·exact h3 x (List.mem_of_mem_drop hx)
 ·exact hs
theorem FH {r : XRecord} (h6 : 6 ≤ B) (hr : r.Ok B) {nm : List UInt8} (hn : nm.length ≤ B) {n : Int} (hi : nb n) : (setR r nm n).1.Ok B := by
 unfold setR
 split
 ·rename_i h
  refine ⟨Nat.le_trans (NL h.2) h6, fun f hf => ?_⟩
  rcases Hw hf with h1 | rfl
  ·exact hr.2 f h1
  ·exact ⟨hn, hi⟩
 ·exact hr
def oK (s : XStore) (k : XKey) : XRecord := if 0 ≤ k6 s k then (match s.items[(k6 s k).toNat]? with
 | some x => x.rcd
 | none => ⟨[]⟩) else ⟨[]⟩
theorem tT {k : XKey} (hs : s.Ok B) : (oK s k).Ok B := by
 have e : XRecord.Ok B ⟨[]⟩ := ⟨by simp, by simp⟩
 unfold oK
 split
 ·split
  ·rename_i x hx
   exact (hs.2.1.2 x (List.mem_of_getElem? hx)).2
  ·exact e
 ·exact e
def iJ (s : XStore) (w : XWrite) : XStore × Bool := cond (setR (oK s w.key) w.field w.n).2 (pW s w.key (setR (oK s w.key) w.field w.n).1) (s, false)
theorem Hy {w : XWrite} (h16 : 16 ≤ B) (hs : s.Ok B) (hw : w.Ok B) : (iJ s w).1.Ok B := by
 obtain ⟨_, _, hk, hf, hn⟩ := hw
 unfold iJ
 cases (setR (oK s w.key) w.field w.n).2 with
 | true => exact NJ h16 hs hk (FH (by omega) (tT hs) hf hn)
 | false => exact hs
theorem Hx {w : XWrite} (h : (iJ s w).2 = false) : (iJ s w).1 = s := by
 unfold iJ at h ⊢
 cases q : (setR (oK s w.key) w.field w.n).2 with
 | true =>
  rw [q] at h
  simp only [cond_true] at h ⊢
  unfold pW at h ⊢
  split at h
  ·rename_i h1
   rw [if_pos h1]
   split at h
   ·cases h
   ·rename_i h2
    rw [if_neg h2]
    split at h
    ·rename_i h3; rw [if_pos h3]
    ·cases h
  ·rename_i h1
   rw [if_neg h1]
 | false => rfl
def tt (s : XStore) : V := .agg [.pv (.str s.name), m7 (s.items.map XItem.e), .pv (.int .i64 s.auto)]
def zo (x : XStore × Bool) : V := .tup [(true, [.pv (.str x.1.name), m7 (x.1.items.map XItem.e), .pv (.int .i64 x.1.auto)]), (false, [.pv (.bool x.2)])]
theorem tG {w : XWrite} (hB : B ≤ 1048576) (h16 : 16 ≤ B) (hs : s.Ok B) (hw : w.Ok B) : aa Ph al 326 [.agg [.pv (.str s.name), .pv (.lst (s.items.map XItem.e)), .pv (.int .i64 s.auto)], .agg [.pv (.int .i64 w.dev), .pv (.int .i64 w.seq), .pv (.int .i64 w.key.kind), .pv (.int .i64 w.key.n), .pv (.str w.key.text), .pv (.str w.field), .pv (.int .i64 w.n)]] = some (zo (iJ s w)) := by
 have hw' := hw
 obtain ⟨_, _, hk, hf, hn⟩ := hw'
 have e1 := iZ (k := w.key) (by unfold maxLen; omega) hs
 have e2 := y8 hB (tT (k := w.key) hs) hf hn
 have e3 := gZ hB hs
 have hr := FH (B := B) (by omega) (tT (k := w.key) hs) hf hn
 have e4 := AY hB hs hk hr
 unfold iJ
 unfold rt at e3
 have hrec : (k6 s w.key < 0 ∧ oK s w.key = ⟨[]⟩) ∨ ∃ j, ∃ hj : j < s.items.length, k6 s w.key = (j : Int) ∧ oK s w.key = s.items[j].rcd := by
  by_cases q : k6 s w.key < 0
  ·exact .inl ⟨q, by unfold oK; rw [if_neg (by omega)]⟩
  ·obtain ⟨j, hj, h1, _⟩ := Ba q
   refine .inr ⟨j, hj, h1, ?_⟩
   unfold oK
   rw [if_pos (by omega), h1]
   simp [hj]
 generalize setR (oK s w.key) w.field w.n = x at e2 e4 hr ⊢
 generalize pW s w.key x.1 = y at e4 ⊢
 obtain ⟨xr, xb⟩ := x
 unfold iP at e2
 unfold j2 at e4
 unfold zo
 refine aw (fn := gy) rfl ?_
 rcases hrec with ⟨q, h0⟩ | ⟨j, hj, hfi, h0⟩
 ·rw [h0] at e2
  simp only [List.map_nil] at e2
  generalize k6 s w.key = I at e1 q
  have q2 : ¬ 0 ≤ I := by omega
  cases xb
  ·rcases fM 4 (s.items.map XItem.e) with ⟨_, o1, o2⟩ | ⟨_, o1, o2⟩ <;> rw [o1] at e3 <;> simp only [o2] <;> simp [gy, e1, e2, e3, q, q2, o2]
  ·rcases fM 4 (y.1.items.map XItem.e) with ⟨_, o1, o2⟩ | ⟨_, o1, o2⟩ <;> rw [o1] at e4 <;> simp only [o2] <;> simp [gy, e1, e2, e4, q, q2, o2]
 ·rw [h0] at e2
  rw [hfi] at e1
  have hx := XItem.e.eq_1 s.items[j]
  cases xb
  ·rcases fM 4 (s.items.map XItem.e) with ⟨_, o1, o2⟩ | ⟨_, o1, o2⟩ <;> rw [o1] at e3 <;> simp only [o2] <;> simp [gy, e1, e2, e3, hj, hx, o2]
  ·rcases fM 4 (y.1.items.map XItem.e) with ⟨_, o1, o2⟩ | ⟨_, o1, o2⟩ <;> rw [o1] at e4 <;> simp only [o2] <;> simp [gy, e1, e2, e4, hj, hx, o2]
theorem t5 {w : XWrite} (hB : B ≤ 1048576) (h16 : 16 ≤ B) (hs : s.Ok B) (hw : w.Ok B) : aa Ph al 323 [.agg [.pv (.str s.name), .pv (.lst (s.items.map XItem.e)), .pv (.int .i64 s.auto)], .agg [.pv (.int .i64 w.dev), .pv (.int .i64 w.seq), .pv (.int .i64 w.key.kind), .pv (.int .i64 w.key.n), .pv (.str w.key.text), .pv (.str w.field), .pv (.int .i64 w.n)]] = some (zo (iJ s w)) := by
 have hw' := hw
 obtain ⟨_, _, hk, hf, hn⟩ := hw'
 have e1 := qb (k := w.key) (by unfold maxLen; omega) hs
 have e2 := zx hB (tT (k := w.key) hs) hf hn
 have e3 := lR hB hs
 have hr := FH (B := B) (by omega) (tT (k := w.key) hs) hf hn
 have e4 := A3 hB hs hk hr
 unfold iJ
 unfold rt at e3
 have hrec : (k6 s w.key < 0 ∧ oK s w.key = ⟨[]⟩) ∨ ∃ j, ∃ hj : j < s.items.length, k6 s w.key = (j : Int) ∧ oK s w.key = s.items[j].rcd := by
  by_cases q : k6 s w.key < 0
  ·exact .inl ⟨q, by unfold oK; rw [if_neg (by omega)]⟩
  ·obtain ⟨j, hj, h1, _⟩ := Ba q
   refine .inr ⟨j, hj, h1, ?_⟩
   unfold oK
   rw [if_pos (by omega), h1]
   simp [hj]
 generalize setR (oK s w.key) w.field w.n = x at e2 e4 hr ⊢
 generalize pW s w.key x.1 = y at e4 ⊢
 obtain ⟨xr, xb⟩ := x
 unfold iP at e2
 unfold j2 at e4
 unfold zo
 refine aw (fn := gz) rfl ?_
 rcases hrec with ⟨q, h0⟩ | ⟨j, hj, hfi, h0⟩
 ·rw [h0] at e2
  simp only [List.map_nil] at e2
  generalize k6 s w.key = I at e1 q
  have q2 : ¬ 0 ≤ I := by omega
  cases xb
  ·rcases fM 4 (s.items.map XItem.e) with ⟨_, o1, o2⟩ | ⟨_, o1, o2⟩ <;> rw [o1] at e3 <;> simp only [o2] <;> simp [gz, e1, e2, e3, q, q2, o2]
  ·rcases fM 4 (y.1.items.map XItem.e) with ⟨_, o1, o2⟩ | ⟨_, o1, o2⟩ <;> rw [o1] at e4 <;> simp only [o2] <;> simp [gz, e1, e2, e4, q, q2, o2]
 ·rw [h0] at e2
  rw [hfi] at e1
  have hx := XItem.e.eq_1 s.items[j]
  cases xb
  ·rcases fM 4 (s.items.map XItem.e) with ⟨_, o1, o2⟩ | ⟨_, o1, o2⟩ <;> rw [o1] at e3 <;> simp only [o2] <;> simp [gz, e1, e2, e3, hj, hx, o2]
  ·rcases fM 4 (y.1.items.map XItem.e) with ⟨_, o1, o2⟩ | ⟨_, o1, o2⟩ <;> rw [o1] at e4 <;> simp only [o2] <;> simp [gz, e1, e2, e4, hj, hx, o2]
def cJ (s : XStore) (ws : List XWrite) : XStore := ws.foldl (fun s w => (iJ s w).1) s
theorem zD {ws : List XWrite} {k : Nat} (hk : k < ws.length) : cJ s (ws.take (k + 1)) = (iJ (cJ s (ws.take k)) ws[k]).1 := by
 unfold cJ
 rw [List.take_succ_eq_append_getElem hk, List.foldl_append]
 rfl
theorem nf (h16 : 16 ≤ B) : ∀ {ws : List XWrite} {s : XStore}, s.Ok B → (∀ w ∈ ws, w.Ok B) → (cJ s ws).Ok B
 | [], s, hs, _ => hs
 | w :: ws, s, hs, hw => by
  unfold cJ
  rw [List.foldl_cons]
  exact nf h16 (Hy h16 hs (hw w (by simp))) (fun x hx => hw x (by simp [hx]))
theorem XWrite.len (x : XWrite) : x.e.length = 7 := rfl
end
set_option maxHeartbeats 16000000
section
variable {B : Nat} {s : XStore}
theorem p5 {ws : List XWrite} (hB : B ≤ 1048576) (h16 : 16 ≤ B) (hs : s.Ok B) (hl : ws.length ≤ B) (hw : ∀ w ∈ ws, w.Ok B) {k : Nat} (hk : k < ws.length) : wp (aa Ph al) (fun e τ => e = .normal ∧ Kn ⟨(J4 (.one (.ptr 1 0 0) :: .one (.ptr 2 0 0) :: J4 (bJ (ws.map XWrite.e) :: ae .i64 ws.length :: ae .i64 (k + 1 : Nat) :: J4 (J4 (.one .junk :: .one .junk :: .one .junk :: []))))), [.box [.pv (.str s.name), .pv (.lst (s.items.map XItem.e)), .pv (.int .i64 s.auto)], .box [.pv (.str []), .nil, .pv (.int .i64 0)], .box [.pv (.str (cJ s (ws.take (k + 1))).name), m7 ((cJ s (ws.take (k + 1))).items.map XItem.e), .pv (.int .i64 (cJ s (ws.take (k + 1))).auto)]]⟩ τ) [] (aq (aa Ph al) ah fK ⟨(J4 (.one (.ptr 1 0 0) :: .one (.ptr 2 0 0) :: J4 (bJ (ws.map XWrite.e) :: ae .i64 ws.length :: ae .i64 k :: J4 (J4 (.one .junk :: .one .junk :: .one .junk :: []))))), [.box [.pv (.str s.name), .pv (.lst (s.items.map XItem.e)), .pv (.int .i64 s.auto)], .box [.pv (.str []), .nil, .pv (.int .i64 0)], .box [.pv (.str (cJ s (ws.take k)).name), m7 ((cJ s (ws.take k)).items.map XItem.e), .pv (.int .i64 (cJ s (ws.take k)).auto)]]⟩) := by
 have e4k := tG (w := ws[k]) hB h16 (nf h16 hs (ws := ws.take k) (fun w hx => hw w (List.mem_of_mem_take hx))) (hw _ (List.getElem_mem hk))
 have hwk := ag (k := k) (by omega)
 have hx := XWrite.e.eq_1 ws[k]
 rw [zD hk]
 generalize cJ s (ws.take k) = T at e4k ⊢
 unfold zo at e4k
 rcases fM 4 (T.items.map XItem.e) with ⟨r1, _, o3⟩ | ⟨_, _, o3⟩ <;> rcases fM 4 ((iJ T ws[k]).1.items.map XItem.e) with ⟨_, _, o4⟩ | ⟨_, _, o4⟩
 ·rw [r1, o4] at e4k
  simp only [o3, o4]
  simp [fK, hk, hx, e4k, hwk]
  exact Kn.q [0, 1, 2]
 ·rw [r1, o4] at e4k
  simp only [o3, o4]
  simp [fK, hk, hx, e4k, hwk]
  exact Kn.q [0, 1, 2]
 ·rw [o4] at e4k
  simp only [o3, o4]
  simp [fK, hk, hx, e4k, hwk]
  exact Kn.q [0, 1, 2]
 ·rw [o4] at e4k
  simp only [o3, o4]
  simp [fK, hk, hx, e4k, hwk]
  exact Kn.q [0, 1, 2]
theorem sR {ws : List XWrite} (hB : B ≤ 1048576) (h16 : 16 ≤ B) (hs : s.Ok B) (hl : ws.length ≤ B) (hw : ∀ w ∈ ws, w.Ok B) : aa Ph al 313 [.agg [.pv (.str s.name), .pv (.lst (s.items.map XItem.e)), .pv (.int .i64 s.auto)], bJ (ws.map XWrite.e)] = some (tt (cJ s ws)) := by
 have e3 := gZ hB hs
 unfold rt at e3
 unfold tt
 refine aw (fn := mE) rfl ?_
 rcases fM 4 (s.items.map XItem.e) with ⟨_, o1, o2⟩ | ⟨_, o1, o2⟩ <;> rw [o1] at e3
 ·simp [mE, e3]
  have step := fun k (hk : k < ws.length) => p5 hB h16 hs hl hw hk
  refine ql bh Cl.fin ws.length [.f,.f,.f,.f,.t,.t,.f,.f,.f,.f,.t,.t,.t,.f,.f,.f,.f,.f,.f,.f,.f,.f,.f,.f] (fun k => [(12, ae .i64 k)]) (fun k => [.box [.pv (.str s.name), .pv (.lst (s.items.map XItem.e)), .pv (.int .i64 s.auto)], .box [.pv (.str []), .nil, .pv (.int .i64 0)], .box [.pv (.str (cJ s (ws.take k)).name), m7 ((cJ s (ws.take k)).items.map XItem.e), .pv (.int .i64 (cJ s (ws.take k)).auto)]]) 0 rfl ?_ ?_ ?_ ?_
  ·exact Kn.q [0, 1, 2] (by simp [aY, aW, aX, bH, bI, bL, ca, br, dI, co, bQ, cu, L.ren, aA, cJ, o2])
  ·exact step
  ·simp [fK]
   exact Kn.q [0, 1, 2] (by rcases fM 4 ((cJ s ws).items.map XItem.e) with ⟨_, _, o3⟩ | ⟨_, _, o3⟩ <;> simp [aY, aW, aX, bH, bI, bL, ca, br, dI, co, bQ, cu, L.ren, aA, o3])
  ·rw [List.take_length]
   rcases fM 4 ((cJ s ws).items.map XItem.e) with ⟨_, _, o3⟩ | ⟨_, _, o3⟩ <;> simp only [o3] <;> simp
 ·simp [mE, e3]
  have step := fun k (hk : k < ws.length) => p5 hB h16 hs hl hw hk
  refine ql bh Cl.fin ws.length [.f,.f,.f,.f,.t,.t,.f,.f,.f,.f,.t,.t,.t,.f,.f,.f,.f,.f,.f,.f,.f,.f,.f,.f] (fun k => [(12, ae .i64 k)]) (fun k => [.box [.pv (.str s.name), .pv (.lst (s.items.map XItem.e)), .pv (.int .i64 s.auto)], .box [.pv (.str []), .nil, .pv (.int .i64 0)], .box [.pv (.str (cJ s (ws.take k)).name), m7 ((cJ s (ws.take k)).items.map XItem.e), .pv (.int .i64 (cJ s (ws.take k)).auto)]]) 0 rfl ?_ ?_ ?_ ?_
  ·exact Kn.q [0, 1, 2] (by simp [aY, aW, aX, bH, bI, bL, ca, br, dI, co, bQ, cu, L.ren, aA, cJ, o2])
  ·exact step
  ·simp [fK]
   exact Kn.q [0, 1, 2] (by rcases fM 4 ((cJ s ws).items.map XItem.e) with ⟨_, _, o3⟩ | ⟨_, _, o3⟩ <;> simp [aY, aW, aX, bH, bI, bL, ca, br, dI, co, bQ, cu, L.ren, aA, o3])
  ·rw [List.take_length]
   rcases fM 4 ((cJ s ws).items.map XItem.e) with ⟨_, _, o3⟩ | ⟨_, _, o3⟩ <;> simp only [o3] <;> simp
end
section
variable {B : Nat} {s : XStore}
theorem pK {ws : List XWrite} (hB : B ≤ 1048576) (h16 : 16 ≤ B) (hs : s.Ok B) (hl : ws.length ≤ B) (hw : ∀ w ∈ ws, w.Ok B) {k : Nat} (hk : k < ws.length) : wp (aa Ph al) (fun e τ => e = .normal ∧ Kn ⟨(.one .junk :: bJ (ws.map XWrite.e) :: .one .junk :: .one .junk :: .one (.ptr 1 0 0) :: .one (.ptr 2 0 0) :: ae .i64 (k + 1 : Nat) :: bV (J4 (.one .junk :: .one .junk :: []))), [.box [.pv (.str s.name), .pv (.lst (s.items.map XItem.e)), .pv (.int .i64 s.auto)], .box [.pv (.str []), .nil, .pv (.int .i64 0)], .box [.pv (.str (cJ s (ws.take (k + 1))).name), m7 ((cJ s (ws.take (k + 1))).items.map XItem.e), .pv (.int .i64 (cJ s (ws.take (k + 1))).auto)]]⟩ τ) [] (aq (aa Ph al) ah ft ⟨(.one .junk :: bJ (ws.map XWrite.e) :: .one .junk :: .one .junk :: .one (.ptr 1 0 0) :: .one (.ptr 2 0 0) :: ae .i64 k :: bV (J4 (.one .junk :: .one .junk :: []))), [.box [.pv (.str s.name), .pv (.lst (s.items.map XItem.e)), .pv (.int .i64 s.auto)], .box [.pv (.str []), .nil, .pv (.int .i64 0)], .box [.pv (.str (cJ s (ws.take k)).name), m7 ((cJ s (ws.take k)).items.map XItem.e), .pv (.int .i64 (cJ s (ws.take k)).auto)]]⟩) := by
 have e4k := t5 (w := ws[k]) hB h16 (nf h16 hs (ws := ws.take k) (fun w hx => hw w (List.mem_of_mem_take hx))) (hw _ (List.getElem_mem hk))
 have hwk := ag (k := k) (by omega)
 have hx := XWrite.e.eq_1 ws[k]
 rw [zD hk]
 generalize cJ s (ws.take k) = T at e4k ⊢
 have hno := Hx (s := T) (w := ws[k])
 unfold zo at e4k
 rcases fM 4 (T.items.map XItem.e) with ⟨r1, _, o3⟩ | ⟨_, _, o3⟩ <;> cases q : (iJ T ws[k]).2 <;> rw [q] at e4k
 ·rw [hno q, o3, r1] at e4k
  rw [hno q]
  simp only [o3]
  simp [ft, hk, hx, e4k, hwk]
  exact Kn.q [0, 1, 2]
 ·rcases fM 4 ((iJ T ws[k]).1.items.map XItem.e) with ⟨_, _, o4⟩ | ⟨_, _, o4⟩ <;> rw [r1, o4] at e4k <;> simp only [o3, o4] <;> simp [ft, hk, hx, e4k, hwk]
  ·exact Kn.q [0, 1, 2]
  ·exact Kn.q [0, 1, 2]
 ·rw [hno q, o3] at e4k
  rw [hno q]
  simp only [o3]
  simp [ft, hk, hx, e4k, hwk]
  exact Kn.q [0, 1, 2]
 ·rcases fM 4 ((iJ T ws[k]).1.items.map XItem.e) with ⟨_, _, o4⟩ | ⟨_, _, o4⟩ <;> rw [o4] at e4k <;> simp only [o3, o4] <;> simp [ft, hk, hx, e4k, hwk]
  ·exact Kn.q [0, 1, 2]
  ·exact Kn.q [0, 1, 2]
theorem rp {ws : List XWrite} (hB : B ≤ 1048576) (h16 : 16 ≤ B) (hs : s.Ok B) (hl : ws.length ≤ B) (hw : ∀ w ∈ ws, w.Ok B) : aa Ph al 311 [.agg [.pv (.str s.name), .pv (.lst (s.items.map XItem.e)), .pv (.int .i64 s.auto)], bJ (ws.map XWrite.e)] = some (tt (cJ s ws)) := by
 have e3 := lR hB hs
 unfold rt at e3
 unfold tt
 refine aw (fn := ll) rfl ?_
 rcases fM 4 (s.items.map XItem.e) with ⟨_, o1, o2⟩ | ⟨_, o1, o2⟩ <;> rw [o1] at e3
 ·simp [ll, e3]
  have step := fun k (hk : k < ws.length) => pK hB h16 hs hl hw hk
  refine ql bh Cl.fin ws.length [.f,.t,.f,.f,.t,.t,.t,.f,.f,.f,.f,.f,.f,.f,.f,.f,.f,.f,.f,.f,.f,.f,.f,.f,.f,.f,.f,.f,.f] (fun k => [(6, ae .i64 k)]) (fun k => [.box [.pv (.str s.name), .pv (.lst (s.items.map XItem.e)), .pv (.int .i64 s.auto)], .box [.pv (.str []), .nil, .pv (.int .i64 0)], .box [.pv (.str (cJ s (ws.take k)).name), m7 ((cJ s (ws.take k)).items.map XItem.e), .pv (.int .i64 (cJ s (ws.take k)).auto)]]) 0 rfl ?_ ?_ ?_ ?_
  ·exact Kn.q [0, 1, 2] (by simp [aY, aW, aX, bH, bI, bL, ca, br, dI, co, bQ, cu, L.ren, aA, cJ, o2])
  ·exact step
  ·simp [ft]
   exact Kn.q [0, 1, 2] (by rcases fM 4 ((cJ s ws).items.map XItem.e) with ⟨_, _, o3⟩ | ⟨_, _, o3⟩ <;> simp [aY, aW, aX, bH, bI, bL, ca, br, dI, co, bQ, cu, L.ren, aA, o3])
  ·rw [List.take_length]
   rcases fM 4 ((cJ s ws).items.map XItem.e) with ⟨_, _, o3⟩ | ⟨_, _, o3⟩ <;> simp only [o3] <;> simp
 ·simp [ll, e3]
  have step := fun k (hk : k < ws.length) => pK hB h16 hs hl hw hk
  refine ql bh Cl.fin ws.length [.f,.t,.f,.f,.t,.t,.t,.f,.f,.f,.f,.f,.f,.f,.f,.f,.f,.f,.f,.f,.f,.f,.f,.f,.f,.f,.f,.f,.f] (fun k => [(6, ae .i64 k)]) (fun k => [.box [.pv (.str s.name), .pv (.lst (s.items.map XItem.e)), .pv (.int .i64 s.auto)], .box [.pv (.str []), .nil, .pv (.int .i64 0)], .box [.pv (.str (cJ s (ws.take k)).name), m7 ((cJ s (ws.take k)).items.map XItem.e), .pv (.int .i64 (cJ s (ws.take k)).auto)]]) 0 rfl ?_ ?_ ?_ ?_
  ·exact Kn.q [0, 1, 2] (by simp [aY, aW, aX, bH, bI, bL, ca, br, dI, co, bQ, cu, L.ren, aA, cJ, o2])
  ·exact step
  ·simp [ft]
   exact Kn.q [0, 1, 2] (by rcases fM 4 ((cJ s ws).items.map XItem.e) with ⟨_, _, o3⟩ | ⟨_, _, o3⟩ <;> simp [aY, aW, aX, bH, bI, bL, ca, br, dI, co, bQ, cu, L.ren, aA, o3])
  ·rw [List.take_length]
   rcases fM 4 ((cJ s ws).items.map XItem.e) with ⟨_, _, o3⟩ | ⟨_, _, o3⟩ <;> simp only [o3] <;> simp
end
end Gi
namespace Gi
open Go Go.RowKit
set_option maxHeartbeats 16000000
set_option maxRecDepth 4000
section
variable {B : Nat} {s : XStore}
end
end Gi
