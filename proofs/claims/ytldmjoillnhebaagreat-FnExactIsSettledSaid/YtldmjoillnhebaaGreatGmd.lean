/- Calls: what goes in, what comes back. -/
import Derived.Test.YtldmjoillnhebaaGreatGmc
import Derived.Deep.LoopGhost
namespace Gi
open Go Go.RowKit
set_option linter.unusedVariables false
set_option linter.unusedSimpArgs false
variable {KI : KF}

/-- what a result may hold -/
def L.clean : L → Bool
  | .pv _ => true
  | .nil => true
  | .own _ _ => true
  | _ => false
def V.clean : V → Bool
  | .one l => l.clean
  | .agg ls => ls.all L.clean
  | .tup xs => xs.all fun x => x.2.all L.clean

def ArgsR [KF] (M : Nat → Prop) (w : World) (as : List V) (vals : List Value) : Prop :=
  as.length = vals.length ∧ ∀ (i : Nat) (x : V) (u : Value), as[i]? = some x → vals[i]? = some u → VR M w [] [] x u

def ResR [KF] (M0 : Nat → Prop) (base : Nat) (w : World) (r : V) (v : Value) : Prop :=
  ∃ ρ', HR M0 base w ρ' (thaw [] r).2 ∧ VR (Mu M0 ρ' (thaw [] r).2) w ρ' (thaw [] r).2 (thaw [] r).1 v

/-- The Go function f, at arguments that read as 'as', returns what reads as r; nothing that was there turns. -/
def Sound [KF] (Γ : Ctx) (P : Program) (f : FuncId) (as : List V) (r : V) : Prop :=
  r.clean = true ∧ ∀ (M0 : Nat → Prop) (w : World) (vals : Array Value), Γ.G w → (∀ b, M0 b → b < w.heap.size) → ArgsR M0 w as vals.toList →
    Calls P f vals w fun e w' => ∃ v, e = .returned v ∧ Below w.heap.size w w' ∧ ResR M0 w.heap.size w' r v

section
variable {Γ : Ctx} {P : Program} {M0 : Nat → Prop} {base : Nat} {σ : St} {a : Act} {w : World} {ρ : List (Option Nat)}

def shiftL (n : Nat) : L → L
  | .arr o => .arr (n + o)
  | l => l

theorem thawL_shift : ∀ (ls : List L) (g h : List AObj), ls.all L.clean = true → thawL (h ++ g) ls = ((thawL g ls).1.map (shiftL h.length), h ++ (thawL g ls).2)
  | [], g, h, _ => rfl
  | l :: ls, g, h, hc => by
    simp only [List.all_cons, Bool.and_eq_true] at hc
    cases l with
    | own z es =>
      have ih := thawL_shift ls (g ++ [.arr z es]) h hc.2
      simp only [thawL, List.append_assoc] at ih ⊢
      rw [ih]
      simp [shiftL]
    | pv p => simp only [thawL]; rw [thawL_shift ls g h hc.2]; simp [shiftL]
    | nil => simp only [thawL]; rw [thawL_shift ls g h hc.2]; simp [shiftL]
    | _ => simp [L.clean] at hc
theorem thawT_shift : ∀ (xs : List (Bool × List L)) (g h : List AObj), (xs.all fun x => x.2.all L.clean) = true → thawT (h ++ g) xs = ((thawT g xs).1.map (fun x => (x.1, x.2.map (shiftL h.length))), h ++ (thawT g xs).2)
  | [], g, h, _ => rfl
  | (b, ls) :: xs, g, h, hc => by
    simp only [List.all_cons, Bool.and_eq_true] at hc
    simp only [thawT]
    rw [thawL_shift ls g h hc.1]
    simp only
    rw [thawT_shift xs (thawL g ls).2 h hc.2]
    simp
def shiftV (n : Nat) : V → V
  | .one l => .one (shiftL n l)
  | .agg ls => .agg (ls.map (shiftL n))
  | .tup xs => .tup (xs.map fun x => (x.1, x.2.map (shiftL n)))
theorem thawL_one (h : List AObj) (l : L) : ∃ l' h', thawL h [l] = ([l'], h') := by cases l <;> exact ⟨_, _, rfl⟩
theorem thaw_shift (r : V) (h : List AObj) (hc : r.clean = true) : thaw h r = (shiftV h.length (thaw [] r).1, h ++ (thaw [] r).2) := by
  cases r with
  | one l =>
    have e := thawL_shift [l] [] h (by simpa [V.clean] using hc)
    simp only [List.append_nil] at e
    obtain ⟨l', h', e'⟩ := thawL_one [] l
    simp only [thaw, e, e', List.map_cons, List.map_nil, shiftV]
  | agg ls =>
    have e := thawL_shift ls [] h (by simpa [V.clean] using hc)
    simp only [List.append_nil] at e
    simp only [thaw, e, shiftV]
  | tup xs =>
    have e := thawT_shift xs [] h (by simpa [V.clean] using hc)
    simp only [List.append_nil] at e
    simp only [thaw, e, shiftV]

/-- what lies in a thawed result's heap: arrays -/
def allArr (h : List AObj) : Prop := ∀ ob ∈ h, ∃ z es, ob = .arr z es
theorem thawL_arr : ∀ (ls : List L) (g : List AObj), allArr g → allArr (thawL g ls).2
  | [], _, h => h
  | l :: ls, g, h => by
    cases l with
    | own z es =>
      simp only [thawL]
      refine thawL_arr ls _ (fun ob hob => ?_)
      rcases List.mem_append.1 hob with h1 | h1
      · exact h ob h1
      · simp at h1; exact ⟨z, es, h1⟩
    | _ => simp only [thawL]; exact thawL_arr ls g h
theorem thawT_arr : ∀ (xs : List (Bool × List L)) (g : List AObj), allArr g → allArr (thawT g xs).2
  | [], _, h => h
  | (b, ls) :: xs, g, h => by simp only [thawT]; exact thawT_arr xs _ (thawL_arr ls g h)
theorem thaw_arr (r : V) : allArr (thaw [] r).2 := by
  have h0 : allArr [] := fun ob h => by cases h
  cases r with
  | one l =>
    obtain ⟨l', h', e'⟩ := thawL_one [] l
    have := thawL_arr [l] [] h0
    simp only [thaw, e'] at this ⊢
    exact this
  | agg ls => exact thawL_arr ls [] h0
  | tup xs => exact thawT_arr xs [] h0
/-- the cells of a thawed result: data, nil, an array -/
def L.tame : L → Bool
  | .pv _ => true
  | .nil => true
  | .arr _ => true
  | _ => false
theorem thawL_tame : ∀ (ls : List L) (g : List AObj), ls.all L.clean = true → (thawL g ls).1.all L.tame = true
  | [], _, _ => rfl
  | l :: ls, g, hc => by
    simp only [List.all_cons, Bool.and_eq_true] at hc
    cases l with
    | own z es => simp only [thawL, List.all_cons, L.tame, Bool.true_and]; exact thawL_tame ls _ hc.2
    | pv p => simp only [thawL, List.all_cons, L.tame, Bool.true_and]; exact thawL_tame ls _ hc.2
    | nil => simp only [thawL, List.all_cons, L.tame, Bool.true_and]; exact thawL_tame ls _ hc.2
    | _ => simp [L.clean] at hc
theorem thawT_tame : ∀ (xs : List (Bool × List L)) (g : List AObj), (xs.all fun x => x.2.all L.clean) = true → ((thawT g xs).1.all fun x => x.2.all L.tame) = true
  | [], _, _ => rfl
  | (b, ls) :: xs, g, hc => by
    simp only [List.all_cons, Bool.and_eq_true] at hc
    simp only [thawT, List.all_cons, Bool.and_eq_true]
    exact ⟨thawL_tame ls g hc.1, thawT_tame xs _ hc.2⟩

/-- Two heaps, one behind the other: the caller's, and a result's. -/
theorem HR.join {h hr : List AObj} {ρr : List (Option Nat)} {w' : World} (k : HR M0 base w ρ h) (hb : Below w.heap.size w w') (kr : HR (Mu M0 ρ h) w.heap.size w' ρr hr) (ha : allArr hr) :
    HR M0 base w' (ρ ++ ρr) (h ++ hr) ∧ Ch (Mu M0 ρ h) (Mu M0 (ρ ++ ρr) (h ++ hr)) w w' ρ (ρ ++ ρr) h (h ++ hr) ∧ (∀ b, Mu M0 (ρ ++ ρr) (h ++ hr) b → Mu (Mu M0 ρ h) ρr hr b) := by
  have left : ∀ {i : Nat} {x : AObj}, i < h.length → (h ++ hr)[i]? = some x → h[i]? = some x := fun hi e => by rwa [List.getElem?_append_left hi] at e
  have leftr : ∀ {i : Nat} {x : Option Nat}, i < h.length → (ρ ++ ρr)[i]? = some x → ρ[i]? = some x := fun hi e => by rwa [List.getElem?_append_left (by rw [k.len]; exact hi)] at e
  have right : ∀ {i : Nat} {x : AObj}, ¬ i < h.length → (h ++ hr)[i]? = some x → hr[i - h.length]? = some x := fun hi e => by rwa [List.getElem?_append_right (by omega)] at e
  have rightr : ∀ {i : Nat} {x : Option Nat}, ¬ i < h.length → (ρ ++ ρr)[i]? = some x → ρr[i - h.length]? = some x := fun hi e => by rwa [List.getElem?_append_right (by rw [k.len]; omega), k.len] at e
  have mu : ∀ b, Mu M0 (ρ ++ ρr) (h ++ hr) b → Mu (Mu M0 ρ h) ρr hr b := by
    intro b hm
    rcases hm with hm | ⟨i, x, hi, hx, hri⟩
    · exact .inl (.inl hm)
    · by_cases hlt : i < h.length
      · exact .inl (.inr ⟨i, x, left hlt hi, hx, leftr hlt hri⟩)
      · exact .inr ⟨_, x, right hlt hi, hx, rightr hlt hri⟩
  have c : Ch (Mu M0 ρ h) (Mu M0 (ρ ++ ρr) (h ++ hr)) w w' ρ (ρ ++ ρr) h (h ++ hr) := by
    refine ⟨⟨hb.size, fun b hlt hm => ?_, fun b hlt _ => hb.block b hlt⟩, fun b cur hrw => ⟨cur, by obtain ⟨T, hr'⟩ := hrw; exact ⟨T, by rw [hb.block b (Row.lt ⟨T, hr'⟩)]; exact hr'⟩, rfl⟩, fun i q x h1 h2 => ?_⟩
    · rcases mu b hm with hm | ⟨i, x, hi, hx, hri⟩
      · exact hm
      · have := (kr.objs i x _ hi hri).base hx
        omega
    · have hlt : i < h.length := (List.getElem?_eq_some_iff.1 h2).1
      exact ⟨x, by rw [List.getElem?_append_left (by rw [k.len]; exact hlt)]; exact h1, by rw [List.getElem?_append_left hlt]; exact h2, Sim.refl _⟩
  refine ⟨⟨by simp [k.len, kr.len], k.old, Nat.le_trans k.le hb.size, fun i x q hi hq => ?_, fun i i' x x' b h1 h2 m1 m2 r1 r2 => ?_⟩, c, mu⟩
  · by_cases hlt : i < h.length
    · have kx := k.objs i x q (left hlt hi) (leftr hlt hq)
      exact kx.keep c (fun b e hd => hb.block b (by subst e; exact kx.lt hd))
    · have kx := kr.objs _ x q (right hlt hi) (rightr hlt hq)
      obtain ⟨z, es, rfl⟩ := ha x (List.mem_of_getElem? (right hlt hi))
      obtain ⟨hz, hes, kx⟩ := kx
      refine ⟨hz, hes, ?_⟩
      cases q with
      | none => exact kx
      | some b =>
        obtain ⟨hbase, cur, cap, g1, g2, g3, g4, g5⟩ := kx
        refine ⟨Nat.le_trans k.le hbase, cur, cap, g1, g2, g3, g4, fun i1 e1 j1 p1 he1 hp1 => ?_⟩
        obtain ⟨v, hv, hrd⟩ := g5 i1 e1 j1 p1 he1 hp1
        exact ⟨v, hv, hrd.weak mu⟩
  · by_cases l1 : i < h.length <;> by_cases l2 : i' < h.length
    · exact k.apart i i' x x' b (left l1 h1) (left l2 h2) m1 m2 (leftr l1 r1) (leftr l2 r2)
    · have e1 := (k.objs i x _ (left l1 h1) (leftr l1 r1)).lt (AObj.mut_live m1)
      have e2 := (kr.objs _ x' _ (right l2 h2) (rightr l2 r2)).base m2
      omega
    · have e1 := (k.objs i' x' _ (left l2 h2) (leftr l2 r2)).lt (AObj.mut_live m2)
      have e2 := (kr.objs _ x _ (right l1 h1) (rightr l1 r1)).base m1
      omega
    · have := kr.apart _ _ x x' b (right l1 h1) (right l2 h2) m1 m2 (rightr l1 r1) (rightr l2 r2)
      omega

theorem LR.shift {h hr : List AObj} {ρr : List (Option Nat)} {M M' : Nat → Prop} (hl : ρ.length = h.length) (mu : ∀ b, M' b → M b) {l : L} {v : Value} (ht : l.tame = true) (r : LR M w ρr hr l v) : LR M' w (ρ ++ ρr) (h ++ hr) (shiftL h.length l) v := by
  cases l with
  | pv p => exact Reads.weak mu r
  | nil => exact r
  | arr o =>
    obtain ⟨q, ob, h1, h2, hs⟩ := r
    refine ⟨q, ob, ?_, ?_, hs⟩
    · rw [List.getElem?_append_right (by omega), hl]; simpa using h1
    · rw [List.getElem?_append_right (by omega)]; simpa using h2
  | _ => simp [L.tame] at ht
theorem LRs.shift {h hr : List AObj} {ρr : List (Option Nat)} {M M' : Nat → Prop} (hl : ρ.length = h.length) (mu : ∀ b, M' b → M b) {ls : List L} {vs : List Value} (ht : ls.all L.tame = true) (r : LRs M w ρr hr ls vs) : LRs M' w (ρ ++ ρr) (h ++ hr) (ls.map (shiftL h.length)) vs := by
  refine ⟨by simpa using r.1, fun i l v hl' hv => ?_⟩
  simp only [List.getElem?_map, Option.map_eq_some_iff] at hl'
  obtain ⟨l0, h0, rfl⟩ := hl'
  exact (r.2 i l0 v h0 hv).shift hl mu ((List.all_eq_true.1 ht) l0 (List.mem_of_getElem? h0))
theorem VR.shift {h hr : List AObj} {ρr : List (Option Nat)} {M M' : Nat → Prop} (hl : ρ.length = h.length) (mu : ∀ b, M' b → M b) {x : V} {v : Value} (ht : (match x with | .one l => l.tame | .agg ls => ls.all L.tame | .tup xs => xs.all fun x => x.2.all L.tame) = true) (r : VR M w ρr hr x v) : VR M' w (ρ ++ ρr) (h ++ hr) (shiftV h.length x) v := by
  cases x with
  | one l => exact LR.shift hl mu ht r
  | agg ls => obtain ⟨cs, rfl, hr'⟩ := r; exact ⟨cs, rfl, hr'.shift hl mu ht⟩
  | tup xs =>
    obtain ⟨vs, rfl, h1, h2⟩ := r
    refine ⟨vs, rfl, by simpa using h1, fun i x u hx hu => ?_⟩
    simp only [List.getElem?_map, Option.map_eq_some_iff] at hx
    obtain ⟨x0, h0, rfl⟩ := hx
    have hth := (List.all_eq_true.1 ht) x0 (List.mem_of_getElem? h0)
    have := h2 i x0 u h0 hu
    obtain ⟨b, ls⟩ := x0
    cases b with
    | true => obtain ⟨cs, rfl, hr'⟩ := this; exact ⟨cs, rfl, hr'.shift hl mu hth⟩
    | false =>
      match ls, this, hth with
      | [l], this, hth => exact LR.shift hl mu (by simpa using hth) this
theorem thaw_tame (r : V) (hc : r.clean = true) : (match (thaw [] r).1 with | .one l => l.tame | .agg ls => ls.all L.tame | .tup xs => xs.all fun x => x.2.all L.tame) = true := by
  cases r with
  | one l =>
    obtain ⟨l', h', e'⟩ := thawL_one [] l
    have := thawL_tame [l] [] (by simpa [V.clean] using hc)
    simp only [thaw, e'] at this ⊢
    simpa using this
  | agg ls => exact thawL_tame ls [] (by simpa [V.clean] using hc)
  | tup xs => exact thawT_tame xs [] (by simpa [V.clean] using hc)

/-- what came back, as the caller's -/
theorem res_thaw {h : List AObj} {w' : World} {r : V} {v : Value} (k : HR M0 base w ρ h) (hb : Below w.heap.size w w') (hc : r.clean = true) (rr : ResR (Mu M0 ρ h) w.heap.size w' r v) :
    ∃ ρ', HR M0 base w' ρ' (thaw h r).2 ∧ Ch (Mu M0 ρ h) (Mu M0 ρ' (thaw h r).2) w w' ρ ρ' h (thaw h r).2 ∧ VR (Mu M0 ρ' (thaw h r).2) w' ρ' (thaw h r).2 (thaw h r).1 v := by
  obtain ⟨ρr, kr, vr⟩ := rr
  obtain ⟨g1, g2, g3⟩ := k.join hb kr (thaw_arr r)
  rw [thaw_shift r h hc]
  exact ⟨ρ ++ ρr, g1, g2, vr.shift k.len g3 (thaw_tame r hc)⟩

end
end Gi

/- Calls, continued: arguments as data, a result as plain data, the end of a function. -/
namespace Gi
open Go Go.RowKit
set_option linter.unusedVariables false
set_option linter.unusedSimpArgs false
variable {KI : KF}

section
variable {Γ : Ctx} {P : Program} {M0 : Nat → Prop} {base : Nat} {σ : St} {a : Act} {w : World} {ρ : List (Option Nat)}

theorem Mu.lt {h : List AObj} (k : HR M0 base w ρ h) {b : Nat} (hm : Mu M0 ρ h b) : b < w.heap.size := by
  rcases hm with hm | ⟨o, ob, ho, hmut, hr⟩
  · exact Nat.lt_of_lt_of_le (k.old b hm) k.le
  · exact (k.objs o ob _ ho hr).lt (AObj.mut_live hmut)

/-! ### A result as plain data -/
def ThAt (g : List AObj) (ls : List L) (q : List L × List AObj) : Prop :=
  q.1.length = ls.length ∧ (∃ t, q.2 = g ++ t) ∧
    ∀ (i : Nat) (l : L), ls[i]? = some l → ∃ l', q.1[i]? = some l' ∧ ((∃ z es o, l = .own z es ∧ l' = .arr o ∧ q.2[o]? = some (.arr z es)) ∨ ((∀ z es, l ≠ .own z es) ∧ l' = l))
theorem thawL_at : ∀ (ls : List L) (g : List AObj), ls.all L.clean = true → ThAt g ls (thawL g ls)
  | [], g, _ => ⟨rfl, ⟨[], by simp [thawL]⟩, fun i l hl => by simp at hl⟩
  | l :: ls, g, hc => by
    simp only [List.all_cons, Bool.and_eq_true] at hc
    have other : (∀ z es, l ≠ .own z es) → thawL g (l :: ls) = (l :: (thawL g ls).1, (thawL g ls).2) → ThAt g (l :: ls) (thawL g (l :: ls)) := fun hno e => by
      obtain ⟨h1, ⟨t, ht⟩, h3⟩ := thawL_at ls g hc.2
      rw [e]
      refine ⟨by simp [h1], ⟨t, ht⟩, fun i l' hl => ?_⟩
      cases i with
      | zero => simp at hl; subst hl; exact ⟨l, rfl, .inr ⟨hno, rfl⟩⟩
      | succ i => simpa using h3 i l' (by simpa using hl)
    cases l with
    | own z es =>
      obtain ⟨h1, ⟨t, ht⟩, h3⟩ := thawL_at ls (g ++ [.arr z es]) hc.2
      simp only [thawL]
      refine ⟨by simp [h1], ⟨[.arr z es] ++ t, by simp only; rw [ht, List.append_assoc]⟩, fun i l' hl => ?_⟩
      cases i with
      | zero =>
        simp at hl; subst hl
        refine ⟨.arr g.length, rfl, .inl ⟨z, es, g.length, rfl, rfl, ?_⟩⟩
        simp only
        rw [ht, List.append_assoc, List.getElem?_append_right (Nat.le_refl _)]
        simp
      | succ i => simpa using h3 i l' (by simpa using hl)
    | pv p => exact other (by simp) rfl
    | nil => exact other (by simp) rfl
    | _ => simp [L.clean] at hc

theorem setL_reads {h hr : List AObj} {ρr : List (Option Nat)} {w' : World} (k : HR M0 base w ρ h) (hb : Below w.heap.size w w') (kr : HR (Mu M0 ρ h) w.heap.size w' ρr hr) {l l' : L} {v : Value}
    (hl : (∃ z es o, l = .own z es ∧ l' = .arr o ∧ hr[o]? = some (.arr z es)) ∨ ((∀ z es, l ≠ .own z es) ∧ l' = l)) (hc : l.clean = true) (r : LR (Mu (Mu M0 ρ h) ρr hr) w' ρr hr l' v) : LR (Mu M0 ρ h) w' ρ h (setL l) v := by
  have weak : ∀ b, Mu M0 ρ h b → Mu (Mu M0 ρ h) ρr hr b := fun b hm => .inl hm
  rcases hl with ⟨z, es, o, rfl, rfl, ho⟩ | ⟨hno, rfl⟩
  · obtain ⟨q, ob, h1, h2, hs⟩ := r
    rw [ho] at h2; cases h2
    obtain ⟨hz, hes, kx⟩ := kr.objs o _ q ho h1
    simp only [setL]
    show Reads (Mu M0 ρ h) w' (.lst es) v
    cases q with
    | none =>
      obtain rfl : es = [] := kx
      simp only [SlVal] at hs; subst hs
      simp only [Reads]
      exact .inl ⟨by trivial, _, _, rfl⟩
    | some b =>
      obtain ⟨hbase, cur, cap, hrow, g1, g2, g3, g4⟩ := kx
      obtain ⟨cur', cap', hrow', _, hc', _, rfl⟩ := hs
      exact rows_reads hrow hes (fun hm => by have := Mu.lt k hm; omega) hc' (fun i e j p he hp => by
        obtain ⟨v, hv, hrd⟩ := g4 i e j p he hp
        exact ⟨v, hv, hrd.weak weak⟩)
  · cases l' with
    | pv p => exact Reads.weak weak r
    | nil => exact r
    | own z es => exact absurd rfl (hno z es)
    | _ => simp [L.clean] at hc

theorem setLs_reads {h : List AObj} {ρr : List (Option Nat)} {w' : World} (k : HR M0 base w ρ h) (hb : Below w.heap.size w w') {ls : List L} {vs : List Value} {g : List AObj} {hr : List AObj} (hhr : ∃ t, hr = (thawL g ls).2 ++ t) (kr : HR (Mu M0 ρ h) w.heap.size w' ρr hr) (hc : ls.all L.clean = true)
    (r : LRs (Mu (Mu M0 ρ h) ρr hr) w' ρr hr (thawL g ls).1 vs) : LRs (Mu M0 ρ h) w' ρ h (ls.map setL) vs := by
  obtain ⟨h1, _, h3⟩ := thawL_at ls g hc
  obtain ⟨t, ht⟩ := hhr
  refine ⟨by rw [List.length_map, ← h1]; exact r.1, fun i l v hl hv => ?_⟩
  simp only [List.getElem?_map, Option.map_eq_some_iff] at hl
  obtain ⟨l0, h0, rfl⟩ := hl
  obtain ⟨l', hl', hcase⟩ := h3 i l0 h0
  refine setL_reads k hb kr ?_ ((List.all_eq_true.1 hc) l0 (List.mem_of_getElem? h0)) (r.2 i l' v hl' hv)
  rcases hcase with ⟨z, es, o, e1, e2, e3⟩ | hcase
  · exact .inl ⟨z, es, o, e1, e2, by rw [ht, List.getElem?_append_left (List.getElem?_eq_some_iff.1 e3).1]; exact e3⟩
  · exact .inr hcase

theorem thawT_ext : ∀ (xs : List (Bool × List L)) (g : List AObj), (xs.all fun x => x.2.all L.clean) = true → ∃ t, (thawT g xs).2 = g ++ t
  | [], g, _ => ⟨[], by simp [thawT]⟩
  | (b, ls) :: xs, g, hc => by
    simp only [List.all_cons, Bool.and_eq_true] at hc
    obtain ⟨_, ⟨t, ht⟩, _⟩ := thawL_at ls g hc.1
    obtain ⟨t', ht'⟩ := thawT_ext xs (thawL g ls).2 hc.2
    exact ⟨t ++ t', by simp only [thawT]; rw [ht', ht, List.append_assoc]⟩

theorem thawT_at : ∀ (xs : List (Bool × List L)) (g : List AObj), (xs.all fun x => x.2.all L.clean) = true → (thawT g xs).1.length = xs.length ∧
    ∀ (i : Nat) (x : Bool × List L), xs[i]? = some x → ∃ g', (thawT g xs).1[i]? = some (x.1, (thawL g' x.2).1) ∧ ∃ t, (thawT g xs).2 = (thawL g' x.2).2 ++ t
  | [], g, _ => ⟨rfl, fun i x hx => by simp at hx⟩
  | (b, ls) :: xs, g, hc => by
    simp only [List.all_cons, Bool.and_eq_true] at hc
    obtain ⟨h1, h2⟩ := thawT_at xs (thawL g ls).2 hc.2
    simp only [thawT]
    refine ⟨by simp [h1], fun i x hx => ?_⟩
    cases i with
    | zero => simp at hx; subst hx; exact ⟨g, rfl, thawT_ext xs _ hc.2⟩
    | succ i => simpa using h2 i x (by simpa using hx)

theorem res_set {h : List AObj} {w' : World} {r : V} {v : Value} (k : HR M0 base w ρ h) (hb : Below w.heap.size w w') (hc : r.clean = true) (rr : ResR (Mu M0 ρ h) w.heap.size w' r v) : VR (Mu M0 ρ h) w' ρ h (setV r) v := by
  obtain ⟨ρr, kr, vr⟩ := rr
  cases r with
  | one l =>
    obtain ⟨l', h', e'⟩ := thawL_one [] l
    simp only [thaw, e'] at kr vr
    have hcl : [l].all L.clean = true := by simpa [V.clean] using hc
    obtain ⟨_, _, h3⟩ := thawL_at [l] [] hcl
    obtain ⟨l'', hl'', hcase⟩ := h3 0 l rfl
    rw [e'] at hl'' hcase
    simp at hl''; subst hl''
    exact setL_reads k hb kr hcase (by simpa using hcl) vr
  | agg ls =>
    obtain ⟨cs, rfl, hl⟩ := vr
    exact ⟨cs, rfl, setLs_reads k hb ⟨[], by simp [thaw]⟩ kr (by simpa [V.clean] using hc) hl⟩
  | tup xs =>
    have hcl : (xs.all fun x => x.2.all L.clean) = true := by simpa [V.clean] using hc
    obtain ⟨vs, rfl, h1, h2⟩ := vr
    obtain ⟨t1, t2⟩ := thawT_at xs [] hcl
    refine ⟨vs, rfl, ?_, fun i x u hx hu => ?_⟩
    · simp only [setV, List.length_map]; rw [← t1]; exact h1
    · simp only [List.getElem?_map, Option.map_eq_some_iff] at hx
      obtain ⟨x0, h0, rfl⟩ := hx
      obtain ⟨g', e1, e2⟩ := t2 i x0 h0
      have := h2 i _ u e1 hu
      have hx0 := (List.all_eq_true.1 hcl) x0 (List.mem_of_getElem? h0)
      obtain ⟨b, ls⟩ := x0
      cases b with
      | true => obtain ⟨cs, rfl, hr'⟩ := this; exact ⟨cs, rfl, setLs_reads k hb e2 kr hx0 hr'⟩
      | false =>
        match ls, this, hx0, e2 with
        | [l], this, hx0, e2 =>
          obtain ⟨l', h', e'⟩ := thawL_one g' l
          simp only [e'] at this
          obtain ⟨_, _, h3⟩ := thawL_at [l] g' hx0
          obtain ⟨l'', hl'', hcase⟩ := h3 0 l rfl
          rw [e'] at hl'' hcase
          simp at hl''; subst hl''
          obtain ⟨t, ht⟩ := e2
          refine setL_reads k hb kr ?_ (by simpa using hx0) this
          rcases hcase with ⟨z, es, o, q1, q2, q3⟩ | hcase
          · refine .inl ⟨z, es, o, q1, q2, ?_⟩
            have : (thaw [] (V.tup xs)).2 = (thawT [] xs).2 := rfl
            rw [this, ht, e', List.getElem?_append_left (List.getElem?_eq_some_iff.1 q3).1]
            exact q3
          · exact .inr hcase
        | [], this, _, _ => exact this.elim
        | l1 :: l2 :: ls', this, hx0, _ =>
          have hlen := (thawL_at (l1 :: l2 :: ls') g' hx0).1
          revert this
          generalize (thawL g' (l1 :: l2 :: ls')).1 = q at hlen
          intro this
          match q, hlen, this with
          | _ :: _ :: _, _, this => exact this.elim

/-! ### Arguments -/
theorem CapR.weak {M M' : Nat → Prop} (h : ∀ b, M' b → M b) {e : List PV} {u : Value} (r : CapR M w e u) : CapR M' w e u :=
  r.go ⟨Nat.le_refl _, fun b _ => h b, fun _ _ _ => rfl⟩
theorem CapR.arg {M : Nat → Prop} {e : List PV} {u : Value} (r : CapR M w e u) : VR M w [] [] (capV e) u := by
  obtain ⟨b, o, rfl, hb, hlt, hr⟩ := r
  exact ⟨b, o, rfl, hb, hlt, hr⟩

theorem view_args {h : List AObj} {M : Nat → Prop} : ∀ {vs as : List V} {us : List Value}, viewArgs h vs = some as → vs.length = us.length → (∀ (i : Nat) (v : V) (u : Value), vs[i]? = some v → us[i]? = some u → VR (Mu M0 ρ h) w ρ h v u) →
    (∀ (v : V) (l : L) (p : PV) (u : Value), v ∈ vs → l ∈ v.cells → LR (Mu M0 ρ h) w ρ h l u → l.view h = some p → Reads M w p u) → (∀ e u, CapR (Mu M0 ρ h) w e u → CapR M w e u) → ArgsR M w as us
  | [], as, us, e, hl, _, _, _ => by
    simp [viewArgs] at e; subst e
    exact ⟨hl, fun i x u hx => by simp at hx⟩
  | v :: vs, as, [], e, hl, _, _, _ => by simp at hl
  | v :: vs, as, u :: us, e, hl, hvr, hrd, hcap => by
    unfold viewArgs at e
    split at e
    · rename_i p ps h1 h2
      cases e
      obtain ⟨i1, i2⟩ := view_args h2 (by simpa using hl) (fun i v' u' hv hu => hvr (i + 1) v' u' (by simpa using hv) (by simpa using hu)) (fun v' l p u' hv => hrd v' l p u' (by simp [hv])) hcap
      refine ⟨by simp [i1], fun i x u' hx hu => ?_⟩
      cases i with
      | succ i => exact i2 i x u' (by simpa using hx) (by simpa using hu)
      | zero =>
        simp at hx hu
        subst hx; subst hu
        have r := hvr 0 v u rfl rfl
        cases v with
        | one l =>
          by_cases hfn : ∃ k caps, l = .fn k caps
          · obtain ⟨k, caps, rfl⟩ := hfn
            simp only [V.view] at h1
            cases h1
            obtain ⟨f, cs, rfl, hk, hl2, hc⟩ := r
            refine ⟨f, cs, rfl, hk, hl2, fun i e u' he hu' => ?_⟩
            exact hcap _ _ (hc i e u' he hu')
          · have h1' : (match l.view h with | some p => some (V.one (.pv p)) | none => none) = some p := by
              cases l with
              | fn k caps => exact absurd ⟨k, caps, rfl⟩ hfn
              | _ => exact h1
            split at h1'
            · rename_i q hq
              cases h1'
              exact hrd (.one l) l q u (by simp) (by simp [V.cells]) r hq
            · cases h1'
        | agg ls =>
          simp only [V.view] at h1
          split at h1
          · rename_i qs hqs
            cases h1
            obtain ⟨cs, rfl, hls⟩ := r
            obtain ⟨e1, e2⟩ := viewL_at hqs
            refine ⟨cs, rfl, by rw [List.length_map, e1]; exact hls.1, fun j l c hl' hc => ?_⟩
            simp only [List.getElem?_map, Option.map_eq_some_iff] at hl'
            obtain ⟨q, hq, rfl⟩ := hl'
            have hj : j < ls.length := by rw [← e1]; exact (List.getElem?_eq_some_iff.1 hq).1
            have hlj : ls[j]? = some ls[j] := by simp [hj]
            obtain ⟨q', hq', hv'⟩ := e2 j _ hlj
            rw [hq] at hq'; cases hq'
            exact hrd (.agg ls) ls[j] q c (by simp) (List.getElem_mem hj) (hls.2 j _ c hlj hc) hv'
          · cases h1
        | tup xs => cases h1
    · cases e

/-! ### A function's beginning -/
theorem Mu.nil (b : Nat) : Mu M0 [] [] b ↔ M0 b := by simp [Mu]
theorem start_sound {fn : AFn} {as : List V} {vals : Array Value} (hG : Γ.G w) (h0 : ∀ b, M0 b → b < w.heap.size) (ha : ArgsR M0 w as vals.toList) :
    SR Γ M0 w.heap.size (start fn as) { tmps := vals ++ Array.replicate (fn.ntmps - vals.size) undef, defers := [] } w [] := by
  have hl : as.length = vals.size := by rw [ha.1]; simp
  refine ⟨⟨rfl, h0, Nat.le_refl _, fun o ob r ho => by simp [start] at ho, fun o o' ob ob' b ho => by simp [start] at ho⟩, ⟨rfl, by simp [start, hl], fun i v u hv hu => ?_⟩, hG, Γ.size w hG⟩
  have weak : ∀ {x : V} {u : Value}, VR M0 w [] [] x u → VR (Mu M0 [] []) w [] [] x u := fun r => r.ch ⟨⟨Nat.le_refl _, fun b _ hm => (Mu.nil b).1 hm, fun _ _ _ => rfl⟩, fun _ cur hr => ⟨cur, hr, rfl⟩, fun o r ob hr => by simp at hr⟩
  simp only [start] at hv
  by_cases hi : i < as.length
  · rw [List.getElem?_append_left hi] at hv
    rw [Array.getElem?_append_left (by omega)] at hu
    exact weak (ha.2 i v u hv (by simpa using hu))
  · rw [List.getElem?_append_right (by omega)] at hv
    rw [Array.getElem?_append_right (by omega)] at hu
    have e1 : v = .tup [] := by
      have := (List.getElem?_eq_some_iff.1 hv).2
      simp at this; exact this.symm
    have e2 : u = undef := by
      have := (Array.getElem?_eq_some_iff.1 hu).2
      simp at this; exact this.symm
    rw [e1, e2]
    exact VR.undef

end
end Gi

/- The end of a function: its results. -/
namespace Gi
open Go Go.RowKit
set_option linter.unusedVariables false
set_option linter.unusedSimpArgs false
variable {KI : KF}

section
variable {Γ : Ctx} {P : Program} {M0 : Nat → Prop} {base : Nat} {σ : St} {a : Act} {w : World} {ρ : List (Option Nat)}

def gobj (h : List AObj) (o : Nat) : AObj := (h[o]?).getD .dead
def gblk (ρ : List (Option Nat)) (o : Nat) : Option Nat := (ρ[o]?).getD none

theorem HR.sub {h : List AObj} (k : HR M0 base w ρ h) {os : List Nat} (ho : ∀ o ∈ os, ∃ z es, h[o]? = some (.arr z es)) (hn : os.Nodup) :
    HR M0 base w (os.map (gblk ρ)) (os.map (gobj h)) ∧ (∀ b, Mu M0 (os.map (gblk ρ)) (os.map (gobj h)) b → Mu M0 ρ h b) := by
  have get : ∀ {i : Nat} {x : AObj} {r : Option Nat}, (os.map (gobj h))[i]? = some x → (os.map (gblk ρ))[i]? = some r → ∃ o z es, os[i]? = some o ∧ h[o]? = some x ∧ x = .arr z es ∧ ρ[o]? = some r := by
    intro i x r hx hr
    simp only [List.getElem?_map, Option.map_eq_some_iff] at hx hr
    obtain ⟨o, h1, rfl⟩ := hx
    obtain ⟨o', h2, rfl⟩ := hr
    rw [h1] at h2; cases h2
    obtain ⟨z, es, hz⟩ := ho o (List.mem_of_getElem? h1)
    obtain ⟨r, hr⟩ := k.mem hz
    exact ⟨o, z, es, h1, by simp [gobj, hz], by simp [gobj, hz], by simp [gblk, hr]⟩
  have mu : ∀ b, Mu M0 (os.map (gblk ρ)) (os.map (gobj h)) b → Mu M0 ρ h b := by
    intro b hm
    rcases hm with hm | ⟨i, x, hi, hx, hri⟩
    · exact .inl hm
    · obtain ⟨o, z, es, _, h1, _, h2⟩ := get hi hri
      exact .inr ⟨o, x, h1, hx, h2⟩
  refine ⟨⟨by simp, k.old, k.le, fun i x r hi hr => ?_, fun i i' x x' b h1 h2 m1 m2 r1 r2 => ?_⟩, mu⟩
  · obtain ⟨o, z, es, _, h1, rfl, h2⟩ := get hi hr
    obtain ⟨hz, hes, kx⟩ := k.objs o _ r h1 h2
    refine ⟨hz, hes, ?_⟩
    cases r with
    | none => exact kx
    | some b =>
      obtain ⟨g0, cur, cap, g1, g2, g3, g4, g5⟩ := kx
      exact ⟨g0, cur, cap, g1, g2, g3, g4, fun i1 e1 j1 p1 he1 hp1 => by
        obtain ⟨v, hv, hrd⟩ := g5 i1 e1 j1 p1 he1 hp1
        exact ⟨v, hv, hrd.weak mu⟩⟩
  · obtain ⟨o, _, _, p1, q1, _, s1⟩ := get h1 r1
    obtain ⟨o', _, _, p2, q2, _, s2⟩ := get h2 r2
    have e := k.apart o o' x x' b q1 q2 m1 m2 s1 s2
    subst e
    exact (List.getElem?_inj (List.getElem?_eq_some_iff.1 p1).1 hn).1 (p1.trans p2.symm)

/-- the arrays that are handed over -/
def muts (h : List AObj) (ls : List L) : List Nat := ls.filterMap fun
  | .arr o => match h[o]? with
    | some (.arr _ _) => some o
    | _ => none
  | _ => none

def Rel (h : List AObj) (OS : List Nat) (l l' : L) : Prop :=
  match l with
  | .pv p => l' = .pv p
  | .nil => l' = .nil
  | .arr o => (∃ z es q, h[o]? = some (.arr z es) ∧ l' = .arr q ∧ OS[q]? = some o) ∨ (∃ z es, h[o]? = some (.froz z es) ∧ l' = .pv (.lst es))
  | _ => False
theorem Rel.mono {h : List AObj} {OS t : List Nat} {l l' : L} (r : Rel h OS l l') : Rel h (OS ++ t) l l' := by
  cases l with
  | arr o =>
    rcases r with ⟨z, es, q, h1, h2, h3⟩ | r
    · exact .inl ⟨z, es, q, h1, h2, by rw [List.getElem?_append_left (List.getElem?_eq_some_iff.1 h3).1]; exact h3⟩
    · exact .inr r
  | _ => exact r

def Gave (h : List AObj) (OS : List Nat) (ls : List L) (q : List L × List AObj) : Prop :=
  q.2 = OS.map (gobj h) ∧ q.1.length = ls.length ∧ ∀ (i : Nat) (l : L), ls[i]? = some l → ∃ l', q.1[i]? = some l' ∧ Rel h OS l l'

theorem give_thaw {h : List AObj} : ∀ (ls xs : List L) (os : List Nat), giveLs h ls = some xs → xs.all L.clean = true ∧ Gave h (os ++ muts h ls) ls (thawL (os.map (gobj h)) xs)
  | [], xs, os, e => by
    simp [giveLs] at e; subst e
    exact ⟨rfl, by simp [muts, thawL], rfl, fun i l hl => by simp at hl⟩
  | l :: ls, xs, os, e => by
    unfold giveLs at e
    split at e
    · rename_i x xs' h1 h2
      cases e
      have other : muts h (l :: ls) = muts h ls → x.clean = true → (∀ g, thawL g (x :: xs') = (x :: (thawL g xs').1, (thawL g xs').2)) → (∀ OS, Rel h OS l x) → (x :: xs').all L.clean = true ∧ Gave h (os ++ muts h (l :: ls)) (l :: ls) (thawL (os.map (gobj h)) (x :: xs')) := by
        intro em hc et hr
        obtain ⟨i0, i1, i2, i3⟩ := give_thaw ls xs' os h2
        rw [em, et]
        refine ⟨by simp only [List.all_cons, hc, i0, Bool.and_self], i1, by simp [i2], fun i l1 hl1 => ?_⟩
        cases i with
        | zero => simp at hl1; subst hl1; exact ⟨x, rfl, hr _⟩
        | succ i => simpa using i3 i l1 (by simpa using hl1)
      cases l with
      | pv p => simp only [giveL] at h1; cases h1; exact other rfl rfl (fun _ => rfl) (fun _ => rfl)
      | nil => simp only [giveL] at h1; cases h1; exact other rfl rfl (fun _ => rfl) (fun _ => rfl)
      | arr o =>
        simp only [giveL] at h1
        split at h1
        · rename_i z es ho
          cases h1
          obtain ⟨i0, i1, i2, i3⟩ := give_thaw ls xs' (os ++ [o]) h2
          have em : muts h (.arr o :: ls) = o :: muts h ls := by simp [muts, ho]
          have eg : os.map (gobj h) ++ [AObj.arr z es] = (os ++ [o]).map (gobj h) := by simp [gobj, ho]
          rw [em]
          have eo : os ++ o :: muts h ls = os ++ [o] ++ muts h ls := by simp
          refine ⟨by simp only [List.all_cons, L.clean, i0, Bool.and_self], ?_⟩
          simp only [thawL]
          rw [eg, eo]
          refine ⟨i1, by rw [List.length_cons, List.length_cons, i2], fun i l1 hl1 => ?_⟩
          cases i with
          | zero =>
            simp at hl1; subst hl1
            refine ⟨_, rfl, .inl ⟨z, es, (os.map (gobj h)).length, ho, rfl, ?_⟩⟩
            simp
          | succ i =>
            obtain ⟨l', h3, h4⟩ := i3 i l1 (by simpa using hl1)
            exact ⟨l', by rw [List.getElem?_cons_succ]; exact h3, h4⟩
        · rename_i z es ho
          cases h1
          exact other (by simp [muts, ho]) rfl (fun _ => rfl) (fun _ => .inr ⟨z, es, ho, rfl⟩)
        · cases h1
      | _ => cases h1
    · cases e

theorem Rel.lr {h : List AObj} (k : HR M0 base w ρ h) {OS : List Nat} (mu : ∀ b, Mu M0 (OS.map (gblk ρ)) (OS.map (gobj h)) b → Mu M0 ρ h b) {l l' : L} {u : Value} (r : Rel h OS l l') (hl : LR (Mu M0 ρ h) w ρ h l u) :
    LR (Mu M0 (OS.map (gblk ρ)) (OS.map (gobj h))) w (OS.map (gblk ρ)) (OS.map (gobj h)) l' u := by
  cases l with
  | pv p => simp only [Rel] at r; subst r; exact Reads.weak mu hl
  | nil => simp only [Rel] at r; subst r; exact hl
  | arr o =>
    rcases r with ⟨z, es, q, h1, rfl, h3⟩ | ⟨z, es, h1, rfl⟩
    · obtain ⟨r0, ob, hr0, hob, hs⟩ := hl
      rw [h1] at hob; cases hob
      exact ⟨r0, .arr z es, by simp [h3, gblk, hr0], by simp [h3, gobj, h1], hs⟩
    · exact Reads.weak mu (view_mu k hl (by simp [L.view, h1]) (by simp [L.mut, h1]))
  | _ => exact r.elim

def V.isAgg : V → Bool
  | .agg _ => true
  | _ => false
/-- several results -/
theorem comps_thaw {h : List AObj} : ∀ (vs : List V) (xs : List (Bool × List L)) (os : List Nat), comps h vs = some xs → (xs.all fun x => x.2.all L.clean) = true ∧
    (thawT (os.map (gobj h)) xs).2 = (os ++ muts h (vs.flatMap V.cells)).map (gobj h) ∧ (thawT (os.map (gobj h)) xs).1.length = vs.length ∧
    ∀ (i : Nat) (v : V), vs[i]? = some v → ∃ ls', (thawT (os.map (gobj h)) xs).1[i]? = some (v.isAgg, ls') ∧ (∀ t, v ≠ .tup t) ∧ ls'.length = v.cells.length ∧ ∀ (j : Nat) (l : L), v.cells[j]? = some l → ∃ l', ls'[j]? = some l' ∧ Rel h (os ++ muts h (vs.flatMap V.cells)) l l'
  | [], xs, os, e => by
    simp [comps] at e; subst e
    exact ⟨rfl, by simp [thawT, muts], rfl, fun i v hv => by simp at hv⟩
  | v :: vs, xs, os, e => by
    unfold comps at e
    split at e
    · rename_i x xs' h1 h2
      cases e
      have key : ∃ ls', giveLs h v.cells = some ls' ∧ x = (v.isAgg, ls') ∧ ∀ t, v ≠ .tup t := by
        cases v with
        | one l =>
          simp only [comp] at h1
          split at h1
          · rename_i ys hys; cases h1; exact ⟨ys, hys, rfl, by simp⟩
          · cases h1
        | agg ls =>
          simp only [comp] at h1
          split at h1
          · rename_i ys hys; cases h1; exact ⟨ys, hys, rfl, by simp⟩
          · cases h1
        | tup t => cases h1
      obtain ⟨ls', hg, rfl, hnt⟩ := key
      obtain ⟨c0, g1, g2, g3⟩ := give_thaw v.cells ls' os hg
      obtain ⟨i0, i1, i2, i3⟩ := comps_thaw vs xs' (os ++ muts h v.cells) h2
      have em : os ++ muts h ((v :: vs).flatMap V.cells) = os ++ muts h v.cells ++ muts h (vs.flatMap V.cells) := by simp [muts]
      rw [em]
      simp only [thawT]
      rw [g1]
      refine ⟨by simp only [List.all_cons, c0, i0, Bool.and_self], i1, by rw [List.length_cons, List.length_cons, i2], fun i v' hv' => ?_⟩
      cases i with
      | zero =>
        simp at hv'; subst hv'
        refine ⟨_, rfl, hnt, g2, fun j l hl => ?_⟩
        obtain ⟨l', h3, h4⟩ := g3 j l hl
        exact ⟨l', h3, h4.mono⟩
      | succ i =>
        obtain ⟨ls2, q1, q2⟩ := i3 i v' (by simpa using hv')
        exact ⟨ls2, by rw [List.getElem?_cons_succ]; exact q1, q2⟩
    · cases e

theorem muts_sub {h : List AObj} {ls : List L} : (muts h ls).Sublist (arrsOf ls) := by
  induction ls with
  | nil => exact List.Sublist.slnil
  | cons l ls ih =>
    cases l with
    | arr o =>
      simp only [arrsOf, List.filterMap_cons]
      by_cases hm : ∃ z es, h[o]? = some (.arr z es)
      · obtain ⟨z, es, hm⟩ := hm
        simp only [muts, List.filterMap_cons, hm]
        exact List.Sublist.cons_cons o ih
      · have : muts h (.arr o :: ls) = muts h ls := by
          simp only [muts, List.filterMap_cons]
          cases ho : h[o]? with
          | none => rfl
          | some ob =>
            cases ob with
            | arr z es => exact absurd ⟨z, es, ho⟩ hm
            | _ => rfl
        rw [this]
        exact List.Sublist.cons o ih
    | _ => exact ih
theorem muts_arr {h : List AObj} {ls : List L} : ∀ o ∈ muts h ls, ∃ z es, h[o]? = some (.arr z es) := by
  intro o ho
  simp only [muts, List.mem_filterMap] at ho
  obtain ⟨l, _, hl⟩ := ho
  split at hl
  · split at hl
    · rename_i z es hz; cases hl; exact ⟨z, es, hz⟩
    · cases hl
  · cases hl

def resF (a : Act) : ResultVar → Sem Value
  | .tmp t => pure (a.tmps.getD t undef)
  | .cell ad t => do loadVar t (← asAddr (a.tmps.getD ad undef))
theorem results_eq (fn : Func) (a : Act) : results fn a.tmps = (do let vs ← fn.results.mapM (resF a); pure (if h : vs.size = 1 then vs[0] else .tuple vs)) := by
  unfold results
  congr 1

theorem resultOf_sound (s : SR Γ M0 base σ a w ρ) {rv : ResultVar} {r : ARes} {x : V} (hc : cRes P rv = some r) (hr : resultOf σ r = some x) :
    ∃ u, (resF a rv).run P w = .ok u w ∧ VR (Mu M0 ρ σ.h) w ρ σ.h x u := by
  cases rv with
  | tmp t =>
    cases hc
    simp only [resultOf] at hr
    cases hr
    exact ⟨a.eval (.tmp t), by simp [resF, Act.eval], s.fr.eval t⟩
  | cell ad ty =>
    simp only [cRes] at hc
    split at hc
    · rename_i n h1 h2
      cases hc
      simp only [resultOf] at hr
      obtain ⟨u', hu', ⟨b, off, e⟩, hv⟩ := loadAt_sound s h1 h2 (s.fr.eval ad) hr
      refine ⟨u', ?_, hv⟩
      have e' : a.tmps.getD ad undef = .pointer (some ⟨b, off, none⟩) := e
      rw [e] at hu'
      simp only [resF, e', asAddr, Sem.run_bind, Sem.run_pure, Result.andThen_ok]
      exact hu'
    · cases hc

theorem results_mapM (s : SR Γ M0 base σ a w ρ) : ∀ {rvs : List ResultVar} {rs : List ARes} {xs : List V}, optM (cRes P) rvs = some rs → resultsOf σ rs = some xs →
    ∃ us : List Value, (rvs.mapM (resF a)).run P w = .ok us w ∧ us.length = xs.length ∧
      ∀ (i : Nat) (x : V) (u : Value), xs[i]? = some x → us[i]? = some u → VR (Mu M0 ρ σ.h) w ρ σ.h x u
  | [], rs, xs, h1, h2 => by
    simp [optM] at h1; subst h1
    simp [resultsOf] at h2; subst h2
    exact ⟨[], by simp, rfl, fun i x u hx => by simp at hx⟩
  | rv :: rvs, rs, xs, h1, h2 => by
    unfold optM at h1
    split at h1
    · rename_i r rs' e1 e2
      cases h1
      unfold resultsOf at h2
      split at h2
      · rename_i x xs' e3 e4
        cases h2
        obtain ⟨u, hu, hv⟩ := resultOf_sound s e1 e3
        obtain ⟨us, i1, i2, i3⟩ := results_mapM s e2 e4
        refine ⟨u :: us, ?_, by simp [i2], fun i x' u' hx hu' => ?_⟩
        · rw [List.mapM_cons, Sem.run_bind, hu, Result.andThen_ok, Sem.run_bind, i1]
          simp
        · cases i with
          | zero => simp at hx hu'; subst hx; subst hu'; exact hv
          | succ i => exact i3 i x' u' (by simpa using hx) (by simpa using hu')
      · cases h2
    · cases h1

theorem finish_sound (s : SR Γ M0 base σ a w ρ) {fn : Func} {rs : List ARes} {r : V} (hc : optM (cRes P) fn.results.toList = some rs) (hf : finish σ rs = some r) :
    r.clean = true ∧ ∃ v, (results fn a.tmps).run P w = .ok v w ∧ ResR M0 base w r v := by
  unfold finish at hf
  split at hf
  · cases hf
  · rename_i xs hxs
    split at hf
    · rename_i hnd
      obtain ⟨us, hu1, hu2, hu3⟩ := results_mapM s hc hxs
      have hres : (results fn a.tmps).run P w = .ok (if h : us.toArray.size = 1 then us.toArray[0] else .tuple us.toArray) w := by
        rw [results_eq, Array.mapM_eq_mapM_toList]
        simp only [Sem.run_bind, Sem.run_map, hu1, Result.andThen_ok, Sem.run_pure]
      have hOS : ∀ {ys}, comps σ.h xs = some ys → HR M0 base w ((muts σ.h (xs.flatMap V.cells)).map (gblk ρ)) ((muts σ.h (xs.flatMap V.cells)).map (gobj σ.h)) ∧
          (∀ b, Mu M0 ((muts σ.h (xs.flatMap V.cells)).map (gblk ρ)) ((muts σ.h (xs.flatMap V.cells)).map (gobj σ.h)) b → Mu M0 ρ σ.h b) := fun _ => s.hr.sub muts_arr (muts_sub.nodup hnd)
      have main : ∀ {ys : List (Bool × List L)}, comps σ.h xs = some ys → (ys.all fun x => x.2.all L.clean) = true ∧ (thawT [] ys).2 = (muts σ.h (xs.flatMap V.cells)).map (gobj σ.h) ∧ (thawT [] ys).1.length = xs.length ∧
          ∀ (i : Nat) (x : V) (u : Value), xs[i]? = some x → us[i]? = some u → ∃ ls', (thawT [] ys).1[i]? = some (x.isAgg, ls') ∧
            (match (x.isAgg, ls') with
              | (true, ls) => ∃ cs, u = .agg cs ∧ LRs (Mu M0 ((muts σ.h (xs.flatMap V.cells)).map (gblk ρ)) ((muts σ.h (xs.flatMap V.cells)).map (gobj σ.h))) w ((muts σ.h (xs.flatMap V.cells)).map (gblk ρ)) ((muts σ.h (xs.flatMap V.cells)).map (gobj σ.h)) ls cs.toList
              | (false, [l]) => LR (Mu M0 ((muts σ.h (xs.flatMap V.cells)).map (gblk ρ)) ((muts σ.h (xs.flatMap V.cells)).map (gobj σ.h))) w ((muts σ.h (xs.flatMap V.cells)).map (gblk ρ)) ((muts σ.h (xs.flatMap V.cells)).map (gobj σ.h)) l u
              | _ => False) := by
        intro ys hys
        obtain ⟨c1, c2, c3, c4⟩ := comps_thaw xs ys [] hys
        simp only [List.map_nil, List.nil_append] at c2 c3 c4
        obtain ⟨_, mu⟩ := hOS hys
        refine ⟨c1, c2, c3, fun i x u hx hu => ?_⟩
        obtain ⟨ls', d1, d2, d3, d4⟩ := c4 i x hx
        refine ⟨ls', d1, ?_⟩
        have r := hu3 i x u hx hu
        cases x with
        | one l =>
          simp only [V.isAgg, V.cells] at d3 d4 ⊢
          match ls', d3, d4 with
          | [l'], _, d4 =>
            obtain ⟨l2, e1, e2⟩ := d4 0 l rfl
            simp at e1; subst e1
            exact e2.lr s.hr mu r
        | agg ls =>
          obtain ⟨cs, rfl, hl⟩ := r
          simp only [V.isAgg, V.cells] at d3 d4 ⊢
          refine ⟨cs, rfl, by rw [d3]; exact hl.1, fun j l' c hl' hc' => ?_⟩
          have hj : j < ls.length := by rw [← d3]; exact (List.getElem?_eq_some_iff.1 hl').1
          obtain ⟨l2, e1, e2⟩ := d4 j ls[j] (by simp [hj])
          rw [hl'] at e1; cases e1
          exact e2.lr s.hr mu (hl.2 j _ c (by simp [hj]) hc')
        | tup t => exact absurd rfl (d2 t)
      split at hf
      · rename_i ls hys
        cases hf
        obtain ⟨c1, c2, c3, c4⟩ := main hys
        obtain ⟨hsub, _⟩ := hOS hys
        have hx1 : xs.length = 1 := by rw [← c3]; simp [thawT]
        obtain ⟨x, hx⟩ := List.length_eq_one_iff.1 hx1
        obtain ⟨u, hu⟩ := List.length_eq_one_iff.1 (hu2.trans hx1)
        obtain ⟨ls', d1, d2⟩ := c4 0 x u (by rw [hx]; rfl) (by rw [hu]; rfl)
        have d1' : some (true, (thawL [] ls).1) = some (x.isAgg, ls') := d1
        simp only [Option.some.injEq, Prod.mk.injEq] at d1'
        obtain ⟨d0, rfl⟩ := d1'
        rw [← d0] at d2
        have e2 : (thaw [] (V.agg ls)).2 = (muts σ.h (xs.flatMap V.cells)).map (gobj σ.h) := c2
        refine ⟨by simpa [V.clean] using c1, u, by rw [hres, hu]; rfl, (muts σ.h (xs.flatMap V.cells)).map (gblk ρ), ?_, ?_⟩
        · rw [e2]; exact hsub
        · rw [e2]; exact d2
      · rename_i l hys
        cases hf
        obtain ⟨c1, c2, c3, c4⟩ := main hys
        obtain ⟨hsub, _⟩ := hOS hys
        have hx1 : xs.length = 1 := by rw [← c3]; simp [thawT]
        obtain ⟨x, hx⟩ := List.length_eq_one_iff.1 hx1
        obtain ⟨u, hu⟩ := List.length_eq_one_iff.1 (hu2.trans hx1)
        obtain ⟨ls', d1, d2⟩ := c4 0 x u (by rw [hx]; rfl) (by rw [hu]; rfl)
        have d1' : some (false, (thawL [] [l]).1) = some (x.isAgg, ls') := d1
        simp only [Option.some.injEq, Prod.mk.injEq] at d1'
        obtain ⟨d0, rfl⟩ := d1'
        rw [← d0] at d2
        obtain ⟨l', h', e'⟩ := thawL_one [] l
        have e2 : (thaw [] (V.one l)).2 = (muts σ.h (xs.flatMap V.cells)).map (gobj σ.h) := by
          rw [← c2]
          simp only [thaw, e', thawT]
        have e3 : (thaw [] (V.one l)).1 = .one l' := by simp only [thaw, e']
        refine ⟨by simpa [V.clean] using c1, u, by rw [hres, hu]; rfl, (muts σ.h (xs.flatMap V.cells)).map (gblk ρ), ?_, ?_⟩
        · rw [e2]; exact hsub
        · rw [e2, e3]
          rw [e'] at d2
          exact d2
      · rename_i ys hne1 hne2 hys
        split at hf
        · cases hf
        · rename_i hlen
          cases hf
          obtain ⟨c1, c2, c3, c4⟩ := main hys
          obtain ⟨hsub, _⟩ := hOS hys
          have hyl : ys.length = xs.length := by rw [← c3, (thawT_at ys [] c1).1]
          have hul : ¬ us.toArray.size = 1 := by simp; omega
          refine ⟨by simpa [V.clean] using c1, .tuple us.toArray, by rw [hres, dif_neg hul], (muts σ.h (xs.flatMap V.cells)).map (gblk ρ), ?_, ?_⟩
          · show HR M0 base w _ (thawT [] ys).2
            rw [c2]; exact hsub
          · show VR (Mu M0 _ (thawT [] ys).2) w _ (thawT [] ys).2 (.tup (thawT [] ys).1) _
            rw [c2]
            refine ⟨us.toArray, rfl, by rw [c3, ← hu2]; simp, fun i x' u' hx' hu' => ?_⟩
            have hi : i < xs.length := by rw [← c3]; exact (List.getElem?_eq_some_iff.1 hx').1
            obtain ⟨ls', d1, d2⟩ := c4 i xs[i] u' (by simp [hi]) (by simpa using hu')
            rw [hx'] at d1; cases d1
            exact d2
      · cases hf
    · cases hf

end
end Gi

/- One operation, a region's operations in the text's order, and in whatever order the tape picks. -/
namespace Gi
open Go Go.RowKit
set_option linter.unusedVariables false
set_option linter.unusedSimpArgs false
variable {KI : KF}

section
variable {Γ : Ctx} {P : Program} {M0 : Nat → Prop} {base : Nat} {σ : St} {a : Act} {w : World} {ρ : List (Option Nat)} {call : Nat → List V → Option V}

/-- The functions that may be called are there, and do what 'call' says. -/
structure CallOK [KI : KF] (Γ : Ctx) (P : Program) (kf : FuncId → Option Nat) (call : Nat → List V → Option V) : Prop where
  prog : KI.pr = P
  there : ∀ f k, kf f = some k → ∃ fn, P.funcs[f]? = some fn ∧ fn.body.isNone = false ∧ (fn.name == "runtime.NumGoroutine") = false
  sound : ∀ f k as r, kf f = some k → call k as = some r → Sound Γ P f as r
  ins : ∀ f k fn t e z b, kf f = some k → P.funcs[f]? = some fn → fn.origin = "slices.Insert" → fn.params.toList.head? = some t → elemT P t = some e → szT P e = some z → byT P e = some b → InsOK P f z b

theorem wants_sound (s : SR Γ M0 base σ a w ρ) {ops : Array Oper} {o : Oper} {g : Option (Nat × Bool)} {b : Bool} (hg : cGuard ops o.guard = some g) (hw : wants σ g = some b) : Region.wanted o (yielded ops a.tmps) = b := by
  unfold Region.wanted
  cases hgd : o.guard with
  | none =>
    rw [hgd] at hg
    simp only [cGuard] at hg; cases hg
    simp only [wants] at hw; cases hw
    rfl
  | some jw =>
    obtain ⟨j, want⟩ := jw
    rw [hgd] at hg
    simp only [cGuard] at hg
    split at hg
    · rename_i oj hoj
      split at hg
      · rename_i t ht
        cases hg
        simp only [wants] at hw
        have hy : ∀ {x : Option Bool}, (match a.tmps[t]? with | some (.bool b) => some b | _ => none) = x → yielded ops a.tmps j = x := by
          intro x hx
          unfold yielded
          simp only [hoj, Option.bind_some, ht]
          exact hx
        have r := s.fr.eval t
        by_cases hlt : t < a.tmps.size
        · have hev : a.tmps[t]? = some (a.eval (.tmp t)) := by simp [Act.eval, hlt]
          split at hw
          · rename_i b' hb'
            cases hw
            rw [hb'] at r
            have e : a.eval (.tmp t) = .bool b' := by simpa [VR, LR, Reads] using r
            simp only [hy (show _ = some b' by rw [hev, e])]
            cases b' <;> cases want <;> rfl
          · rename_i hb'
            cases hw
            rw [hb'] at r
            obtain ⟨vs, e, hl, _⟩ := r
            simp only [hy (show _ = none by rw [hev, e])]
            rfl
          · cases hw
        · have hev : a.tmps[t]? = none := Array.getElem?_eq_none (Nat.le_of_not_lt hlt)
          have ht0 : σ.t.getD t (.tup []) = .tup [] := by
            have : ¬ t < σ.t.length := by rw [← s.fr.size]; exact hlt
            simp [List.getD, List.getElem?_eq_none (Nat.le_of_not_lt this)]
          rw [ht0] at hw
          cases hw
          simp only [hy (show _ = none by rw [hev])]
          rfl
      · cases hg
    · cases hg

theorem exec_call {o : Oper} {c : Call} {f : FuncId} (hop : o.op = .call c) (hcal : c.callee = .value (.func f)) (ok : CallOK Γ P kf call) {k : Nat} (hk : kf f = some k) :
    (execOp a.eval o).run P w = .ok (.enter f (c.args.map a.eval)) w := by
  obtain ⟨fn, h1, h2, h3⟩ := ok.there f k hk
  simp only [execOp, hop, resolve, hcal, Act.eval, Deferred.ofValue, Sem.run_bind, Sem.run_pure, Result.andThen_ok, invoke, callFunc, run_program, h1, h3, h2]
  simp

theorem execV_call {o : Oper} {c : Call} {f : FuncId} {x : Operand} {cs : Array Value} (hop : o.op = .call c) (hcal : c.callee = .value x) (hf : a.eval x = .func (.func f) #[] cs) (ok : CallOK Γ P kf call) {k : Nat} (hk : kf f = some k) :
    (execOp a.eval o).run P w = .ok (.enter f (c.args.map a.eval ++ cs)) w := by
  obtain ⟨fn, h1, h2, h3⟩ := ok.there f k hk
  simp only [execOp, hop, resolve, hcal, hf, Deferred.ofValue, Sem.run_bind, Sem.run_pure, Result.andThen_ok, invoke, callFunc, run_program, h1, h3, h2]
  simp

theorem flat_res {M M' : Nat → Prop} {b : Nat} {h : List AObj} {r : V} {v : Value} (hf : r.flat = true) (rr : ResR M b w r v) : VR M' w ρ h (setV r) v := by
  obtain ⟨ρr, _, vr⟩ := rr
  have leaf : ∀ {l : L} {u : Value} {M1 : Nat → Prop} {ρ1 : List (Option Nat)} {h1 : List AObj}, l.flat = true → LR M1 w ρ1 h1 l u → LR M' w ρ h (setL l) u := by
    intro l u M1 ρ1 h1 hl hr
    cases l with
    | pv p => cases p <;> first | (simp [L.flat] at hl; done) | (simpa [setL, LR, Reads] using hr)
    | _ => simp [L.flat] at hl
  have same : ∀ (ls : List L) (g : List AObj), ls.all L.flat = true → thawL g ls = (ls, g) := by
    intro ls
    induction ls with
    | nil => intro g _; rfl
    | cons l ls ih =>
      intro g hl
      simp only [List.all_cons, Bool.and_eq_true] at hl
      cases l with
      | pv p => simp only [thawL, ih g hl.2]
      | _ => simp [L.flat] at hl
  have leaves : ∀ {ls : List L} {us : List Value} {M1 : Nat → Prop} {ρ1 : List (Option Nat)} {h1 : List AObj}, ls.all L.flat = true → LRs M1 w ρ1 h1 ls us → LRs M' w ρ h (ls.map setL) us := by
    intro ls us M1 ρ1 h1 hl hr
    refine ⟨by simpa using hr.1, fun i l u hi hu => ?_⟩
    simp only [List.getElem?_map, Option.map_eq_some_iff] at hi
    obtain ⟨l0, h0, rfl⟩ := hi
    exact leaf ((List.all_eq_true.1 hl) l0 (List.mem_of_getElem? h0)) (hr.2 i l0 u h0 hu)
  cases r with
  | one l =>
    have e := same [l] [] (by simpa [V.flat] using hf)
    simp only [thaw, e] at vr
    exact leaf (by simpa [V.flat] using hf) vr
  | agg ls =>
    have e := same ls [] (by simpa [V.flat] using hf)
    simp only [thaw, e] at vr
    obtain ⟨cs, rfl, hl⟩ := vr
    exact ⟨cs, rfl, leaves (by simpa [V.flat] using hf) hl⟩
  | tup xs =>
    have sameT : ∀ (xs : List (Bool × List L)) (g : List AObj), (xs.all fun x => x.2.all L.flat) = true → thawT g xs = (xs, g) := by
      intro xs
      induction xs with
      | nil => intro g _; rfl
      | cons x xs ih =>
        intro g hx
        simp only [List.all_cons, Bool.and_eq_true] at hx
        obtain ⟨b, ls⟩ := x
        simp only [thawT, same ls g hx.1, ih g hx.2]
    have hfx : (xs.all fun x => x.2.all L.flat) = true := by simpa [V.flat] using hf
    simp only [thaw, sameT xs [] hfx] at vr
    obtain ⟨vs, rfl, h1, h2⟩ := vr
    refine ⟨vs, rfl, by simpa [setV] using h1, fun i x u hx hu => ?_⟩
    simp only [List.getElem?_map, Option.map_eq_some_iff] at hx
    obtain ⟨x0, h0, rfl⟩ := hx
    have hx0 := (List.all_eq_true.1 hfx) x0 (List.mem_of_getElem? h0)
    have := h2 i x0 u h0 hu
    obtain ⟨b, ls⟩ := x0
    cases b with
    | true => obtain ⟨cs, rfl, hl⟩ := this; exact ⟨cs, rfl, leaves hx0 hl⟩
    | false =>
      match ls, this, hx0 with
      | [l], this, hx0 => exact leaf (by simpa using hx0) this

/-- the operands of a call -/
theorem opd_soundK (s : SR Γ M0 base σ a w ρ) {x : Operand} {y : Opd} (h : cOpdK kf x = some y) : VR (Mu M0 ρ σ.h) w ρ σ.h (y.ev σ) (a.eval x) := by
  unfold cOpdK at h
  split at h
  · rename_i f
    simp only [Option.map_eq_some_iff] at h
    obtain ⟨k, hk, rfl⟩ := h
    exact ⟨f, #[], by simp [Act.eval], hk, rfl, fun i e u he => by simp at he⟩
  · exact opd_sound s h
theorem args_relG (s : SR Γ M0 base σ a w ρ) {g : Operand → Option Opd} (hg : ∀ x y, g x = some y → VR (Mu M0 ρ σ.h) w ρ σ.h (y.ev σ) (a.eval x)) {xs : List Operand} {ys : List Opd} (h : optM g xs = some ys) : (ys.map (Opd.ev σ)).length = (xs.map a.eval).length ∧
    ∀ (i : Nat) (v : V) (u : Value), (ys.map (Opd.ev σ))[i]? = some v → (xs.map a.eval)[i]? = some u → VR (Mu M0 ρ σ.h) w ρ σ.h v u := by
  refine ⟨by simp [optM_len h], fun i v u hv hu => ?_⟩
  simp only [List.getElem?_map, Option.map_eq_some_iff] at hv hu
  obtain ⟨y, hy, rfl⟩ := hv
  obtain ⟨x, hx, rfl⟩ := hu
  obtain ⟨y', hy', hc⟩ := optM_at h i x hx
  rw [hy] at hy'; cases hy'
  exact hg x y hc
theorem args_rel (s : SR Γ M0 base σ a w ρ) {xs : List Operand} {ys : List Opd} (h : optM cOpd xs = some ys) : (ys.map (Opd.ev σ)).length = (xs.map a.eval).length ∧
    ∀ (i : Nat) (v : V) (u : Value), (ys.map (Opd.ev σ))[i]? = some v → (xs.map a.eval)[i]? = some u → VR (Mu M0 ρ σ.h) w ρ σ.h v u := args_relG s (fun x y h => opd_sound s h) h
theorem args_relK (s : SR Γ M0 base σ a w ρ) {xs : List Operand} {ys : List Opd} (h : optM (cOpdK kf) xs = some ys) : (ys.map (Opd.ev σ)).length = (xs.map a.eval).length ∧
    ∀ (i : Nat) (v : V) (u : Value), (ys.map (Opd.ev σ))[i]? = some v → (xs.map a.eval)[i]? = some u → VR (Mu M0 ρ σ.h) w ρ σ.h v u := args_relG s (fun x y h => opd_soundK s h) h

theorem call_inv {d : Md} {op : Op} {k : Nat} {as : List Opd} {fl fz : Bool} (hc : cOp P kf d op = some (.call k as fl fz)) : ∃ c f, op = .call c ∧ c.callee = .value (.func f) ∧ kf f = some k ∧ optM (cOpdK kf) c.args.toList = some as := by
  cases op
  case makeFunc fn first caps => cases fn <;> simp only [cOp] at hc <;> first | (cases hc; done) | ((repeat' (split at hc)) <;> cases hc)
  case call c =>
    simp only [cOp] at hc
    split at hc
    · rename_i f hcal
      split at hc
      · rename_i k' as' fn h1 h2 h3
        split at hc
        · repeat' (split at hc)
          all_goals cases hc
        split at hc
        · cases hc
        · cases hc
          exact ⟨c, f, rfl, hcal, h1, h2⟩
      · cases hc
    all_goals first | (cases hc; done) | ((repeat' (split at hc)) <;> cases hc)
  all_goals simp only [cOp] at hc
  all_goals first
    | (cases hc; done)
    | (simp only [Option.map_eq_some_iff] at hc; obtain ⟨_, _, hc⟩ := hc; cases hc; done)
    | ((repeat' (split at hc)) <;> cases hc)

theorem callD_inv {d : Md} {op : Op} {k : Nat} {as : List Opd} (hc : cOp P kf d op = some (.callD k as)) : ∃ c f, op = .call c ∧ c.callee = .value (.func f) ∧ kf f = some k ∧ optM (cOpdK kf) c.args.toList = some as := by
  cases op
  case makeFunc fn first caps => cases fn <;> simp only [cOp] at hc <;> first | (cases hc; done) | ((repeat' (split at hc)) <;> cases hc)
  case call c =>
    simp only [cOp] at hc
    split at hc
    · rename_i f hcal
      split at hc
      · rename_i k' as' fn h1 h2 h3
        split at hc
        · repeat' (split at hc)
          all_goals cases hc
        split at hc
        · cases hc
          exact ⟨c, f, rfl, hcal, h1, h2⟩
        · cases hc
      · cases hc
    all_goals first | (cases hc; done) | ((repeat' (split at hc)) <;> cases hc)
  all_goals simp only [cOp] at hc
  all_goals first
    | (cases hc; done)
    | (simp only [Option.map_eq_some_iff] at hc; obtain ⟨_, _, hc⟩ := hc; cases hc; done)
    | ((repeat' (split at hc)) <;> cases hc)

theorem insert_inv {d : Md} {op : Op} {k z b : Nat} {x i v : Opd} (hc : cOp P kf d op = some (.insert k z b x i v)) : ∃ c f fn t e, op = .call c ∧ c.callee = .value (.func f) ∧ kf f = some k ∧ optM (cOpdK kf) c.args.toList = some [x, i, v] ∧
    P.funcs[f]? = some fn ∧ fn.origin = "slices.Insert" ∧ fn.params.toList.head? = some t ∧ elemT P t = some e ∧ szT P e = some z ∧ byT P e = some b := by
  cases op
  case makeFunc fn first caps => cases fn <;> simp only [cOp] at hc <;> first | (cases hc; done) | ((repeat' (split at hc)) <;> cases hc)
  case call c =>
    simp only [cOp] at hc
    split at hc
    · rename_i f hcal
      split at hc
      · rename_i k' as' fn h1 h2 h3
        split at hc
        · rename_i horg
          split at hc
          · rename_i x' i' v' t tl hpar
            split at hc
            · rename_i e he
              split at hc
              · rename_i z' b' hz hb
                cases hc
                exact ⟨c, f, fn, t, e, rfl, hcal, h1, h2, h3, by simpa using horg, by rw [hpar]; rfl, he, hz, hb⟩
              · cases hc
            · cases hc
          · cases hc
        · split at hc <;> cases hc
      · cases hc
    all_goals first | (cases hc; done) | ((repeat' (split at hc)) <;> cases hc)
  all_goals simp only [cOp] at hc
  all_goals first
    | (cases hc; done)
    | (simp only [Option.map_eq_some_iff] at hc; obtain ⟨_, _, hc⟩ := hc; cases hc; done)
    | ((repeat' (split at hc)) <;> cases hc)
theorem optM3 {xs : List Operand} {x i v : Opd} (h : optM (cOpdK kf) xs = some [x, i, v]) : ∃ x0 i0 v0, xs = [x0, i0, v0] ∧ cOpdK kf x0 = some x ∧ cOpdK kf i0 = some i ∧ cOpdK kf v0 = some v := by
  have hl := optM_len h
  match xs, hl with
  | [x0, i0, v0], _ =>
    obtain ⟨y0, h0, c0⟩ := optM_at h 0 x0 rfl
    obtain ⟨y1, h1, c1⟩ := optM_at h 1 i0 rfl
    obtain ⟨y2, h2, c2⟩ := optM_at h 2 v0 rfl
    simp at h0 h1 h2
    subst h0 h1 h2
    exact ⟨x0, i0, v0, rfl, c0, c1, c2⟩
theorem callV_inv {d : Md} {op : Op} {x : Opd} {as : List Opd} (hc : cOp P kf d op = some (.callV x as)) : ∃ c t, op = .call c ∧ c.callee = .value (.tmp t) ∧ x = .tmp t ∧ optM cOpd c.args.toList = some as := by
  cases op
  case makeFunc fn first caps => cases fn <;> simp only [cOp] at hc <;> first | (cases hc; done) | ((repeat' (split at hc)) <;> cases hc)
  case call c =>
    simp only [cOp] at hc
    split at hc
    · split at hc
      · (repeat' (split at hc)) <;> cases hc
      · cases hc
    · rename_i t hcal
      split at hc
      · rename_i as' h1
        cases hc
        exact ⟨c, t, rfl, hcal, rfl, h1⟩
      · cases hc
    all_goals first | (cases hc; done) | ((repeat' (split at hc)) <;> cases hc)
  all_goals simp only [cOp] at hc
  all_goals first
    | (cases hc; done)
    | (simp only [Option.map_eq_some_iff] at hc; obtain ⟨_, _, hc⟩ := hc; cases hc; done)
    | ((repeat' (split at hc)) <;> cases hc)

theorem stepO_sound (ok : CallOK Γ P kf call) (s : SR Γ M0 base σ a w ρ) {ops : Array Oper} {o : Oper} {d : Md} {oo : AOper} {σ' : St} {K : Act → World → Prop} {Q : Exit → Act → World → Prop}
    (hc : cOper P kf d ops o = some oo) (he : stepO call oo σ = some σ') (hK : ∀ a' w' ρ', SR Γ M0 base σ' a' w' ρ' → Below base w w' → K a' w') :
    if Region.wanted o (yielded ops a.tmps) then o.wp P a w K Q else K (a.put o.dst undef) w := by
  unfold cOper at hc
  split at hc
  · rename_i op g hop hg
    cases hc
    unfold stepO at he
    simp only at he
    split at he
    · rename_i hw
      rw [wants_sound s hg hw, if_pos rfl]
      -- a value, in a world that has only grown
      have fin : ∀ {v : V} {u : Value} {w' : World}, Below w.heap.size w w' → VR (Mu M0 ρ σ.h) w' ρ σ.h v u → σ' = ⟨put σ.t o.dst v, σ.h⟩ → K (a.put o.dst u) w' := by
        intro v u w' hb hv e
        subst e
        obtain ⟨k1, c1⟩ := s.hr.world hb.size (fun b hlt => hb.block b hlt)
        exact hK _ _ ρ ⟨k1, (s.fr.ch c1).put o.dst hv, Γ.keep _ _ s.inv (hb.mono (Nat.le_trans s.b0 s.hr.le)), s.b0⟩ (hb.mono s.hr.le)
      by_cases hcall : op.isCall = true
      · by_cases hv : ∃ x as, op = .callV x as
        · obtain ⟨x, as, rfl⟩ := hv
          obtain ⟨c, t, ho, hcal, hx, has⟩ := callV_inv hop
          obtain ⟨hal, har⟩ := args_rel s has
          have hvals : (c.args.map a.eval).toList = c.args.toList.map a.eval := by simp
          split at he
          · rename_i v hf
            cases he
            simp only [fop] at hf
            split at hf
            · rename_i k caps hxe
              split at hf
              · rename_i avs havs
                split at hf
                · rename_i r hr
                  split at hf
                  · rename_i hflat
                    cases hf
                    have rx := opd_sound s (show cOpd (.tmp t) = some (.tmp t) from rfl)
                    rw [← hx, hxe] at rx
                    obtain ⟨f, cs, ef, hk, hcl, hcr⟩ := rx
                    obtain ⟨hclean, hcalls⟩ := ok.sound f k _ r hk hr
                    have ha : ArgsR (fun _ => False) w avs (c.args.map a.eval).toList := by
                      rw [hvals]
                      exact view_args havs hal har (fun v l p u _ _ hl hv => view_false s.hr hl hv) (fun e u r => r.weak (fun _ h => h.elim))
                    have ha2 : ArgsR (fun _ => False) w (avs ++ caps.map capV) (c.args.map a.eval ++ cs).toList := by
                      refine ⟨by simp only [List.length_append, List.length_map, Array.toList_append]; rw [ha.1, hcl]; simp, fun i x u hx hu => ?_⟩
                      rw [Array.toList_append] at hu
                      by_cases hi : i < avs.length
                      · rw [List.getElem?_append_left hi] at hx
                        rw [List.getElem?_append_left (by rw [← ha.1]; exact hi)] at hu
                        exact ha.2 i x u hx hu
                      · rw [List.getElem?_append_right (by omega)] at hx
                        rw [List.getElem?_append_right (by rw [← ha.1]; omega), ← ha.1] at hu
                        simp only [List.getElem?_map, Option.map_eq_some_iff] at hx
                        obtain ⟨e, he, rfl⟩ := hx
                        exact ((hcr _ e u he (by simpa using hu)).weak (fun _ h => h.elim)).arg
                    unfold Oper.wp
                    rw [execV_call (a := a) (w := w) (call := call) ho hcal ef ok hk, Oper.upon_enter]
                    refine (hcalls (fun _ => False) w _ s.inv (fun b h => h.elim) ha2).mono fun e w' ⟨v, he, hb, hrr⟩ => ?_
                    subst he
                    exact fin hb (flat_res hflat hrr) rfl
                  · cases hf
                · cases hf
              · cases hf
            · cases hf
          · split at he
            · rename_i hee; cases hee
            · cases he
        by_cases hv2 : ∃ x, op = .s2b x
        · obtain ⟨x, rfl⟩ := hv2
          split at he
          · rename_i v hf
            cases he
            obtain ⟨u, w', q1, q2, q3⟩ := s2b_sound s hop hf
            unfold Oper.wp
            rw [q1, Oper.upon_value]
            exact fin q2 q3 rfl
          · split at he
            · rename_i hee; cases hee
            · cases he
        by_cases hv5 : ∃ z ps, op = .buildF z ps
        · obtain ⟨z, ps, rfl⟩ := hv5
          split at he
          · rename_i v hf
            cases he
            obtain ⟨u, w', q1, q2, q3⟩ := buildF_sound s hop hf
            unfold Oper.wp
            rw [q1, Oper.upon_value]
            exact fin q2 q3 rfl
          · split at he
            · rename_i hee; cases hee
            · cases he
        by_cases hv6 : ∃ z x lo hi, op = .slcF z x lo hi
        · obtain ⟨z, x, lo, hi, rfl⟩ := hv6
          split at he
          · rename_i v hf
            cases he
            obtain ⟨n, u, w', ρ', h1, h2, h3, h4, h5, h6⟩ := slcF_sound s hop hf
            unfold Oper.wp
            rw [h1]
            have hSR : K (a.put o.dst u) w' := hK _ _ ρ' ⟨h4, (s.fr.ch h5).put o.dst h6, Γ.keep _ _ s.inv (h3.mono s.b0), s.b0⟩ h3
            rcases h2 with rfl | ⟨rfl, rfl⟩
            · exact hSR
            · exact hSR
          · split at he
            · rename_i hee; cases hee
            · cases he
        by_cases hv3 : ∃ k as, op = .callD k as
        · obtain ⟨k, as, rfl⟩ := hv3
          obtain ⟨c, f, ho, hcal, hk, has⟩ := callD_inv hop
          have hex := exec_call (a := a) (w := w) (call := call) ho hcal ok hk
          obtain ⟨hal, har⟩ := args_relK s has
          have hvals : (c.args.map a.eval).toList = c.args.toList.map a.eval := by simp
          unfold Oper.wp
          rw [hex, Oper.upon_enter]
          split at he
          · rename_i v hf; cases hf
          · split at he
            · rename_i v h' hee
              cases he
              simp only [eop] at hee
              split at hee
              · rename_i avs havs
                split at hee
                · rename_i r hr
                  cases hee
                  obtain ⟨hclean, hcalls⟩ := ok.sound f k avs r hk hr
                  obtain ⟨k1, c1⟩ := s.hr.freezeVs (as.map (Opd.ev σ))
                  have ha : ArgsR (Mu M0 ρ (freezeVs σ.h (as.map (Opd.ev σ)))) w avs (c.args.map a.eval).toList := by
                    rw [hvals]
                    exact view_args havs hal har (fun v l p u hv hl hlr hvw => view_mu k1 (hlr.ch c1) (by rw [freezeVs_view]; exact hvw) (freezeVs_mut _ l (.inr ⟨v, hv, hl⟩))) (fun e u r => r.go c1.go)
                  refine (hcalls _ w _ s.inv (fun b hb => Mu.lt k1 hb) ha).mono fun e w' ⟨v, he, hb, hrr⟩ => ?_
                  subst he
                  obtain ⟨k2, c2⟩ := k1.world hb.size (fun b hlt => hb.block b hlt)
                  exact hK _ _ ρ ⟨k2, ((s.fr.ch c1).ch c2).put o.dst (res_set k1 hb hclean hrr), Γ.keep _ _ s.inv (hb.mono (Nat.le_trans s.b0 s.hr.le)), s.b0⟩ (hb.mono s.hr.le)
                · cases hee
              · cases hee
            · cases he
        by_cases hv4 : ∃ k z b x i v, op = .insert k z b x i v
        · obtain ⟨k, z, b, x, i, v, rfl⟩ := hv4
          obtain ⟨c, f, fn, t, e, ho, hcal, hk, has, hfn, horg, hpar, he1, hz1, hb1⟩ := insert_inv hop
          have hex := exec_call (a := a) (w := w) (call := call) ho hcal ok hk
          have iok := ok.ins f k fn t e z b hk hfn horg hpar he1 hz1 hb1
          obtain ⟨x0, i0, v0, hxs, cx, ci, cv⟩ := optM3 has
          have rx := opd_soundK s cx
          have ri := opd_soundK s ci
          have rv := opd_soundK s cv
          have hargs : c.args.map a.eval = #[a.eval x0, a.eval i0, a.eval v0] := Array.ext' (by rw [Array.toList_map, hxs]; rfl)
          unfold Oper.wp
          rw [hex, Oper.upon_enter, hargs]
          split at he
          · rename_i v1 hf; cases hf
          · split at he
            · rename_i v1 h1 hee
              cases he
              simp only [eop] at hee
              split at hee
              · rename_i n o2 ex ei ev
                rw [ex] at rx
                rw [ev] at rv
                have ux : a.eval x0 = .slice none 0 0 := rx
                have ui := ri.int ei
                split at hee
                · rename_i z2 vs ho2
                  split at hee
                  · rename_i hp
                    cases hee
                    obtain ⟨rfl, hm, rfl, hlim, h63⟩ := hp
                    rw [ux, ui]
                    refine (insert_nil s iok ho2 hm hlim (by unfold maxLen; omega) rv).mono fun e w' ⟨u, ρ', he, hb, g1, g2, g3⟩ => ?_
                    subst he
                    exact hK _ _ ρ' ⟨g1, (s.fr.ch g2).put o.dst g3, Γ.keep _ _ s.inv (hb.mono s.b0), s.b0⟩ hb
                  · cases hee
                · cases hee
              · rename_i o1 n o2 ex ei ev
                rw [ex] at rx
                rw [ev] at rv
                have ui := ri.int ei
                split at hee
                · rename_i z1 es z2 vs ho1 ho2
                  split at hee
                  · rename_i hp
                    cases hee
                    obtain ⟨rfl, rfl, hne, hm, hn0, hn1, hlim, h63⟩ := hp
                    have hn : a.eval i0 = .int .i64 ((n.toNat : Nat) : Int) := by
                      rw [ui]
                      congr 1
                      omega
                    rw [hn]
                    refine (insert_arr s iok ho1 ho2 hne hm (i := n.toNat) (by omega) hlim (by unfold maxLen; omega) rx rv).mono fun e w' ⟨u, ρ', he, hb, g1, g2, g3⟩ => ?_
                    subst he
                    exact hK _ _ ρ' ⟨g1, (s.fr.ch g2).put o.dst g3, Γ.keep _ _ s.inv (hb.mono s.b0), s.b0⟩ hb
                  · cases hee
                · cases hee
              · cases hee
            · cases he
        cases op <;> simp [AOp.isCall] at hcall
        case insert k z b x i v => exact absurd ⟨k, z, b, x, i, v, rfl⟩ hv4
        case callV x as => exact absurd ⟨x, as, rfl⟩ hv
        case s2b x => exact absurd ⟨x, rfl⟩ hv2
        case callD k as => exact absurd ⟨k, as, rfl⟩ hv3
        case buildF z ps => exact absurd ⟨z, ps, rfl⟩ hv5
        case slcF z x lo hi => exact absurd ⟨z, x, lo, hi, rfl⟩ hv6
        rename_i k as fl fz
        obtain ⟨c, f, ho, hcal, hk, has⟩ := call_inv hop
        have hex := exec_call (a := a) (w := w) (call := call) ho hcal ok hk
        obtain ⟨hal, har⟩ := args_relK s has
        have hvals : (c.args.map a.eval).toList = c.args.toList.map a.eval := by simp
        unfold Oper.wp
        rw [hex, Oper.upon_enter]
        split at he
        · rename_i v hf
          cases he
          simp only [fop] at hf
          split at hf
          · split at hf
            · rename_i hfl hmut
              split at hf
              · rename_i avs havs
                split at hf
                · rename_i r hr
                  split at hf
                  · cases hf
                  · rename_i hflat
                    cases hf
                    obtain ⟨hclean, hcalls⟩ := ok.sound f k avs r hk hr
                    cases fl with
                    | true =>
                      have hflat' : r.flat = true := by simpa using hflat
                      have ha : ArgsR (fun _ => False) w avs (c.args.map a.eval).toList := by
                        rw [hvals]
                        exact view_args havs hal har (fun v l p u _ _ hl hv => view_false s.hr hl hv) (fun e u r => r.weak (fun _ h => h.elim))
                      refine (hcalls (fun _ => False) w _ s.inv (fun b h => h.elim) ha).mono fun e w' ⟨v, he, hb, hrr⟩ => ?_
                      subst he
                      exact fin hb (flat_res hflat' hrr) rfl
                    | false =>
                      have hm : ∀ v ∈ as.map (Opd.ev σ), V.mut σ.h v = false := by
                        intro v hv
                        simp only [Bool.false_or, Bool.not_eq_true'] at hmut
                        have := (List.any_eq_false.1 hmut) v hv
                        simpa using this
                      have ha : ArgsR (Mu M0 ρ σ.h) w avs (c.args.map a.eval).toList := by
                        rw [hvals]
                        refine view_args havs hal har (fun v l p u hv hl hlr hvw => view_mu s.hr hlr hvw ?_) (fun _ _ r => r)
                        have := hm v hv
                        simp only [V.mut] at this
                        have := (List.any_eq_false.1 this) l hl
                        simpa using this
                      refine (hcalls (Mu M0 ρ σ.h) w _ s.inv (fun b hb => Mu.lt s.hr hb) ha).mono fun e w' ⟨v, he, hb, hrr⟩ => ?_
                      subst he
                      exact fin hb (res_set s.hr hb hclean hrr) rfl
                · cases hf
              · cases hf
            · cases hf
          · cases hf
        · split at he
          · rename_i v h' hee
            cases he
            cases fl <;> cases fz <;> simp only [eop] at hee <;> try (cases hee; done)
            split at hee
            · rename_i avs havs
              split at hee
              · rename_i r hr
                have hee' := Option.some.inj hee
                obtain ⟨rfl, rfl⟩ : v = (thaw (freezeVs σ.h (as.map (Opd.ev σ))) r).1 ∧ h' = (thaw (freezeVs σ.h (as.map (Opd.ev σ))) r).2 := ⟨by rw [hee'], by rw [hee']⟩
                obtain ⟨hclean, hcalls⟩ := ok.sound f k avs r hk hr
                obtain ⟨k1, c1⟩ := s.hr.freezeVs (as.map (Opd.ev σ))
                have ha : ArgsR (Mu M0 ρ (freezeVs σ.h (as.map (Opd.ev σ)))) w avs (c.args.map a.eval).toList := by
                  rw [hvals]
                  exact view_args havs hal har (fun v l p u hv hl hlr hvw => view_mu k1 (hlr.ch c1) (by rw [freezeVs_view]; exact hvw) (freezeVs_mut _ l (.inr ⟨v, hv, hl⟩))) (fun e u r => r.go c1.go)
                refine (hcalls _ w _ s.inv (fun b hb => Mu.lt k1 hb) ha).mono fun e w' ⟨v, he, hb, hrr⟩ => ?_
                subst he
                obtain ⟨ρ', g1, g2, g3⟩ := res_thaw k1 hb hclean hrr
                exact hK _ _ ρ' ⟨g1, (s.fr.ch (c1.trans g2)).put o.dst g3, Γ.keep _ _ s.inv (hb.mono (Nat.le_trans s.b0 s.hr.le)), s.b0⟩ (hb.mono s.hr.le)
              · cases hee
            · cases hee
          · cases he
      · have hnc : op.isCall = false := by simpa using hcall
        split at he
        · rename_i v hf
          cases he
          obtain ⟨u, hu, hv⟩ := fop_sound ok.prog s hop hnc hf
          unfold Oper.wp
          rw [hu, Oper.upon_value]
          exact fin (Below.refl _ _) hv rfl
        · split at he
          · rename_i v h' hee
            cases he
            have ht : Turns P M0 base σ w ρ v h' (execOp a.eval o) := by
              cases hoo : o.op <;> rw [hoo] at hop
              case alloc t => exact alloc_sound s hoo (hoo ▸ hop) hee
              case makeMap t r => exact mkmap_sound ok.prog s hoo (hoo ▸ hop) hee
              case mapUpdate t m x y => exact mset_sound ok.prog s hoo (hoo ▸ hop) hee
              case box t x => exact box_sound s hoo (hoo ▸ hop) hee
              case buildSlice t n ps => exact buildS_sound s hoo (hoo ▸ hop) hee
              case store t x y => exact store_sound s hoo (hoo ▸ hop) hee
              case makeSlice t x y => exact make_sound s hoo (hoo ▸ hop) hee
              case slice t x lo hi mx => exact slcL_sound s hoo (hoo ▸ hop) hee
              case makeFunc fn first caps => exact mkfn_sound s hoo (hoo ▸ hop) hee
              case call c =>
                cases op
                case append z b x y => exact append_sound s hoo (hoo ▸ hop) hee
                case appendS b x y => exact appendS_sound s hoo (hoo ▸ hop) hee
                all_goals first
                  | (simp [AOp.isCall] at hnc; done)
                  | (cases hee; done)
                  | (exfalso; simp only [cOp] at hop; repeat' (split at hop)) <;> cases hop
              all_goals
                exfalso
                simp only [cOp] at hop
                first
                  | (cases hop; done)
                  | (simp only [Option.map_eq_some_iff] at hop; obtain ⟨_, _, rfl⟩ := hop; cases hee; done)
                  | (repeat' (split at hop)) <;> first | (cases hop; done) | (cases hop; cases hee; done)
            obtain ⟨n, u, w', ρ', h1, h2, h3, h4, h5, h6⟩ := ht
            unfold Oper.wp
            rw [h1]
            have hSR : K (a.put o.dst u) w' := hK _ _ ρ' ⟨h4, (s.fr.ch h5).put o.dst h6, Γ.keep _ _ s.inv (h3.mono s.b0), s.b0⟩ h3
            rcases h2 with rfl | ⟨rfl, rfl⟩
            · exact hSR
            · exact hSR
          · cases he
    · rename_i hw
      cases he
      rw [wants_sound s hg hw]
      exact hK _ _ ρ ⟨s.hr, s.fr.put o.dst VR.undef, s.inv, s.b0⟩ (Below.refl _ _)
    · cases he
  · cases hc

end
end Gi

/- Regions, code, functions: what the pure machine gives is what the Go function returns. -/
namespace Gi
open Go Go.RowKit
set_option linter.unusedVariables false
set_option linter.unusedSimpArgs false
variable {KI : KF}

section
variable {Γ : Ctx} {P : Program} {M0 : Nat → Prop} {base : Nat} {σ : St} {a : Act} {w : World} {ρ : List (Option Nat)} {call : Nat → List V → Option V}

theorem ops_sound (ok : CallOK Γ P kf call) {ops : Array Oper} {d : Md} {Q : Exit → Act → World → Prop} : ∀ {l : List Oper} {oos : List AOper} {σ σ' : St} {a : Act} {w : World} {ρ : List (Option Nat)}, SR Γ M0 base σ a w ρ →
    optM (cOper P kf d ops) l = some oos → execOps call oos σ = some σ' → (∀ a' w' ρ', SR Γ M0 base σ' a' w' ρ' → Below base w w' → Q .normal a' w') → wpList P ops Q l a w
  | [], oos, σ, σ', a, w, ρ, s, hc, he, hQ => by
    simp [optM] at hc; subst hc
    simp [execOps] at he; subst he
    exact wpList_nil (hQ a w ρ s (Below.refl _ _))
  | o :: l, oos, σ, σ', a, w, ρ, s, hc, he, hQ => by
    unfold optM at hc
    split at hc
    · rename_i oo oos' h1 h2
      cases hc
      unfold execOps at he
      split at he
      · rename_i σ1 he1
        exact wpList_step fun K hK => stepO_sound ok s h1 he1 fun a' w' ρ' s' hb => hK _ _ (ops_sound ok s' h2 he fun a2 w2 ρ2 s2 hb2 => hQ a2 w2 ρ2 s2 (hb.trans hb2))
      · cases he
    · cases hc

/-! ### Any order -/
theorem Opd.ev_set {x : Opd} {t : List V} {h h' : List AObj} {d : Nat} {v : V} (hd : d ∉ x.tmps) : x.ev ⟨t.set d v, h⟩ = x.ev ⟨t, h'⟩ := by
  cases x with
  | tmp n =>
    simp only [Opd.tmps, List.mem_singleton] at hd
    simp only [Opd.ev, List.getD]
    rw [List.getElem?_set_ne hd]
  | _ => rfl

theorem fop_congr {σ σ' : St} (hh : σ.h = σ'.h) {ao : AOp} (hx : ∀ x ∈ ao.opds, x.ev σ = x.ev σ') : fop call σ ao = fop call σ' ao := by
  cases ao with
  | build zero parts =>
    have : (parts.map fun x => (x.1, x.2.1, x.2.2.ev σ)) = (parts.map fun x => (x.1, x.2.1, x.2.2.ev σ')) := by
      apply List.map_congr_left
      intro x hxm
      rw [hx x.2.2 (by simp only [AOp.opds]; exact List.mem_map.2 ⟨x, hxm, rfl⟩)]
    simp only [fop, this]
  | call f as fl fz =>
    have : as.map (Opd.ev σ) = as.map (Opd.ev σ') := List.map_congr_left (fun x hxm => hx x hxm)
    simp only [fop, this, hh]
  | callV x as =>
    have h1 := hx x (by simp [AOp.opds])
    have : as.map (Opd.ev σ) = as.map (Opd.ev σ') := List.map_congr_left (fun y hy => hx y (by simp [AOp.opds, hy]))
    simp only [fop, this, hh, h1]
  | slcL z x lo hi => rfl
  | buildF z parts =>
    have : parts.map (Opd.ev σ) = parts.map (Opd.ev σ') := List.map_congr_left (fun x hxm => hx x hxm)
    simp only [fop, this]
  | slcF z x lo hi =>
    have h1 := hx x (by simp [AOp.opds])
    have h2 : ∀ d, bound σ d lo = bound σ' d lo := by
      intro d
      cases lo with
      | none => rfl
      | some o => simp only [bound, hx o (by simp [AOp.opds])]
    have h3 : ∀ d, bound σ d hi = bound σ' d hi := by
      intro d
      cases hi with
      | none => rfl
      | some o => simp only [bound, hx o (by simp [AOp.opds])]
    simp only [fop, h1, h2, h3]
  | mkfn k cs => rfl
  | callD k cs => rfl
  | mkmap => rfl
  | mset x k v => rfl
  | mget x k =>
    have h1 := hx x (by simp [AOp.opds])
    have h2 := hx k (by simp [AOp.opds])
    simp only [fop, h1, h2, hh]
  | slcS x lo hi =>
    have h1 := hx x (by simp [AOp.opds])
    have h2 : ∀ d, bound σ d lo = bound σ' d lo := by
      intro d
      cases lo with
      | none => rfl
      | some o => simp only [bound, hx o (by simp [AOp.opds])]
    have h3 : ∀ d, bound σ d hi = bound σ' d hi := by
      intro d
      cases hi with
      | none => rfl
      | some o => simp only [bound, hx o (by simp [AOp.opds])]
    simp only [fop, h1, h2, h3]
  | _ => simp_all [fop, AOp.opds]

theorem bound_congr {σ σ' : St} {d : Int} {x : Option Opd} (hx : ∀ y ∈ x.toList, y.ev σ = y.ev σ') : bound σ d x = bound σ' d x := by
  cases x with
  | none => rfl
  | some o => simp only [bound, hx o (by simp)]
theorem eop_congr {σ σ' : St} (hh : σ.h = σ'.h) {ao : AOp} (hx : ∀ x ∈ ao.opds, x.ev σ = x.ev σ') : eop call σ ao = eop call σ' ao := by
  cases ao with
  | buildS z parts =>
    have : parts.map (Opd.ev σ) = parts.map (Opd.ev σ') := List.map_congr_left (fun x hxm => hx x hxm)
    simp only [eop, this, hh]
  | call f as fl fz =>
    have : as.map (Opd.ev σ) = as.map (Opd.ev σ') := List.map_congr_left (fun x hxm => hx x hxm)
    cases fl <;> cases fz <;> first | rfl | simp only [eop, this, hh]
  | callD f as =>
    have : as.map (Opd.ev σ) = as.map (Opd.ev σ') := List.map_congr_left (fun x hxm => hx x hxm)
    simp only [eop, this, hh]
  | mkfn k cs =>
    have : cs.map (Opd.ev σ) = cs.map (Opd.ev σ') := List.map_congr_left (fun x hxm => hx x hxm)
    simp only [eop, this, hh]
  | slcL z x lo hi =>
    have h1 := hx x (by simp [AOp.opds])
    have h2 : ∀ d, bound σ d lo = bound σ' d lo := fun d => bound_congr fun y hy => hx y (by simp only [AOp.opds]; exact List.mem_cons_of_mem _ (List.mem_append_left _ hy))
    have h3 : ∀ d, bound σ d hi = bound σ' d hi := fun d => bound_congr fun y hy => hx y (by simp only [AOp.opds]; exact List.mem_cons_of_mem _ (List.mem_append_right _ hy))
    simp only [eop, h1, h2, h3, hh]
  | _ => simp_all [eop, AOp.opds]

/-- what an operation yields, and the variables behind it -/
def eff (call : Nat → List V → Option V) (o : AOper) (σ : St) : Option (V × List AObj) :=
  match wants σ o.guard with
  | some true => match fop call σ o.op with
    | some v => some (v, σ.h)
    | none => eop call σ o.op
  | some false => some (.tup [], σ.h)
  | none => none
theorem stepO_eff (oo : AOper) (σ : St) : stepO call oo σ = (eff call oo σ).map fun x => ⟨put σ.t oo.dst x.1, x.2⟩ := by
  unfold stepO eff
  cases hw : wants σ oo.guard with
  | none => rfl
  | some b =>
    cases b with
    | false => rfl
    | true =>
      simp only
      cases hf : fop call σ oo.op with
      | some v => rfl
      | none =>
        cases he : eop call σ oo.op with
        | none => rfl
        | some x => rfl

theorem eff_put {x y : AOper} (hap : apartA x y = true) {t : List V} {h : List AObj} {v : V} : eff call y ⟨put t x.dst v, h⟩ = eff call y ⟨t, h⟩ := by
  cases hd : x.dst with
  | none => rfl
  | some d =>
    have hno : d ∉ y.reads := by
      simp only [apartA, hd, Bool.and_eq_true, Bool.not_eq_true'] at hap
      have := hap.1.1
      simpa using this
    have hop : ∀ z ∈ y.op.opds, z.ev (⟨put t (some d) v, h⟩ : St) = z.ev ⟨t, h⟩ := fun z hz => Opd.ev_set (h' := h) (fun hm => hno (List.mem_append_left _ (List.mem_flatMap.2 ⟨z, hz, hm⟩)))
    have hw : wants (⟨put t (some d) v, h⟩ : St) y.guard = wants ⟨t, h⟩ y.guard := by
      cases hg : y.guard with
      | none => rfl
      | some gw =>
        obtain ⟨g, b⟩ := gw
        have hne : d ≠ g := fun e => hno (List.mem_append_right _ (by simp [hg, e]))
        simp only [wants, put, List.getD]
        rw [List.getElem?_set_ne hne]
    unfold eff
    rw [hw, fop_congr (σ := ⟨put t (some d) v, h⟩) (σ' := ⟨t, h⟩) rfl hop, eop_congr (σ := ⟨put t (some d) v, h⟩) (σ' := ⟨t, h⟩) rfl hop]

theorem ev_h {x : Opd} {t : List V} {h h' : List AObj} : x.ev ⟨t, h⟩ = x.ev ⟨t, h'⟩ := by cases x <;> rfl
theorem wants_h {g : Option (Nat × Bool)} {t : List V} {h h' : List AObj} : wants ⟨t, h⟩ g = wants ⟨t, h'⟩ g := by
  cases g with
  | none => rfl
  | some gw => rfl
theorem bound_h {t : List V} {h h' : List AObj} {d : Int} {x : Option Opd} : bound ⟨t, h⟩ d x = bound ⟨t, h'⟩ d x := bound_congr fun y _ => ev_h
theorem eop_none {ao : AOp} (hc : ao.cls ≤ 1) : eop call σ ao = none := by
  cases ao with
  | call f as fl fz => cases fl <;> cases fz <;> first | rfl | simp [AOp.cls] at hc
  | _ => first | rfl | simp [AOp.cls] at hc
theorem fop_none {ao : AOp} (hc : 2 ≤ ao.cls) : fop call σ ao = none := by
  cases ao with
  | call f as fl fz => cases fl <;> cases fz <;> first | rfl | simp [AOp.cls] at hc
  | _ => first | rfl | simp [AOp.cls] at hc
theorem fop_pure {ao : AOp} (hc : ao.cls = 0) {t : List V} {h h' : List AObj} : fop call ⟨t, h⟩ ao = fop call ⟨t, h'⟩ ao := by
  have e : ∀ x : Opd, x.ev ⟨t, h⟩ = x.ev ⟨t, h'⟩ := fun x => ev_h
  have e2 : ∀ d x, bound ⟨t, h⟩ d x = bound ⟨t, h'⟩ d x := fun d x => bound_h
  have e3 : Opd.ev ⟨t, h⟩ = Opd.ev ⟨t, h'⟩ := funext e
  cases ao with
  | buildF z ps => simp only [fop, e3]
  | call f as fl fz => cases fl <;> cases fz <;> simp [AOp.cls] at hc
  | _ => first | (simp [AOp.cls] at hc; done) | (simp only [fop, e, e2]; done) | rfl

/-- More variables, some of them written no more. -/
def HLe (h h' : List AObj) : Prop := ∀ (o : Nat) (ob : AObj), h[o]? = some ob → h'[o]? = some ob ∨ ∃ z es, ob = .arr z es ∧ h'[o]? = some (.froz z es)
theorem HLe.refl (h : List AObj) : HLe h h := fun _ _ e => .inl e
theorem HLe.trans {a b c : List AObj} (h : HLe a b) (k : HLe b c) : HLe a c := by
  intro o ob e
  rcases h o ob e with e1 | ⟨z, es, rfl, e1⟩
  · exact k o ob e1
  · rcases k o _ e1 with e2 | ⟨_, _, e3, _⟩
    · exact .inr ⟨z, es, rfl, e2⟩
    · cases e3
theorem HLe.append (h l : List AObj) : HLe h (h ++ l) := fun o ob e => .inl (by rw [List.getElem?_append_left (List.getElem?_eq_some_iff.1 e).1]; exact e)
theorem HLe.freezeL (h : List AObj) (l : L) : HLe h (Gi.freezeL h l) := by
  cases l with
  | arr o =>
    simp only [Gi.freezeL]
    split
    · rename_i z es he
      intro o' ob e
      by_cases q : o = o'
      · subst q
        rw [he] at e; cases e
        exact .inr ⟨z, es, rfl, by rw [List.getElem?_set_self (List.getElem?_eq_some_iff.1 he).1]⟩
      · exact .inl (by rw [List.getElem?_set_ne q]; exact e)
    · exact HLe.refl h
  | _ => exact HLe.refl h
theorem HLe.freezeLs : ∀ (ls : List L) (h : List AObj), HLe h (Gi.freezeLs h ls)
  | [], h => HLe.refl h
  | l :: ls, h => (HLe.freezeL h l).trans (HLe.freezeLs ls (Gi.freezeL h l))
theorem HLe.freezeVs : ∀ (vs : List V) (h : List AObj), HLe h (Gi.freezeVs h vs)
  | [], h => HLe.refl h
  | v :: vs, h => (HLe.freezeLs v.cells h).trans (HLe.freezeVs vs (Gi.freezeLs h v.cells))
theorem eop_le {ao : AOp} (hc : ao.cls = 2) {v : V} {h' : List AObj} (he : eop call σ ao = some (v, h')) : HLe σ.h h' := by
  cases ao with
  | call f as fl fz => cases fl <;> cases fz <;> simp [AOp.cls] at hc
  | alloc zero => simp only [eop] at he; cases he; exact HLe.append _ _
  | mkmap => simp only [eop] at he; cases he; exact HLe.append _ _
  | box x =>
    simp only [eop] at he
    split at he
    · cases he; exact HLe.append _ _
    · cases he
  | buildS z parts =>
    simp only [eop] at he
    split at he
    · split at he
      · cases he; exact (HLe.freezeVs _ _).trans (HLe.append _ _)
      · cases he
    · cases he
  | make b zero n =>
    simp only [eop] at he
    split at he
    · split at he
      · cases he; exact HLe.append _ _
      · cases he
    · cases he
  | slcL z x lo hi =>
    simp only [eop] at he
    split at he
    · split at he
      · split at he
        · cases he; exact HLe.freezeLs _ _
        · cases he
      · cases he
    · cases he
  | _ => simp [AOp.cls] at hc

theorem view_le {h h' : List AObj} (k : HLe h h') {l : L} {p : PV} (e : l.view h = some p) : l.view h' = some p := by
  cases l with
  | arr o =>
    simp only [L.view] at e ⊢
    split at e
    · rename_i z es he
      rcases k o _ he with e1 | ⟨z', es', e2, e1⟩
      · rw [e1]; exact e
      · cases e2; rw [e1]; exact e
    · rename_i z es he
      rcases k o _ he with e1 | ⟨z', es', e2, e1⟩
      · rw [e1]; exact e
      · cases e2
    · cases e
  | _ => exact e
theorem viewL_le {h h' : List AObj} (k : HLe h h') : ∀ {ls : List L} {ps : List PV}, viewL h ls = some ps → viewL h' ls = some ps
  | [], ps, e => e
  | l :: ls, ps, e => by
    simp only [viewL] at e ⊢
    split at e
    · rename_i p qs e1 e2
      rw [view_le k e1, viewL_le k e2]; exact e
    · cases e
theorem Vview_le {h h' : List AObj} (k : HLe h h') {v u : V} (e : v.view h = some u) : v.view h' = some u := by
  unfold V.view at e ⊢
  split at e
  · exact e
  · rename_i l hno
    split at e
    · rename_i p e1
      rw [view_le k e1]
      simp only
      exact e
    · cases e
  · split at e
    · rename_i ps e1
      rw [viewL_le k e1]; exact e
    · cases e
  · cases e
theorem viewArgs_le {h h' : List AObj} (k : HLe h h') : ∀ {vs us : List V}, viewArgs h vs = some us → viewArgs h' vs = some us
  | [], us, e => e
  | v :: vs, us, e => by
    simp only [viewArgs] at e ⊢
    split at e
    · rename_i p qs e1 e2
      rw [Vview_le k e1, viewArgs_le k e2]; exact e
    · cases e
theorem asList_le {h h' : List AObj} (k : HLe h h') {v : V} {es : List (List PV)} (e : asList h v = some es) : asList h' v = some es := by
  unfold asList at e ⊢
  split at e
  · split at e
    · rename_i es' e1
      simp only [view_le k e1]; exact e
    · cases e
  · cases e
theorem mutL_le {h h' : List AObj} (k : HLe h h') {l : L} {p : PV} (e : l.view h = some p) (m : L.mut h l = false) : L.mut h' l = false := by
  cases l with
  | arr o =>
    simp only [L.view] at e
    simp only [L.mut] at m ⊢
    split at e
    · rename_i z es he
      rw [he] at m; simp at m
    · rename_i z es he
      rcases k o _ he with e1 | ⟨z', es', e2, e1⟩
      · rw [e1]
      · cases e2
    · cases e
  | _ => rfl
theorem mutLs_le {h h' : List AObj} (k : HLe h h') : ∀ {ls : List L} {ps : List PV}, viewL h ls = some ps → ls.any (L.mut h) = false → ls.any (L.mut h') = false
  | [], _, _, _ => rfl
  | l :: ls, ps, e, m => by
    simp only [viewL] at e
    split at e
    · rename_i p qs e1 e2
      simp only [List.any_cons, Bool.or_eq_false_iff] at m ⊢
      exact ⟨mutL_le k e1 m.1, mutLs_le k e2 m.2⟩
    · cases e
theorem mutV_le {h h' : List AObj} (k : HLe h h') {v u : V} (e : v.view h = some u) (m : v.mut h = false) : v.mut h' = false := by
  unfold V.view at e
  unfold V.mut at m ⊢
  split at e
  · rfl
  · rename_i l hno
    split at e
    · rename_i p e1
      simp only [V.cells, List.any_cons, List.any_nil, Bool.or_false] at m ⊢
      exact mutL_le k e1 m
    · cases e
  · split at e
    · rename_i ps e1
      simp only [V.cells] at m ⊢
      exact mutLs_le k e1 m
    · cases e
  · cases e
theorem mutVs_le {h h' : List AObj} (k : HLe h h') : ∀ {vs us : List V}, viewArgs h vs = some us → vs.any (V.mut h) = false → vs.any (V.mut h') = false
  | [], _, _, _ => rfl
  | v :: vs, us, e, m => by
    simp only [viewArgs] at e
    split at e
    · rename_i p qs e1 e2
      simp only [List.any_cons, Bool.or_eq_false_iff] at m ⊢
      exact ⟨mutV_le k e1 m.1, mutVs_le k e2 m.2⟩
    · cases e
theorem loadV_le {h h' : List AObj} (k : HLe h h') {g : Bool} {n : Nat} {a v : V} (e : loadV h g n a = some v) : loadV h' g n a = some v := by
  unfold loadV at e ⊢
  split at e
  · rename_i o i j
    split at e
    · rename_i cs he
      rcases k o _ he with e1 | ⟨z', es', e2, e1⟩
      · simp only [e1]; exact e
      · cases e2
    · rename_i z es he
      rcases k o _ he with e1 | ⟨z', es', e2, e1⟩
      · simp only [e1]; exact e
      · cases e2; simp only [e1]; exact e
    · rename_i z es he
      rcases k o _ he with e1 | ⟨z', es', e2, e1⟩
      · simp only [e1]; exact e
      · cases e2
    · rename_i ps he
      rcases k o _ he with e1 | ⟨z', es', e2, e1⟩
      · simp only [e1]; exact e
      · cases e2
    · cases e
  · exact e
  · cases e
theorem elemPtr_le {h h' : List AObj} (k : HLe h h') {z : Nat} {x v : V} {i : Nat} (e : elemPtr h z x i = some v) : elemPtr h' z x i = some v := by
  unfold elemPtr at e ⊢
  split at e
  · rename_i o
    split at e
    · rename_i z' es he
      rcases k o _ he with e1 | ⟨_, _, e2, e1⟩
      · simp only [e1]; exact e
      · cases e2; simp only [e1]; exact e
    · rename_i z' es he
      rcases k o _ he with e1 | ⟨_, _, e2, e1⟩
      · simp only [e1]; exact e
      · cases e2
    · cases e
  · exact e
  · cases e
theorem fop_look {ao : AOp} (hc : ao.cls = 1) {t : List V} {h h' : List AObj} (k : HLe h h') {v : V} (e : fop call ⟨t, h⟩ ao = some v) : fop call ⟨t, h'⟩ ao = some v := by
  have ev : ∀ x : Opd, x.ev ⟨t, h⟩ = x.ev ⟨t, h'⟩ := fun x => ev_h
  have evs : Opd.ev ⟨t, h⟩ = Opd.ev ⟨t, h'⟩ := funext ev
  cases ao with
  | load g n a =>
    simp only [fop, ev] at e ⊢
    exact loadV_le k e
  | loadB g n a =>
    simp only [fop, ev] at e ⊢
    split at e
    · rename_i hq
      have hq' : isVar h' (a.ev ⟨t, h'⟩) = true := by
        unfold isVar at hq ⊢
        split at hq
        · rename_i o i j hv
          split at hq
          · rename_i cs ho
            rcases k o _ ho with e1 | ⟨z', es', e2, e1⟩
            · rw [e1]
            · cases e2
          · rename_i cs ho
            rcases k o _ ho with e1 | ⟨z', es', e2, e1⟩
            · rw [e1]
            · cases e2
          · cases hq
        · rfl
        · cases hq
      rw [if_pos hq']
      exact loadV_le k e
    · cases e
  | b2s x =>
    simp only [fop, ev] at e ⊢
    split at e
    · rename_i es e1; rw [asList_le k e1]; exact e
    · cases e
  | len x =>
    simp only [fop, ev] at e ⊢
    split at e
    · rename_i es e1; rw [asList_le k e1]; exact e
    · cases e
  | indexA z x i =>
    simp only [fop, ev] at e ⊢
    split at e
    · split at e
      · rename_i hn; simp only [if_pos hn]; exact elemPtr_le k e
      · cases e
    · cases e
  | mget x kk =>
    simp only [fop, ev] at e ⊢
    split at e
    · rename_i o n hx hk
      split at e
      · rename_i kvs he
        rcases k o _ he with e1 | ⟨z', es', e2, e1⟩
        · simp only [e1]; exact e
        · cases e2
      · cases e
    · cases e
  | callV x as =>
    simp only [fop, evs] at e ⊢
    split at e
    · split at e
      · rename_i us e1; simp only [viewArgs_le k e1]; exact e
      · cases e
    · cases e
  | call f as fl fz =>
    simp only [fop, evs] at e ⊢
    split at e
    · rename_i hfl
      rw [if_pos hfl]
      split at e
      · rename_i hm
        split at e
        · rename_i us e1
          have hm' : (fl || !((as.map (Opd.ev ⟨t, h'⟩)).any (V.mut h'))) = true := by
            cases fl with
            | true => rfl
            | false =>
              simp only [Bool.false_or, Bool.not_eq_true'] at hm ⊢
              exact mutVs_le k e1 hm
          rw [if_pos hm', viewArgs_le k e1]; exact e
        · cases e
      · cases e
    · cases e
  | _ => simp [AOp.cls] at hc

theorem put_comm {x y : AOper} (hap : apartA x y = true) (t : List V) (v u : V) : put (put t x.dst v) y.dst u = put (put t y.dst u) x.dst v := by
  cases hd : x.dst with
  | none => rfl
  | some d =>
    cases he : y.dst with
    | none => rfl
    | some e =>
      have hne : d ≠ e := by
        simp only [apartA, hd, he, Bool.and_eq_true, bne_iff_ne, ne_eq] at hap
        intro e'
        exact hap.1.2 (by rw [e'])
      simp only [put]
      exact List.set_comm v u hne

theorem apartA_symm {x y : AOper} (h : apartA x y = true) : apartA y x = true := by
  unfold apartA at *
  cases hx : x.dst <;> cases hy : y.dst <;> simp_all
  exact fun e => h.1.2 e.symm

theorem eff_pure {x : AOper} (hc : x.op.cls = 0) {t : List V} {h h1 h' : List AObj} {v : V} (e : eff call x ⟨t, h⟩ = some (v, h1)) : h1 = h ∧ eff call x ⟨t, h'⟩ = some (v, h') := by
  unfold eff at e ⊢
  rw [wants_h (h := h') (h' := h)]
  split at e
  · rw [fop_pure (h := h') (h' := h) hc]
    split at e
    · cases e; exact ⟨rfl, rfl⟩
    · rw [eop_none (by omega)] at e; cases e
  · cases e; exact ⟨rfl, rfl⟩
  · cases e
theorem eff_look {x : AOper} (hc : x.op.cls = 1) {t : List V} {h h1 h' : List AObj} (k : HLe h h') {v : V} (e : eff call x ⟨t, h⟩ = some (v, h1)) : h1 = h ∧ eff call x ⟨t, h'⟩ = some (v, h') := by
  unfold eff at e ⊢
  rw [wants_h (h := h') (h' := h)]
  split at e
  · split at e
    · rename_i hf
      cases e
      rw [fop_look hc k hf]
      exact ⟨rfl, rfl⟩
    · rw [eop_none (by omega)] at e; cases e
  · cases e; exact ⟨rfl, rfl⟩
  · cases e
theorem eff_le {x : AOper} (hc : x.op.cls ≤ 2) {σ : St} {h' : List AObj} {v : V} (e : eff call x σ = some (v, h')) : HLe σ.h h' := by
  unfold eff at e
  split at e
  · split at e
    · cases e; exact HLe.refl _
    · by_cases h2 : x.op.cls = 2
      · exact eop_le h2 e
      · rw [eop_none (by omega)] at e; cases e
  · cases e; exact HLe.refl _
  · cases e
/-- The variables (no arrays) are the same. -/
def VarEq (h h' : List AObj) : Prop := ∀ (o : Nat) (ob : AObj), (match ob with | .box _ => True | .fbox _ => True | _ => False) → (h[o]? = some ob ↔ h'[o]? = some ob)
theorem VarEq.refl (h : List AObj) : VarEq h h := fun _ _ _ => Iff.rfl
theorem VarEq.symm {h h' : List AObj} (k : VarEq h h') : VarEq h' h := fun o ob q => (k o ob q).symm
theorem VarEq.trans {a b c : List AObj} (h : VarEq a b) (k : VarEq b c) : VarEq a c := fun o ob q => (h o ob q).trans (k o ob q)
theorem VarEq.push (h : List AObj) {z : Nat} {es : List (List PV)} : VarEq h (h ++ [.arr z es]) := fun o ob q => by
  rcases Nat.lt_trichotomy o h.length with hlt | rfl | hgt
  · rw [List.getElem?_append_left hlt]
  · simp only [List.getElem?_append_right (Nat.le_refl _), Nat.sub_self, List.getElem?_cons_zero, List.getElem?_eq_none (Nat.le_refl _)]
    constructor
    · intro e; cases e
    · intro e; cases e; exact q.elim
  · rw [List.getElem?_eq_none (by omega), List.getElem?_eq_none (by simp; omega)]
theorem VarEq.setArr {h : List AObj} {o z : Nat} {es : List (List PV)} (ho : h[o]? = some (.arr z es)) {ob' : AObj} (hb : match ob' with | .box _ => False | .fbox _ => False | _ => True) : VarEq h (h.set o ob') := fun i ob q => by
  by_cases hi : o = i
  · subst hi
    rw [List.getElem?_set_self (List.getElem?_eq_some_iff.1 ho).1, ho]
    constructor
    · intro e; cases e; exact q.elim
    · intro e; cases e; revert q hb; cases ob' <;> simp
  · rw [List.getElem?_set_ne hi]
theorem VarEq.freezeL (h : List AObj) (l : L) : VarEq h (Gi.freezeL h l) := by
  cases l with
  | arr o =>
    simp only [Gi.freezeL]
    split
    · rename_i z es he
      exact VarEq.setArr he trivial
    · exact VarEq.refl h
  | _ => exact VarEq.refl h
theorem VarEq.freezeLs : ∀ (ls : List L) (h : List AObj), VarEq h (Gi.freezeLs h ls)
  | [], h => VarEq.refl h
  | l :: ls, h => (VarEq.freezeL h l).trans (VarEq.freezeLs ls (Gi.freezeL h l))
theorem VarEq.freezeVs : ∀ (vs : List V) (h : List AObj), VarEq h (Gi.freezeVs h vs)
  | [], h => VarEq.refl h
  | v :: vs, h => (VarEq.freezeLs v.cells h).trans (VarEq.freezeVs vs (Gi.freezeLs h v.cells))
theorem eop_varEq {σ : St} {ao : AOp} (hc : ao.arrT = true) {v : V} {h' : List AObj} (he : eop call σ ao = some (v, h')) : VarEq σ.h h' := by
  cases ao with
  | buildS z parts =>
    simp only [eop] at he
    split at he
    · split at he
      · cases he; exact (VarEq.freezeVs _ _).trans (VarEq.push _)
      · cases he
    · cases he
  | make b zero n =>
    simp only [eop] at he
    split at he
    · split at he
      · cases he; exact VarEq.push _
      · cases he
    · cases he
  | slcL z x lo hi =>
    simp only [eop] at he
    split at he
    · split at he
      · split at he
        · cases he; exact VarEq.freezeLs _ _
        · cases he
      · cases he
    · cases he
  | append z b x y =>
    simp only [eop] at he
    split at he
    · split at he
      · cases he; exact VarEq.push _
      · cases he
    · split at he
      · rename_i z' es ho
        split at he
        · cases he; exact (VarEq.setArr ho trivial).trans (VarEq.push _)
        · cases he
      · cases he
    · cases he
  | appendS b x y =>
    simp only [eop] at he
    split at he
    · split at he
      · cases he; exact VarEq.push _
      · cases he
    · split at he
      · rename_i z' es ho
        split at he
        · cases he; exact (VarEq.setArr ho trivial).trans (VarEq.push _)
        · cases he
      · cases he
    · cases he
  | _ => simp [AOp.arrT] at hc
theorem eff_varEq {x : AOper} (hc : x.op.arrT = true) {σ : St} {h' : List AObj} {v : V} (e : eff call x σ = some (v, h')) : VarEq σ.h h' := by
  unfold eff at e
  split at e
  · split at e
    · cases e; exact VarEq.refl _
    · exact eop_varEq hc e
  · cases e; exact VarEq.refl _
  · cases e
theorem isVar_eq {h h' : List AObj} (k : VarEq h h') (v : V) : isVar h v = isVar h' v := by
  cases v with
  | one l =>
    cases l with
    | ptr o i j =>
      simp only [isVar]
      cases e1 : h[o]? with
      | none =>
        cases e2 : h'[o]? with
        | none => rfl
        | some ob' =>
          cases ob' with
          | box cs => rw [(k o _ trivial).2 e2] at e1; cases e1
          | fbox cs => rw [(k o _ trivial).2 e2] at e1; cases e1
          | _ => rfl
      | some ob =>
        cases ob with
        | box cs => rw [(k o _ trivial).1 e1]
        | fbox cs => rw [(k o _ trivial).1 e1]
        | _ =>
          cases e2 : h'[o]? with
          | none => rfl
          | some ob' =>
            cases ob' with
            | box cs => rw [(k o _ trivial).2 e2] at e1; cases e1
            | fbox cs => rw [(k o _ trivial).2 e2] at e1; cases e1
            | _ => rfl
    | _ => rfl
  | _ => rfl
theorem loadV_var {h h' : List AObj} (k : VarEq h h') {g : Bool} {n : Nat} (v : V) (q : isVar h v = true) : loadV h g n v = loadV h' g n v := by
  unfold isVar at q
  split at q
  · rename_i o i j
    split at q
    · rename_i cs e1
      simp only [loadV, e1, (k o _ trivial).1 e1]
    · rename_i cs e1
      simp only [loadV, e1, (k o _ trivial).1 e1]
    · cases q
  · rfl
  · cases q
theorem loadB_eq {h h' : List AObj} (k : VarEq h h') {g : Bool} {n : Nat} (v : V) : (if isVar h v then loadV h g n v else none) = (if isVar h' v then loadV h' g n v else none) := by
  by_cases q : isVar h v = true
  · rw [if_pos q, if_pos (by rw [← isVar_eq k]; exact q), loadV_var k v q]
  · rw [if_neg q, if_neg (by rw [← isVar_eq k]; exact q)]
theorem eff_isLB {x : AOper} (hc : x.op.isLB = true) {t : List V} {h h1 h' : List AObj} (k : VarEq h h') {v : V} (e : eff call x ⟨t, h⟩ = some (v, h1)) : h1 = h ∧ eff call x ⟨t, h'⟩ = some (v, h') := by
  unfold eff at e ⊢
  rw [wants_h (h := h') (h' := h)]
  have hf : fop call ⟨t, h⟩ x.op = fop call ⟨t, h'⟩ x.op ∧ ∀ s, eop call s x.op = none := by
    cases hx : x.op with
    | loadB g n a =>
      refine ⟨?_, fun _ => rfl⟩
      simp only [fop]
      rw [ev_h (h := h) (h' := h')]
      exact loadB_eq k _
    | _ => rw [hx] at hc; cases hc
  split at e
  · rw [← hf.1]
    split at e
    · cases e; exact ⟨rfl, rfl⟩
    · rw [hf.2] at e; cases e
  · cases e; exact ⟨rfl, rfl⟩
  · cases e
/-- x first, then y: or y first, then x. -/
theorem commA_step {x y : AOper} (hc : commA x y = true) {σ σ1 σ2 : St} (h1 : stepO call x σ = some σ1) (h2 : stepO call y σ1 = some σ2) : ∃ σ3, stepO call y σ = some σ3 ∧ stepO call x σ3 = some σ2 := by
  obtain ⟨t, h⟩ := σ
  simp only [commA, Bool.and_eq_true, Bool.or_eq_true, beq_iff_eq, Nat.ble_eq] at hc
  obtain ⟨hap, hcc⟩ := hc
  rw [stepO_eff, Option.map_eq_some_iff] at h1 h2
  obtain ⟨⟨v, hv⟩, e1, rfl⟩ := h1
  obtain ⟨⟨u, hu⟩, e2, rfl⟩ := h2
  simp only at e1 e2
  rw [eff_put hap] at e2
  have fin : ∀ {h3 : List AObj}, eff call y ⟨t, h⟩ = some (u, h3) → eff call x ⟨t, h3⟩ = some (v, hu) → ∃ σ3, stepO call y ⟨t, h⟩ = some σ3 ∧ stepO call x σ3 = some ⟨put (put t x.dst v) y.dst u, hu⟩ := by
    intro h3 q1 q2
    refine ⟨⟨put t y.dst u, h3⟩, by rw [stepO_eff, q1]; rfl, ?_⟩
    rw [stepO_eff, eff_put (apartA_symm hap), q2, put_comm hap]
    rfl
  rcases hcc with (((hx | hy) | ⟨hx, hy⟩) | ⟨hx, hy⟩) | ⟨hx, hy⟩
  · obtain ⟨rfl, _⟩ := eff_pure (h' := h) hx e1
    exact fin e2 (eff_pure hx e1).2
  · obtain ⟨rfl, q⟩ := eff_pure (h' := h) hy e2
    exact fin q e1
  · obtain ⟨rfl, _⟩ := eff_look hx (HLe.refl _) e1
    exact fin e2 (eff_look hx (eff_le hy e2) e1).2
  · obtain ⟨rfl, _⟩ := eff_isLB hx (VarEq.refl _) e1
    exact fin e2 (eff_isLB hx (eff_varEq hy e2) e1).2
  · obtain ⟨rfl, q⟩ := eff_isLB hy (eff_varEq hx e1).symm e2
    exact fin q e1

/-- i waits for k, at once or through others -/
inductive Anc (ops : Array Oper) (listed : Array Bool) (k : Nat) : Nat → Prop
  | dir {i : Nat} {o : Oper} {e : Edge} : ops[i]? = some o → e ∈ o.after → Region.binds .any e = true → listed.getD e.on true = false → e.on = k → Anc ops listed k i
  | via {i : Nat} {o : Oper} {e : Edge} : ops[i]? = some o → e ∈ o.after → Region.binds .any e = true → listed.getD e.on true = false → Anc ops listed k e.on → Anc ops listed k i
theorem ready_not_dep {ops : Array Oper} {listed : Array Bool} {j : Nat} (hj : j ∈ Region.ready .any ops listed) {o : Oper} {e : Edge} (ho : ops[j]? = some o) (he : e ∈ o.after) (hb : Region.binds .any e = true) (hu : listed.getD e.on true = false) : False := by
  obtain ⟨_, o', ho', hall⟩ := mem_ready.1 hj
  rw [ho] at ho'; cases ho'
  have h1 := hall e he hb
  rcases Nat.lt_or_ge e.on listed.size with h' | h'
  · simp [h'] at hu h1; rw [hu] at h1; cases h1
  · simp [Array.getElem?_eq_none h'] at h1
theorem ready_not_anc {ops : Array Oper} {listed : Array Bool} {k j : Nat} (hj : j ∈ Region.ready .any ops listed) (h : Anc ops listed k j) : False := by
  cases h with
  | dir ho he hb hu _ => exact ready_not_dep hj ho he hb hu
  | via ho he hb hu _ => exact ready_not_dep hj ho he hb hu
theorem anc_mono {ops : Array Oper} {listed : Array Bool} {k j : Nat} (hj : j ∈ Region.ready .any ops listed) (hjk : j ≠ k) {i : Nat} (h : Anc ops listed k i) : Anc ops (listed.setIfInBounds j true) k i := by
  induction h with
  | dir ho he hb hu hk => exact .dir ho he hb (by rw [hk] at hu ⊢; rw [getD_set_ne true hjk]; exact hu) hk
  | via ho he hb hu ha ih =>
    rename_i i o e
    by_cases q : j = e.on
    · exact (ready_not_anc (q ▸ hj) ha).elim
    · exact .via ho he hb (by rw [getD_set_ne true q]; exact hu) ih
theorem ancs_sound {ops : Array Oper} {listed : Array Bool} {k : Nat} : ∀ (l : List Oper) (acc : Array Bool), (∀ j, l[j]? = ops[acc.size + j]?) → (∀ i, acc.getD i false = true → Anc ops listed k i) → ∀ i, (ancs listed k l acc).getD i false = true → Anc ops listed k i
  | [], acc, _, ha, i, h => ha i h
  | o :: l, acc, hl, ha, i, h => by
    simp only [ancs] at h
    refine ancs_sound l _ (fun j => ?_) (fun i hi => ?_) i h
    · have := hl (j + 1)
      simp only [List.getElem?_cons_succ] at this
      rw [this, Array.size_push]
      congr 1
      omega
    · by_cases q : i < acc.size
      · refine ha i ?_
        simp only [Array.getD_eq_getD_getElem?] at hi ⊢
        rwa [Array.getElem?_push_lt q, ← Array.getElem?_eq_getElem q] at hi
      · by_cases q2 : i = acc.size
        · subst q2
          simp only [Array.getD_eq_getD_getElem?, Array.getElem?_push_size, Option.getD_some, Array.any_eq_true] at hi
          obtain ⟨x, hx, hq⟩ := hi
          simp only [Bool.and_eq_true, Bool.not_eq_true', Bool.or_eq_true, beq_iff_eq] at hq
          obtain ⟨⟨hb, hu⟩, hq⟩ := hq
          have ho : ops[acc.size]? = some o := by simpa using (hl 0).symm
          rcases hq with hk | hk
          · exact .dir ho (Array.getElem_mem hx) hb (by simpa using hu) hk
          · exact .via ho (Array.getElem_mem hx) hb (by simpa using hu) (ha _ (by simpa using hk))
        · rw [Array.getD_eq_getD_getElem?, Array.getElem?_eq_none (by simp; omega)] at hi
          simp at hi

/-- the run of one operation by its number -/
def stepN (call : Nat → List V → Option V) (oos : List AOper) (i : Nat) (σ : St) : Option St :=
  match oos[i]? with
  | none => some σ
  | some oo => stepO call oo σ
def runN' (call : Nat → List V → Option V) (oos : List AOper) : List Nat → St → Option St
  | [], σ => some σ
  | i :: l, σ => match stepN call oos i σ with
    | some σ' => runN' call oos l σ'
    | none => none

/-- whatever order is picked from here on ends in σ₁ -/
def aAny (call : Nat → List V → Option V) (ops : Array Oper) (oos : List AOper) (σ₁ : St) : Nat → Array Bool → St → Prop
  | 0, listed, σ => Region.ready .any ops listed = [] ∧ σ = σ₁
  | fuel + 1, listed, σ => (Region.ready .any ops listed = [] → σ = σ₁) ∧ ∀ i ∈ Region.ready .any ops listed, ∃ σ', stepN call oos i σ = some σ' ∧ aAny call ops oos σ₁ fuel (listed.setIfInBounds i true) σ'

theorem aAny_sound {ops : Array Oper} {oos : List AOper} {σ₁ : St} : ∀ (fuel t : Nat) (listed : Array Bool) (σ : St), aAny call ops oos σ₁ fuel listed σ → runN' call oos (Region.linearise.go .any ops fuel t listed []) σ = some σ₁ := by
  intro fuel
  induction fuel with
  | zero => intro t listed σ h; simpa [Region.linearise.go, runN'] using h.2
  | succ fuel ih =>
    intro t listed σ h
    obtain ⟨h₀, h₁⟩ := h
    simp only [Region.linearise.go]
    change runN' call oos (match (Region.ready .any ops listed)[t % (Region.ready .any ops listed).length]? with
      | some i => Region.linearise.go .any ops fuel (t / (Region.ready .any ops listed).length) (listed.setIfInBounds i true) [i]
      | none => [].reverse) σ = some σ₁
    cases hi : (Region.ready .any ops listed)[t % (Region.ready .any ops listed).length]? with
    | none =>
      have hnil : Region.ready .any ops listed = [] := by
        cases hr : Region.ready .any ops listed with
        | nil => rfl
        | cons x xs =>
          rw [hr] at hi
          have hlt : t % (x :: xs).length < (x :: xs).length := Nat.mod_lt _ (by simp)
          simp at hi
          simp at hlt
          omega
      simp [runN', h₀ hnil]
    | some i =>
      simp only []
      rw [linearise_go_acc, List.reverse_singleton, List.singleton_append]
      obtain ⟨σ', e1, e2⟩ := h₁ i (List.mem_of_getElem? hi)
      simp only [runN', e1]
      exact ih _ _ _ e2

theorem aAny_first {ops : Array Oper} {oos : List AOper} {σ₁ : St} (hlen : oos.length = ops.size) {i : Nat} {oi : AOper} (hi : oos[i]? = some oi) :
    ∀ (fuel : Nat) (listed : Array Bool) (σ σ' : St), (∀ j oj, oos[j]? = some oj → j ≠ i → listed.getD j true = false → ¬ Anc ops listed i j → commA oi oj = true) →
      i ∈ Region.ready .any ops listed → stepO call oi σ = some σ' → aAny call ops oos σ₁ fuel (listed.setIfInBounds i true) σ' → aAny call ops oos σ₁ (fuel + 1) listed σ := by
  have stepi : ∀ {σ σ' : St}, stepO call oi σ = some σ' → stepN call oos i σ = some σ' := fun {σ σ'} h => by
    simp only [stepN, hi, h]
  intro fuel
  induction fuel with
  | zero =>
    intro listed σ σ' _ hr hy H
    refine ⟨fun h => (by rw [h] at hr; cases hr), fun j hj => ?_⟩
    by_cases hji : j = i
    · subst hji; exact ⟨_, stepi hy, H⟩
    · have := ready_mono (md := .any) hj hji
      rw [H.1] at this
      cases this
  | succ fuel ih =>
    intro listed σ σ' hfree hr hy H
    refine ⟨fun h => (by rw [h] at hr; cases hr), fun j hj => ?_⟩
    by_cases hji : j = i
    · subst hji; exact ⟨_, stepi hy, H⟩
    · obtain ⟨σj, e1, e2⟩ := H.2 j (ready_mono hj hji)
      obtain ⟨hjun, o, ho, hall⟩ := mem_ready.1 hj
      have hjl : j < oos.length := by rw [hlen]; exact (Array.getElem?_eq_some_iff.1 ho).1
      have hoj : oos[j]? = some oos[j] := by simp [hjl]
      have hc := hfree j _ hoj hji hjun (fun h => ready_not_anc hj h)
      simp only [stepN, hoj] at e1
      obtain ⟨σ3, q1, q2⟩ := commA_step hc hy e1
      refine ⟨σ3, by simp only [stepN, hoj, q1], ?_⟩
      refine ih (listed.setIfInBounds j true) σ3 σj (fun k ok hk hki hun hno => ?_) (ready_mono hr (Ne.symm hji)) q2 ?_
      · refine hfree k ok hk hki ?_ (fun h => hno (anc_mono hj hji h))
        by_cases hjk : j = k
        · subst hjk; exact hjun
        · rw [getD_set_ne true hjk] at hun; exact hun
      · rw [Array.setIfInBounds_comm _ _ hji]
        exact e2

theorem free_spec {ops : Array Oper} {oos : List AOper} {listed : Array Bool} {k : Nat} {ok : AOper} (hk : oos[k]? = some ok) (h : freeA ops oos listed k = true) :
    ∀ j oj, oos[j]? = some oj → j ≠ k → listed.getD j true = false → ¬ Anc ops listed k j → commA ok oj = true := by
  intro j oj hj hne hun hw
  have hjl : j < oos.length := (List.getElem?_eq_some_iff.1 hj).1
  simp only [freeA, List.all_eq_true, List.mem_range] at h
  have := h j hjl
  have ha : (ancs listed k ops.toList #[]).getD j false = false := by
    cases q : (ancs listed k ops.toList #[]).getD j false with
    | false => rfl
    | true => exact (hw (ancs_sound ops.toList #[] (fun j => by simp) (fun i hi => by simp at hi) j q)).elim
  simp only [hk, hj, hun, ha, Bool.or_false, Bool.or_eq_true, beq_iff_eq, hne, false_or] at this
  exact this

theorem aAny_lex {ops : Array Oper} {oos : List AOper} {σ₁ : St} (hlen : oos.length = ops.size) : ∀ (l : List AOper) (k : Nat) (listed : Array Bool) (σ : St), (∀ j, l[j]? = oos[k + j]?) →
    lexFromA ops oos l.length k listed = true → execOps call l σ = some σ₁ → aAny call ops oos σ₁ l.length listed σ
  | [], _, _, _, _, hB, h => ⟨by simpa [lexFromA] using hB, by simpa [execOps] using h⟩
  | o :: l, k, listed, σ, hl, hB, h => by
    have h0 : oos[k]? = some o := by simpa using (hl 0).symm
    simp only [List.length_cons, lexFromA, Bool.and_eq_true] at hB
    obtain ⟨⟨hr, hf⟩, hB'⟩ := hB
    unfold execOps at h
    split at h
    · rename_i σ' he
      exact aAny_first hlen h0 l.length listed σ σ' (free_spec h0 hf) (by simpa using hr) he
        (aAny_lex hlen l (k + 1) _ _ (fun j => by have := hl (j + 1); simpa [Nat.add_assoc, Nat.add_comm 1 j] using this) hB' h)
    · cases h

theorem wpOps_sound (ok : CallOK Γ P kf call) {ops : Array Oper} {d : Md} {oos : List AOper} (hc : optM (cOper P kf d ops) ops.toList = some oos) {Q : Exit → Act → World → Prop} : ∀ {l : List Nat} {σ σ' : St} {a : Act} {w : World} {ρ : List (Option Nat)}, SR Γ M0 base σ a w ρ →
    runN' call oos l σ = some σ' → (∀ a' w' ρ', SR Γ M0 base σ' a' w' ρ' → Below base w w' → Q .normal a' w') → wpOps P ops Q l a w
  | [], σ, σ', a, w, ρ, s, he, hQ => by
    simp [runN'] at he; subst he
    exact hQ a w ρ s (Below.refl _ _)
  | i :: l, σ, σ', a, w, ρ, s, he, hQ => by
    simp only [runN'] at he
    split at he
    · rename_i σ1 he1
      rw [wpOps_cons]
      unfold wpOp
      cases ho : ops[i]? with
      | none =>
        have : oos[i]? = none := by
          have hl := optM_len hc
          have : ¬ i < ops.size := by intro hlt; simp [hlt] at ho
          exact List.getElem?_eq_none (by rw [hl]; simp; omega)
        simp only [stepN, this] at he1
        cases he1
        exact wpOps_sound ok hc s he hQ
      | some o =>
        obtain ⟨oo, hoo, hco⟩ := optM_at hc i o (by simpa using ho)
        simp only [stepN, hoo] at he1
        have key := stepO_sound (Q := Q) ok s hco he1 (K := wpOps P ops Q l) (fun a' w' ρ' s' hb => wpOps_sound ok hc s' he fun a2 w2 ρ2 s2 hb2 => hQ a2 w2 ρ2 s2 (hb.trans hb2))
        simp only
        split
        · rename_i hw; rw [if_pos hw] at key; exact .inl key
        · rename_i hw; rw [if_neg hw] at key; exact key
    · cases he

theorem drawn_SR (s : SR Γ M0 base σ a w ρ) : SR Γ M0 base σ a { w with drawn := w.drawn + 1 } ρ := by
  obtain ⟨k1, c1⟩ := s.hr.world (w' := { w with drawn := w.drawn + 1 }) (Nat.le_refl _) (fun _ _ => rfl)
  exact ⟨k1, s.fr.ch c1, Γ.keep _ _ s.inv ⟨rfl, rfl, rfl, Nat.le_refl _, fun _ _ => rfl⟩, s.b0⟩

/-! ### Code -/
/-- What the end of a piece of code must give. -/
def QE [KF] (Γ : Ctx) (M0 : Nat → Prop) (base : Nat) (w0 : World) (e : Ex) (σ' : St) (Q : Exit → Act → World → Prop) : Prop :=
  ∀ a' w' ρ', SR Γ M0 base σ' a' w' ρ' → Below base w0 w' → Q (match e with | .normal => .normal | .exit id => .exit id | .ret => .ret) a' w'

theorem code_sound (ok : CallOK Γ P kf call) (hm : P.follows .mixedOrders = true) (n : Nat) {dt : Bool} : ∀ (c : Code) {ac : ACode} {σ σ' : St} {e : Ex} {a : Act} {w : World} {ρ : List (Option Nat)} {Q : Exit → Act → World → Prop}, cCode P kf dt c = some ac →
    exec call (loopN n) ac σ = some (e, σ') → SR Γ M0 base σ a w ρ → QE Γ M0 base w e σ' Q → c.wp P Q a w := by
  intro c
  induction c with
  | skip =>
    intro ac σ σ' e a w ρ Q hc he s hQ
    cases hc
    simp only [exec] at he; cases he
    exact wp_skip (hQ a w ρ s (Below.refl _ _))
  | region id ops draw =>
    intro ac σ σ' e a w ρ Q hc he s hQ
    simp only [cCode] at hc
    split at hc
    · rename_i oos hoos
      have hrun : ∀ {oos : List AOper} {σ2}, exec call (loopN n) (.region oos) σ = some (e, σ2) → execOps call oos σ = some σ2 ∧ e = .normal := by
        intro oos σ2 h
        simp only [exec] at h
        split at h
        · rename_i σ3 h3; cases h; exact ⟨h3, rfl⟩
        · cases h
      have drw : ∀ {md : Md} {oos : List AOper}, optM (cOper P kf md ops) ops.toList = some oos → lexFromA ops oos ops.size 0 (Array.replicate ops.size false) = true → ∀ {σ2}, execOps call oos σ = some σ2 →
          QE Γ M0 base w .normal σ2 Q → (Code.region id ops true).wp P Q a w := by
        intro md oos hoos hchk σ2 hx hQ
        have hlen : oos.length = ops.size := by rw [optM_len hoos]; simp
        refine wp_region_draw fun t => ?_
        simp only [Region.schedule, hm, Bool.true_or, if_true]
        have hany := aAny_lex hlen oos 0 (Array.replicate ops.size false) σ (by simp) (by rw [hlen]; exact hchk) hx
        rw [hlen] at hany
        have hr := aAny_sound ops.size t _ σ hany
        exact wpOps_sound ok hoos (drawn_SR s) hr (fun a' w' ρ' s' hb => hQ a' w' ρ' s' ⟨hb.os, hb.tape, hb.output, hb.size, hb.block⟩)
      split at hc
      · rename_i hd
        subst hd
        split at hc
        · rename_i hchk
          cases hc
          obtain ⟨hx, rfl⟩ := hrun he
          exact drw hoos hchk hx hQ
        · split at hc
          · rename_i oos' hoos'
            split at hc
            · rename_i hchk
              cases hc
              obtain ⟨hx, rfl⟩ := hrun he
              exact drw hoos' hchk hx hQ
            · cases hc
          · cases hc
      · rename_i hd
        cases hc
        obtain ⟨hx, rfl⟩ := hrun he
        have : draw = false := by simpa using hd
        subst this
        exact wp_region_list (ops_sound ok s hoos hx hQ)
    · cases hc
  | seq x y ihx ihy =>
    intro ac σ σ' e a w ρ Q hc he s hQ
    simp only [cCode] at hc
    split at hc
    · rename_i ax ay hx hy
      cases hc
      simp only [exec] at he
      refine wp_seq ?_
      split at he
      · rename_i σ1 he1
        exact ihx hx he1 s (fun a' w' ρ' s' hb => ihy hy he s' (fun a2 w2 ρ2 s2 hb2 => hQ a2 w2 ρ2 s2 (hb.trans hb2)))
      · rename_i hne
        refine ihx hx he s (fun a' w' ρ' s' hb => ?_)
        cases e with
        | normal => exact absurd he (hne σ')
        | exit id => exact hQ a' w' ρ' s' hb
        | ret => exact hQ a' w' ρ' s' hb
    · cases hc
  | cond c x y ihx ihy =>
    intro ac σ σ' e a w ρ Q hc he s hQ
    simp only [cCode] at hc
    split at hc
    · rename_i oc ax ay h1 hx hy
      cases hc
      simp only [exec] at he
      split at he
      · rename_i t ht
        have hb := (opd_sound s h1).bool ht
        refine wp_cond hb ?_
        cases t with
        | true => exact ihx hx he s hQ
        | false => exact ihy hy he s hQ
      · cases he
    · cases hc
  | block id c ih =>
    intro ac σ σ' e a w ρ Q hc he s hQ
    simp only [cCode, Option.map_eq_some_iff] at hc
    obtain ⟨ax, hx, rfl⟩ := hc
    simp only [exec] at he
    refine wp_block ?_
    split at he
    · rename_i i σ1 he1
      refine ih hx he1 s (fun a' w' ρ' s' hb => ?_)
      simp only [Exit.inBlock]
      split at he
      · rename_i e1; cases he; rw [if_pos e1]; exact hQ a' w' ρ' s' hb
      · rename_i e1; cases he; rw [if_neg e1]; exact hQ a' w' ρ' s' hb
    · rename_i hne
      refine ih hx he s (fun a' w' ρ' s' hb => ?_)
      cases e with
      | normal => exact hQ a' w' ρ' s' hb
      | exit i => exact absurd he (hne i σ')
      | ret => exact hQ a' w' ρ' s' hb
  | loop c ih =>
    intro ac σ σ' e a w ρ Q hc he s hQ
    simp only [cCode, Option.map_eq_some_iff] at hc
    obtain ⟨ax, hx, rfl⟩ := hc
    simp only [exec] at he
    refine wp_loop_ghost (fun k a1 w1 => ∃ σ1 ρ1, SR Γ M0 base σ1 a1 w1 ρ1 ∧ Below base w w1 ∧ loopN k (exec call (loopN n) ax) σ1 = some (e, σ')) n ⟨σ, ρ, s, Below.refl _ _, he⟩ ?_
    intro k a1 w1 ⟨σ1, ρ1, s1, hb1, he1⟩
    cases k with
    | zero => simp [loopN] at he1
    | succ k =>
      simp only [loopN] at he1
      split at he1
      · rename_i σ2 he2
        refine ih hx he2 s1 (fun a' w' ρ' s' hb => ?_)
        exact ⟨k, Nat.lt_succ_self k, σ2, ρ', s', hb1.trans hb, he1⟩
      · rename_i hne
        refine ih hx he1 s1 (fun a' w' ρ' s' hb => ?_)
        cases e with
        | normal => exact absurd he1 (hne σ')
        | exit id => exact hQ a' w' ρ' s' (hb1.trans hb)
        | ret => exact hQ a' w' ρ' s' (hb1.trans hb)
  | exit id =>
    intro ac σ σ' e a w ρ Q hc he s hQ
    cases hc
    simp only [exec] at he; cases he
    exact wp_exit (hQ a w ρ s (Below.refl _ _))
  | ret =>
    intro ac σ σ' e a w ρ Q hc he s hQ
    cases hc
    simp only [exec] at he; cases he
    exact wp_ret (hQ a w ρ s (Below.refl _ _))
  | _ =>
    intro ac σ σ' e a w ρ Q hc
    cases hc

/-- The program's functions are the table's; of those that stand beside it the contract is known. -/
structure Impl [KI : KF] (Γ : Ctx) (P : Program) (kf : FuncId → Option Nat) (Φ : Nat → Option AFn) (ext : Nat → List V → Option V) : Prop where
  prog : KI.pr = P
  mixed : P.follows .mixedOrders = true
  fns : ∀ f k, kf f = some k → (∃ fn af, P.funcs[f]? = some fn ∧ cFn P kf fn = some af ∧ Φ k = some af) ∨
    (Φ k = none ∧ (∃ fn, P.funcs[f]? = some fn ∧ fn.body.isNone = false ∧ (fn.name == "runtime.NumGoroutine") = false) ∧ ∀ as r, ext k as = some r → Sound Γ P f as r)
  ins : ∀ f k fn t e z b, kf f = some k → P.funcs[f]? = some fn → fn.origin = "slices.Insert" → fn.params.toList.head? = some t → elemT P t = some e → szT P e = some z → byT P e = some b → InsOK P f z b

theorem Impl.there {Φ : Nat → Option AFn} {ext : Nat → List V → Option V} (im : Impl Γ P kf Φ ext) : ∀ f k, kf f = some k → ∃ fn, P.funcs[f]? = some fn ∧ fn.body.isNone = false ∧ (fn.name == "runtime.NumGoroutine") = false := by
  intro f k hk
  rcases im.fns f k hk with ⟨fn, af, h1, h2, h3⟩ | ⟨_, h, _⟩
  · refine ⟨fn, h1, ?_, ?_⟩
    · unfold cFn at h2
      split at h2
      · rename_i c hb; rw [hb]; rfl
      · cases h2
    · unfold cFn at h2
      split at h2
      · split at h2
        · split at h2
          · cases h2
          · rename_i hn; simpa using hn
        · cases h2
      · cases h2
  · exact h

/-- **What the pure machine gives, the Go function returns.** -/
theorem run_sound {Φ : Nat → Option AFn} {ext : Nat → List V → Option V} (im : Impl Γ P kf Φ ext) : ∀ (n : Nat) (f k : Nat) (as : List V) (r : V), kf f = some k → run Φ ext n k as = some r → Sound Γ P f as r := by
  intro n
  induction n with
  | zero => intro f k as r _ h; simp [run] at h
  | succ n ih =>
    intro f k as r hk h
    rcases im.fns f k hk with ⟨fn, af, h1, h2, h3⟩ | ⟨h1, _, h2⟩
    case inr => simp only [run, h1] at h; exact h2 as r h
    simp only [run, h3] at h
    have ok : CallOK Γ P kf (run Φ ext n) := ⟨im.prog, im.there, fun f k as r hk hr => ih f k as r hk hr, im.ins⟩
    unfold cFn at h2
    split at h2
    · rename_i c hb
      split at h2
      · rename_i ac rs hc hrs
        split at h2
        · cases h2
        · cases h2
          have key : ∀ {e : Ex} {σ' : St}, exec (run Φ ext n) (loopN n) ac (start ⟨fn.ntmps, rs, ac⟩ as) = some (e, σ') → (e = .normal ∨ e = .ret) → finish σ' rs = some r → Sound Γ P f as r := by
            intro e σ' he hee hfin
            have clean : r.clean = true := by
              unfold finish at hfin
              split at hfin
              · cases hfin
              · split at hfin
                · rename_i xs _ _
                  have cl : ∀ {ys}, comps σ'.h xs = some ys → (ys.all fun x => x.2.all L.clean) = true := fun h => (comps_thaw xs _ [] h).1
                  split at hfin
                  · rename_i ls hys; cases hfin; simpa [V.clean] using cl hys
                  · rename_i l hys; cases hfin; simpa [V.clean] using cl hys
                  · rename_i ys _ _ hys
                    split at hfin
                    · cases hfin
                    · cases hfin; simpa [V.clean] using cl hys
                  · cases hfin
                · cases hfin
            refine ⟨clean, fun M0 w vals hG hM ha => calls_of_wp h1 hb ?_⟩
            refine code_sound ok im.mixed n c hc he (start_sound (fn := ⟨fn.ntmps, rs, ac⟩) hG hM ha) (fun a' w' ρ' s' hbl => ?_)
            obtain ⟨_, v, hv, hrr⟩ := finish_sound s' hrs hfin
            rcases hee with rfl | rfl
            · exact bodyPost_end hv s'.fr.defers ⟨v, rfl, hbl, hrr⟩
            · exact bodyPost_ret hv s'.fr.defers ⟨v, rfl, hbl, hrr⟩
          unfold done at h
          split at h
          · rename_i σ' he; exact key he (.inl rfl) h
          · rename_i σ' he; exact key he (.inr rfl) h
          · cases h
      · cases h2
    · cases h2

end
end Gi
