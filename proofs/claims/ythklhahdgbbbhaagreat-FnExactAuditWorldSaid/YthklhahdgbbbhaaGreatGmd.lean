/- Of this proof. -/
import Derived.Test.YthklhahdgbbbhaaGreatGmc
import Derived.Deep.LoopGhost
set_option linter.unusedSimpArgs false
set_option linter.unusedVariables false
namespace Gi
open Go Go.RowKit
variable {KI : KF}
def L.clean : L → Bool
 | .pv _ => true
 | .nil => true
 | .own _ _ => true
 | _ => false
def V.clean : V → Bool
 | .one l => l.clean
 | .agg ls => ls.all L.clean
 | .tup xs => xs.all fun x => x.2.all L.clean
def uV [KF] (M : Nat → Prop) (w : World) (xz : List V) (vals : List Value) : Prop :=
 xz.length = vals.length ∧ ∀ (i : Nat) (x : V) (u : Value), xz[i]? = some x → vals[i]? = some u → VR M w [] [] x u
def Lr [KF] (M0 : Nat → Prop) (base : Nat) (w : World) (r : V) (v : Value) : Prop :=
 ∃ ρ', HR M0 base w ρ' (thaw [] r).2 ∧ VR (Mu M0 ρ' (thaw [] r).2) w ρ' (thaw [] r).2 (thaw [] r).1 v
def Bf [KF] (Γ : Ctx) (P : Program) (f : FuncId) (xz : List V) (r : V) : Prop :=
 r.clean = true ∧ ∀ (M0 : Nat → Prop) (w : World) (vals : Array Value), Γ.G w → (∀ b, M0 b → b < w.heap.size) → uV M0 w xz vals.toList →
  Calls P f vals w fun e w' => ∃ v, e = .returned v ∧ Below w.heap.size w w' ∧ Lr M0 w.heap.size w' r v
section
variable {Γ : Ctx} {P : Program} {M0 : Nat → Prop} {base : Nat} {σ : St} {a : Act} {w : World} {ρ : List (Option Nat)}
def qG (n : Nat) : L → L
 | .arr o => .arr (n + o)
 | l => l
theorem me : ∀ (ls : List L) (g h : List AObj), ls.all L.clean = true → thawL (h ++ g) ls = ((thawL g ls).1.map (qG h.length), h ++ (thawL g ls).2)
 | [], g, h, _ => rfl
 | l :: ls, g, h, hc => by
  simp only [List.all_cons, Bool.and_eq_true] at hc
  cases l with
  | own z es =>
   have ih := me ls (g ++ [.arr z es]) h hc.2
   simp only [thawL, List.append_assoc] at ih ⊢
   rw [ih]
   simp [qG]
  | pv p => simp only [thawL]; rw [me ls g h hc.2]; simp [qG]
  | nil => simp only [thawL]; rw [me ls g h hc.2]; simp [qG]
  | _ => simp [L.clean] at hc
theorem Ag : ∀ (xs : List (Bool × List L)) (g h : List AObj), (xs.all fun x => x.2.all L.clean) = true → thawT (h ++ g) xs = ((thawT g xs).1.map (fun x => (x.1, x.2.map (qG h.length))), h ++ (thawT g xs).2)
 | [], g, h, _ => rfl
 | (b, ls) :: xs, g, h, hc => by
  simp only [List.all_cons, Bool.and_eq_true] at hc
  simp only [thawT]
  rw [me ls g h hc.1]
  simp only
  rw [Ag xs (thawL g ls).2 h hc.2]
  simp
def CI (n : Nat) : V → V
 | .one l => .one (qG n l)
 | .agg ls => .agg (ls.map (qG n))
 | .tup xs => .tup (xs.map fun x => (x.1, x.2.map (qG n)))
theorem nK (h : List AObj) (l : L) : ∃ l' h', thawL h [l] = ([l'], h') := by cases l <;> exact ⟨_, _, rfl⟩
theorem IY (r : V) (h : List AObj) (hc : r.clean = true) : thaw h r = (CI h.length (thaw [] r).1, h ++ (thaw [] r).2) := by
 cases r with
 | one l =>
  have e := me [l] [] h (by simpa [V.clean] using hc)
  simp only [List.append_nil] at e
  obtain ⟨l', h', e'⟩ := nK [] l
  simp only [thaw, e, e', List.map_cons, List.map_nil, CI]
 | agg ls =>
  have e := me ls [] h (by simpa [V.clean] using hc)
  simp only [List.append_nil] at e
  simp only [thaw, e, CI]
 | tup xs =>
  have e := Ag xs [] h (by simpa [V.clean] using hc)
  simp only [List.append_nil] at e
  simp only [thaw, e, CI]
def vl (h : List AObj) : Prop := ∀ ob ∈ h, ∃ z es, ob = .arr z es
theorem ru : ∀ (ls : List L) (g : List AObj), vl g → vl (thawL g ls).2
 | [], _, h => h
 | l :: ls, g, h => by
  cases l with
  | own z es =>
   simp only [thawL]
   refine ru ls _ (fun ob hob => ?_)
   rcases List.mem_append.1 hob with h1 | h1
   ·exact h ob h1
   ·simp at h1; exact ⟨z, es, h1⟩
  | _ => simp only [thawL]; exact ru ls g h
theorem EF : ∀ (xs : List (Bool × List L)) (g : List AObj), vl g → vl (thawT g xs).2
 | [], _, h => h
 | (b, ls) :: xs, g, h => by simp only [thawT]; exact EF xs _ (ru ls g h)
theorem MX (r : V) : vl (thaw [] r).2 := by
 have h0 : vl [] := fun ob h => by cases h
 cases r with
 | one l =>
  obtain ⟨l', h', e'⟩ := nK [] l
  have := ru [l] [] h0
  simp only [thaw, e'] at this ⊢
  exact this
 | agg ls => exact ru ls [] h0
 | tup xs => exact EF xs [] h0
def L.tame : L → Bool
 | .pv _ => true
 | .nil => true
 | .arr _ => true
 | _ => false
theorem nL : ∀ (ls : List L) (g : List AObj), ls.all L.clean = true → (thawL g ls).1.all L.tame = true
 | [], _, _ => rfl
 | l :: ls, g, hc => by
  simp only [List.all_cons, Bool.and_eq_true] at hc
  cases l with
  | own z es => simp only [thawL, List.all_cons, L.tame, Bool.true_and]; exact nL ls _ hc.2
  | pv p => simp only [thawL, List.all_cons, L.tame, Bool.true_and]; exact nL ls _ hc.2
  | nil => simp only [thawL, List.all_cons, L.tame, Bool.true_and]; exact nL ls _ hc.2
  | _ => simp [L.clean] at hc
theorem C1 : ∀ (xs : List (Bool × List L)) (g : List AObj), (xs.all fun x => x.2.all L.clean) = true → ((thawT g xs).1.all fun x => x.2.all L.tame) = true
 | [], _, _ => rfl
 | (b, ls) :: xs, g, hc => by
  simp only [List.all_cons, Bool.and_eq_true] at hc
  simp only [thawT, List.all_cons, Bool.and_eq_true]
  exact ⟨nL ls g hc.1, C1 xs _ hc.2⟩
theorem HR.join {h hr : List AObj} {ρr : List (Option Nat)} {w' : World} (k : HR M0 base w ρ h) (hb : Below w.heap.size w w') (kr : HR (Mu M0 ρ h) w.heap.size w' ρr hr) (ha : vl hr) :
 HR M0 base w' (ρ ++ ρr) (h ++ hr) ∧ Ch (Mu M0 ρ h) (Mu M0 (ρ ++ ρr) (h ++ hr)) w w' ρ (ρ ++ ρr) h (h ++ hr) ∧ (∀ b, Mu M0 (ρ ++ ρr) (h ++ hr) b → Mu (Mu M0 ρ h) ρr hr b) := by
 have left : ∀ {i : Nat} {x : AObj}, i < h.length → (h ++ hr)[i]? = some x → h[i]? = some x := fun hi e => by rwa [List.getElem?_append_left hi] at e
 have leftr : ∀ {i : Nat} {x : Option Nat}, i < h.length → (ρ ++ ρr)[i]? = some x → ρ[i]? = some x := fun hi e => by rwa [List.getElem?_append_left (by rw [k.len]; exact hi)] at e
 have right : ∀ {i : Nat} {x : AObj}, ¬ i < h.length → (h ++ hr)[i]? = some x → hr[i - h.length]? = some x := fun hi e => by rwa [List.getElem?_append_right (by omega)] at e
 have rightr : ∀ {i : Nat} {x : Option Nat}, ¬ i < h.length → (ρ ++ ρr)[i]? = some x → ρr[i - h.length]? = some x := fun hi e => by rwa [List.getElem?_append_right (by rw [k.len]; omega), k.len] at e
 have mu : ∀ b, Mu M0 (ρ ++ ρr) (h ++ hr) b → Mu (Mu M0 ρ h) ρr hr b := by
  intro b hm
  rcases hm with hm | ⟨i, x, hi, hx, hri⟩
  ·exact .inl (.inl hm)
  ·by_cases hlt : i < h.length
   ·exact .inl (.inr ⟨i, x, left hlt hi, hx, leftr hlt hri⟩)
   ·exact .inr ⟨_, x, right hlt hi, hx, rightr hlt hri⟩
 have c : Ch (Mu M0 ρ h) (Mu M0 (ρ ++ ρr) (h ++ hr)) w w' ρ (ρ ++ ρr) h (h ++ hr) := by
  refine ⟨⟨hb.size, fun b hlt hm => ?_, fun b hlt _ => hb.block b hlt⟩, fun b cur hrw => ⟨cur, by obtain ⟨T, hr'⟩ := hrw; exact ⟨T, by rw [hb.block b (jS.lt ⟨T, hr'⟩)]; exact hr'⟩, rfl⟩, fun i q x h1 h2 => ?_⟩
  ·rcases mu b hm with hm | ⟨i, x, hi, hx, hri⟩
   ·exact hm
   ·have := (kr.objs i x _ hi hri).base hx
    omega
  ·have hlt : i < h.length := (List.getElem?_eq_some_iff.1 h2).1
   exact ⟨x, by rw [List.getElem?_append_left (by rw [k.len]; exact hlt)]; exact h1, by rw [List.getElem?_append_left hlt]; exact h2, C8.refl _⟩
 refine ⟨⟨by simp [k.len, kr.len], k.old, Nat.le_trans k.le hb.size, fun i x q hi hq => ?_, fun i i' x x' b h1 h2 m1 m2 r1 r2 => ?_⟩, c, mu⟩
 ·by_cases hlt : i < h.length
  ·have kx := k.objs i x q (left hlt hi) (leftr hlt hq)
   exact kx.keep c (fun b e hd => hb.block b (by subst e; exact kx.lt hd))
  ·have kx := kr.objs _ x q (right hlt hi) (rightr hlt hq)
   obtain ⟨z, es, rfl⟩ := ha x (List.mem_of_getElem? (right hlt hi))
   obtain ⟨hz, hes, kx⟩ := kx
   refine ⟨hz, hes, ?_⟩
   cases q with
   | none => exact kx
   | some b =>
    obtain ⟨hbase, cur, cap, g1, g2, g3, g4, g5⟩ := kx
    refine ⟨Nat.le_trans k.le hbase, cur, cap, g1, g2, g3, g4, fun i1 e1 j1 p1 he1 hp1 => ?_⟩
    obtain ⟨v, hv, hrd⟩ := g5 i1 e1 j1 p1 he1 hp1
    exact ⟨v, hv, hrd.weak mu⟩
 ·by_cases l1 : i < h.length <;> by_cases l2 : i' < h.length
  ·exact k.apart i i' x x' b (left l1 h1) (left l2 h2) m1 m2 (leftr l1 r1) (leftr l2 r2)
  ·have e1 := (k.objs i x _ (left l1 h1) (leftr l1 r1)).lt (AObj.mut_live m1)
   have e2 := (kr.objs _ x' _ (right l2 h2) (rightr l2 r2)).base m2
   omega
  ·have e1 := (k.objs i' x' _ (left l2 h2) (leftr l2 r2)).lt (AObj.mut_live m2)
   have e2 := (kr.objs _ x _ (right l1 h1) (rightr l1 r1)).base m1
   omega
  ·have := kr.apart _ _ x x' b (right l1 h1) (right l2 h2) m1 m2 (rightr l1 r1) (rightr l2 r2)
   omega
theorem LR.shift {h hr : List AObj} {ρr : List (Option Nat)} {M M' : Nat → Prop} (hl : ρ.length = h.length) (mu : ∀ b, M' b → M b) {l : L} {v : Value} (ht : l.tame = true) (r : LR M w ρr hr l v) : LR M' w (ρ ++ ρr) (h ++ hr) (qG h.length l) v := by
 cases l with
 | pv p => exact aV.weak mu r
 | nil => exact r
 | arr o =>
  obtain ⟨q, ob, h1, h2, hs⟩ := r
  refine ⟨q, ob, ?_, ?_, hs⟩
  ·rw [List.getElem?_append_right (by omega), hl]; simpa using h1
  ·rw [List.getElem?_append_right (by omega)]; simpa using h2
 | _ => simp [L.tame] at ht
theorem uW.shift {h hr : List AObj} {ρr : List (Option Nat)} {M M' : Nat → Prop} (hl : ρ.length = h.length) (mu : ∀ b, M' b → M b) {ls : List L} {vs : List Value} (ht : ls.all L.tame = true) (r : uW M w ρr hr ls vs) : uW M' w (ρ ++ ρr) (h ++ hr) (ls.map (qG h.length)) vs := by
 refine ⟨by simpa using r.1, fun i l v hl' hv => ?_⟩
 simp only [List.getElem?_map, Option.map_eq_some_iff] at hl'
 obtain ⟨l0, h0, rfl⟩ := hl'
 exact (r.2 i l0 v h0 hv).shift hl mu ((List.all_eq_true.1 ht) l0 (List.mem_of_getElem? h0))
theorem VR.shift {h hr : List AObj} {ρr : List (Option Nat)} {M M' : Nat → Prop} (hl : ρ.length = h.length) (mu : ∀ b, M' b → M b) {x : V} {v : Value} (ht : (match x with | .one l => l.tame | .agg ls => ls.all L.tame | .tup xs => xs.all fun x => x.2.all L.tame) = true) (r : VR M w ρr hr x v) : VR M' w (ρ ++ ρr) (h ++ hr) (CI h.length x) v := by
 cases x with
 | one l => exact LR.shift hl mu ht r
 | agg ls => obtain ⟨cs, rfl, hr'⟩ := r; exact ⟨cs, rfl, hr'.shift hl mu ht⟩
 | tup xs =>
  obtain ⟨vs, rfl, h1, h2⟩ := r
  refine ⟨vs, rfl, by simpa using h1, fun i x u hx hu => ?_⟩
  simp only [List.getElem?_map, Option.map_eq_some_iff] at hx
  obtain ⟨x0, h0, rfl⟩ := hx
  have hth := (List.all_eq_true.1 ht) x0 (List.mem_of_getElem? h0)
  have := h2 i x0 u h0 hu
  obtain ⟨b, ls⟩ := x0
  cases b with
  | true => obtain ⟨cs, rfl, hr'⟩ := this; exact ⟨cs, rfl, hr'.shift hl mu hth⟩
  | false =>
   match ls, this, hth with
   | [l], this, hth => exact LR.shift hl mu (by simpa using hth) this
theorem Lc (r : V) (hc : r.clean = true) : (match (thaw [] r).1 with | .one l => l.tame | .agg ls => ls.all L.tame | .tup xs => xs.all fun x => x.2.all L.tame) = true := by
 cases r with
 | one l =>
  obtain ⟨l', h', e'⟩ := nK [] l
  have := nL [l] [] (by simpa [V.clean] using hc)
  simp only [thaw, e'] at this ⊢
  simpa using this
 | agg ls => exact nL ls [] (by simpa [V.clean] using hc)
 | tup xs => exact C1 xs [] (by simpa [V.clean] using hc)
theorem My {h : List AObj} {w' : World} {r : V} {v : Value} (k : HR M0 base w ρ h) (hb : Below w.heap.size w w') (hc : r.clean = true) (rr : Lr (Mu M0 ρ h) w.heap.size w' r v) :
 ∃ ρ', HR M0 base w' ρ' (thaw h r).2 ∧ Ch (Mu M0 ρ h) (Mu M0 ρ' (thaw h r).2) w w' ρ ρ' h (thaw h r).2 ∧ VR (Mu M0 ρ' (thaw h r).2) w' ρ' (thaw h r).2 (thaw h r).1 v := by
 obtain ⟨ρr, kr, vr⟩ := rr
 obtain ⟨g1, g2, g3⟩ := k.join hb kr (MX r)
 rw [IY r h hc]
 exact ⟨ρ ++ ρr, g1, g2, vr.shift k.len g3 (Lc r hc)⟩
end
end Gi
namespace Gi
open Go Go.RowKit
variable {KI : KF}
section
variable {Γ : Ctx} {P : Program} {M0 : Nat → Prop} {base : Nat} {σ : St} {a : Act} {w : World} {ρ : List (Option Nat)}
theorem Mu.lt {h : List AObj} (k : HR M0 base w ρ h) {b : Nat} (hm : Mu M0 ρ h b) : b < w.heap.size := by
 rcases hm with hm | ⟨o, ob, ho, hmut, hr⟩
 ·exact Nat.lt_of_lt_of_le (k.old b hm) k.le
 ·exact (k.objs o ob _ ho hr).lt (AObj.mut_live hmut)
def O7 (g : List AObj) (ls : List L) (q : List L × List AObj) : Prop :=
 q.1.length = ls.length ∧ (∃ t, q.2 = g ++ t) ∧
  ∀ (i : Nat) (l : L), ls[i]? = some l → ∃ l', q.1[i]? = some l' ∧ ((∃ z es o, l = .own z es ∧ l' = .arr o ∧ q.2[o]? = some (.arr z es)) ∨ ((∀ z es, l ≠ .own z es) ∧ l' = l))
theorem lj : ∀ (ls : List L) (g : List AObj), ls.all L.clean = true → O7 g ls (thawL g ls)
 | [], g, _ => ⟨rfl, ⟨[], by simp [thawL]⟩, fun i l hl => by simp at hl⟩
 | l :: ls, g, hc => by
  simp only [List.all_cons, Bool.and_eq_true] at hc
  have other : (∀ z es, l ≠ .own z es) → thawL g (l :: ls) = (l :: (thawL g ls).1, (thawL g ls).2) → O7 g (l :: ls) (thawL g (l :: ls)) := fun hno e => by
   obtain ⟨h1, ⟨t, ht⟩, h3⟩ := lj ls g hc.2
   rw [e]
   refine ⟨by simp [h1], ⟨t, ht⟩, fun i l' hl => ?_⟩
   cases i with
   | zero => simp at hl; subst hl; exact ⟨l, rfl, .inr ⟨hno, rfl⟩⟩
   | succ i => simpa using h3 i l' (by simpa using hl)
  cases l with
  | own z es =>
   obtain ⟨h1, ⟨t, ht⟩, h3⟩ := lj ls (g ++ [.arr z es]) hc.2
   simp only [thawL]
   refine ⟨by simp [h1], ⟨[.arr z es] ++ t, by simp only; rw [ht, List.append_assoc]⟩, fun i l' hl => ?_⟩
   cases i with
   | zero =>
    simp at hl; subst hl
    refine ⟨.arr g.length, rfl, .inl ⟨z, es, g.length, rfl, rfl, ?_⟩⟩
    simp only
    rw [ht, List.append_assoc, List.getElem?_append_right (Nat.le_refl _)]
    simp
   | succ i => simpa using h3 i l' (by simpa using hl)
  | pv p => exact other (by simp) rfl
  | nil => exact other (by simp) rfl
  | _ => simp [L.clean] at hc
theorem v7 {h hr : List AObj} {ρr : List (Option Nat)} {w' : World} (k : HR M0 base w ρ h) (hb : Below w.heap.size w w') (kr : HR (Mu M0 ρ h) w.heap.size w' ρr hr) {l l' : L} {v : Value}
 (hl : (∃ z es o, l = .own z es ∧ l' = .arr o ∧ hr[o]? = some (.arr z es)) ∨ ((∀ z es, l ≠ .own z es) ∧ l' = l)) (hc : l.clean = true) (r : LR (Mu (Mu M0 ρ h) ρr hr) w' ρr hr l' v) : LR (Mu M0 ρ h) w' ρ h (dJ l) v := by
 have weak : ∀ b, Mu M0 ρ h b → Mu (Mu M0 ρ h) ρr hr b := fun b hm => .inl hm
 rcases hl with ⟨z, es, o, rfl, rfl, ho⟩ | ⟨hno, rfl⟩
 ·obtain ⟨q, ob, h1, h2, hs⟩ := r
  rw [ho] at h2; cases h2
  obtain ⟨hz, hes, kx⟩ := kr.objs o _ q ho h1
  simp only [dJ]
  show aV (Mu M0 ρ h) w' (.lst es) v
  cases q with
  | none =>
   obtain rfl : es = [] := kx
   simp only [sL] at hs; subst hs
   simp only [aV]
   exact .inl ⟨by trivial, _, _, rfl⟩
  | some b =>
   obtain ⟨hbase, cur, cap, hrow, g1, g2, g3, g4⟩ := kx
   obtain ⟨cur', cap', hrow', _, hc', _, rfl⟩ := hs
   exact v5 hrow hes (fun hm => by have := Mu.lt k hm; omega) hc' (fun i e j p he hp => by
    obtain ⟨v, hv, hrd⟩ := g4 i e j p he hp
    exact ⟨v, hv, hrd.weak weak⟩)
 ·cases l' with
  | pv p => exact aV.weak weak r
  | nil => exact r
  | own z es => exact absurd rfl (hno z es)
  | _ => simp [L.clean] at hc
theorem zY {h : List AObj} {ρr : List (Option Nat)} {w' : World} (k : HR M0 base w ρ h) (hb : Below w.heap.size w w') {ls : List L} {vs : List Value} {g : List AObj} {hr : List AObj} (hhr : ∃ t, hr = (thawL g ls).2 ++ t) (kr : HR (Mu M0 ρ h) w.heap.size w' ρr hr) (hc : ls.all L.clean = true)
 (r : uW (Mu (Mu M0 ρ h) ρr hr) w' ρr hr (thawL g ls).1 vs) : uW (Mu M0 ρ h) w' ρ h (ls.map dJ) vs := by
 obtain ⟨h1, _, h3⟩ := lj ls g hc
 obtain ⟨t, ht⟩ := hhr
 refine ⟨by rw [List.length_map, ← h1]; exact r.1, fun i l v hl hv => ?_⟩
 simp only [List.getElem?_map, Option.map_eq_some_iff] at hl
 obtain ⟨l0, h0, rfl⟩ := hl
 obtain ⟨l', hl', hcase⟩ := h3 i l0 h0
 refine v7 k hb kr ?_ ((List.all_eq_true.1 hc) l0 (List.mem_of_getElem? h0)) (r.2 i l' v hl' hv)
 rcases hcase with ⟨z, es, o, e1, e2, e3⟩ | hcase
 ·exact .inl ⟨z, es, o, e1, e2, by rw [ht, List.getElem?_append_left (List.getElem?_eq_some_iff.1 e3).1]; exact e3⟩
 ·exact .inr hcase
theorem EG : ∀ (xs : List (Bool × List L)) (g : List AObj), (xs.all fun x => x.2.all L.clean) = true → ∃ t, (thawT g xs).2 = g ++ t
 | [], g, _ => ⟨[], by simp [thawT]⟩
 | (b, ls) :: xs, g, hc => by
  simp only [List.all_cons, Bool.and_eq_true] at hc
  obtain ⟨_, ⟨t, ht⟩, _⟩ := lj ls g hc.1
  obtain ⟨t', ht'⟩ := EG xs (thawL g ls).2 hc.2
  exact ⟨t ++ t', by simp only [thawT]; rw [ht', ht, List.append_assoc]⟩
theorem C0 : ∀ (xs : List (Bool × List L)) (g : List AObj), (xs.all fun x => x.2.all L.clean) = true → (thawT g xs).1.length = xs.length ∧
 ∀ (i : Nat) (x : Bool × List L), xs[i]? = some x → ∃ g', (thawT g xs).1[i]? = some (x.1, (thawL g' x.2).1) ∧ ∃ t, (thawT g xs).2 = (thawL g' x.2).2 ++ t
 | [], g, _ => ⟨rfl, fun i x hx => by simp at hx⟩
 | (b, ls) :: xs, g, hc => by
  simp only [List.all_cons, Bool.and_eq_true] at hc
  obtain ⟨h1, h2⟩ := C0 xs (thawL g ls).2 hc.2
  simp only [thawT]
  refine ⟨by simp [h1], fun i x hx => ?_⟩
  cases i with
  | zero => simp at hx; subst hx; exact ⟨g, rfl, EG xs _ hc.2⟩
  | succ i => simpa using h2 i x (by simpa using hx)
theorem JG {h : List AObj} {w' : World} {r : V} {v : Value} (k : HR M0 base w ρ h) (hb : Below w.heap.size w w') (hc : r.clean = true) (rr : Lr (Mu M0 ρ h) w.heap.size w' r v) : VR (Mu M0 ρ h) w' ρ h (dX r) v := by
 obtain ⟨ρr, kr, vr⟩ := rr
 cases r with
 | one l =>
  obtain ⟨l', h', e'⟩ := nK [] l
  simp only [thaw, e'] at kr vr
  have hcl : [l].all L.clean = true := by simpa [V.clean] using hc
  obtain ⟨_, _, h3⟩ := lj [l] [] hcl
  obtain ⟨l'', hl'', hcase⟩ := h3 0 l rfl
  rw [e'] at hl'' hcase
  simp at hl''; subst hl''
  exact v7 k hb kr hcase (by simpa using hcl) vr
 | agg ls =>
  obtain ⟨cs, rfl, hl⟩ := vr
  exact ⟨cs, rfl, zY k hb ⟨[], by simp [thaw]⟩ kr (by simpa [V.clean] using hc) hl⟩
 | tup xs =>
  have hcl : (xs.all fun x => x.2.all L.clean) = true := by simpa [V.clean] using hc
  obtain ⟨vs, rfl, h1, h2⟩ := vr
  obtain ⟨t1, t2⟩ := C0 xs [] hcl
  refine ⟨vs, rfl, ?_, fun i x u hx hu => ?_⟩
  ·simp only [dX, List.length_map]; rw [← t1]; exact h1
  ·simp only [List.getElem?_map, Option.map_eq_some_iff] at hx
   obtain ⟨x0, h0, rfl⟩ := hx
   obtain ⟨g', e1, e2⟩ := t2 i x0 h0
   have := h2 i _ u e1 hu
   have hx0 := (List.all_eq_true.1 hcl) x0 (List.mem_of_getElem? h0)
   obtain ⟨b, ls⟩ := x0
   cases b with
   | true => obtain ⟨cs, rfl, hr'⟩ := this; exact ⟨cs, rfl, zY k hb e2 kr hx0 hr'⟩
   | false =>
    match ls, this, hx0, e2 with
    | [l], this, hx0, e2 =>
     obtain ⟨l', h', e'⟩ := nK g' l
     simp only [e'] at this
     obtain ⟨_, _, h3⟩ := lj [l] g' hx0
     obtain ⟨l'', hl'', hcase⟩ := h3 0 l rfl
     rw [e'] at hl'' hcase
     simp at hl''; subst hl''
     obtain ⟨t, ht⟩ := e2
     refine v7 k hb kr ?_ (by simpa using hx0) this
     rcases hcase with ⟨z, es, o, q1, q2, q3⟩ | hcase
     ·refine .inl ⟨z, es, o, q1, q2, ?_⟩
      have : (thaw [] (V.tup xs)).2 = (thawT [] xs).2 := rfl
      rw [this, ht, e', List.getElem?_append_left (List.getElem?_eq_some_iff.1 q3).1]
      exact q3
     ·exact .inr hcase
    | [], this, _, _ => exact this.elim
    | l1 :: l2 :: ls', this, hx0, _ =>
     have hlen := (lj (l1 :: l2 :: ls') g' hx0).1
     revert this
     generalize (thawL g' (l1 :: l2 :: ls')).1 = q at hlen
     intro this
     match q, hlen, this with
     | _ :: _ :: _, _, this => exact this.elim
theorem wq.weak {M M' : Nat → Prop} (h : ∀ b, M' b → M b) {e : List PV} {u : Value} (r : wq M w e u) : wq M' w e u :=
 r.go ⟨Nat.le_refl _, fun b _ => h b, fun _ _ _ => rfl⟩
theorem wq.arg {M : Nat → Prop} {e : List PV} {u : Value} (r : wq M w e u) : VR M w [] [] (qL e) u := by
 obtain ⟨b, o, rfl, hb, hlt, hr⟩ := r
 exact ⟨b, o, rfl, hb, hlt, hr⟩
theorem o5 {h : List AObj} {M : Nat → Prop} : ∀ {vs xz : List V} {us : List Value}, aB h vs = some xz → vs.length = us.length → (∀ (i : Nat) (v : V) (u : Value), vs[i]? = some v → us[i]? = some u → VR (Mu M0 ρ h) w ρ h v u) →
 (∀ (v : V) (l : L) (p : PV) (u : Value), v ∈ vs → l ∈ v.cells → LR (Mu M0 ρ h) w ρ h l u → l.view h = some p → aV M w p u) → (∀ e u, wq (Mu M0 ρ h) w e u → wq M w e u) → uV M w xz us
 | [], xz, us, e, hl, _, _, _ => by
  simp [aB] at e; subst e
  exact ⟨hl, fun i x u hx => by simp at hx⟩
 | v :: vs, xz, [], e, hl, _, _, _ => by simp at hl
 | v :: vs, xz, u :: us, e, hl, hvr, hrd, hcap => by
  unfold aB at e
  split at e
  ·rename_i p ps h1 h2
   cases e
   obtain ⟨i1, i2⟩ := o5 h2 (by simpa using hl) (fun i v' u' hv hu => hvr (i + 1) v' u' (by simpa using hv) (by simpa using hu)) (fun v' l p u' hv => hrd v' l p u' (by simp [hv])) hcap
   refine ⟨by simp [i1], fun i x u' hx hu => ?_⟩
   cases i with
   | succ i => exact i2 i x u' (by simpa using hx) (by simpa using hu)
   | zero =>
    simp at hx hu
    subst hx; subst hu
    have r := hvr 0 v u rfl rfl
    cases v with
    | one l =>
     by_cases hfn : ∃ k caps, l = .fn k caps
     ·obtain ⟨k, caps, rfl⟩ := hfn
      simp only [V.view] at h1
      cases h1
      obtain ⟨f, cs, rfl, hk, hl2, hc⟩ := r
      refine ⟨f, cs, rfl, hk, hl2, fun i e u' he hu' => ?_⟩
      exact hcap _ _ (hc i e u' he hu')
     ·have h1' : (match l.view h with | some p => some (V.one (.pv p)) | none => none) = some p := by
       cases l with
       | fn k caps => exact absurd ⟨k, caps, rfl⟩ hfn
       | _ => exact h1
      split at h1'
      ·rename_i q hq
       cases h1'
       exact hrd (.one l) l q u (by simp) (by simp [V.cells]) r hq
      ·cases h1'
    | agg ls =>
     simp only [V.view] at h1
     split at h1
     ·rename_i qs hqs
      cases h1
      obtain ⟨cs, rfl, hls⟩ := r
      obtain ⟨e1, e2⟩ := rz hqs
      refine ⟨cs, rfl, by rw [List.length_map, e1]; exact hls.1, fun j l c hl' hc => ?_⟩
      simp only [List.getElem?_map, Option.map_eq_some_iff] at hl'
      obtain ⟨q, hq, rfl⟩ := hl'
      have hj : j < ls.length := by rw [← e1]; exact (List.getElem?_eq_some_iff.1 hq).1
      have hlj : ls[j]? = some ls[j] := by simp [hj]
      obtain ⟨q', hq', hv'⟩ := e2 j _ hlj
      rw [hq] at hq'; cases hq'
      exact hrd (.agg ls) ls[j] q c (by simp) (List.getElem_mem hj) (hls.2 j _ c hlj hc) hv'
     ·cases h1
    | tup xs => cases h1
  ·cases e
theorem Mu.nil (b : Nat) : Mu M0 [] [] b ↔ M0 b := by simp [Mu]
theorem Hz {fn : AFn} {xz : List V} {vals : Array Value} (hG : Γ.G w) (h0 : ∀ b, M0 b → b < w.heap.size) (ha : uV M0 w xz vals.toList) :
 SR Γ M0 w.heap.size (bW fn xz) { tmps := vals ++ Array.replicate (fn.ntmps - vals.size) undef, defers := [] } w [] := by
 have hl : xz.length = vals.size := by rw [ha.1]; simp
 refine ⟨⟨rfl, h0, Nat.le_refl _, fun o ob r ho => by simp [bW] at ho, fun o o' ob ob' b ho => by simp [bW] at ho⟩, ⟨rfl, by simp [bW, hl], fun i v u hv hu => ?_⟩, hG, Γ.size w hG⟩
 have weak : ∀ {x : V} {u : Value}, VR M0 w [] [] x u → VR (Mu M0 [] []) w [] [] x u := fun r => r.ch ⟨⟨Nat.le_refl _, fun b _ hm => (Mu.nil b).1 hm, fun _ _ _ => rfl⟩, fun _ cur hr => ⟨cur, hr, rfl⟩, fun o r ob hr => by simp at hr⟩
 simp only [bW] at hv
 by_cases hi : i < xz.length
 ·rw [List.getElem?_append_left hi] at hv
  rw [Array.getElem?_append_left (by omega)] at hu
  exact weak (ha.2 i v u hv (by simpa using hu))
 ·rw [List.getElem?_append_right (by omega)] at hv
  rw [Array.getElem?_append_right (by omega)] at hu
  have e1 : v = .tup [] := by
   have := (List.getElem?_eq_some_iff.1 hv).2
   simp at this; exact this.symm
  have e2 : u = undef := by
   have := (Array.getElem?_eq_some_iff.1 hu).2
   simp at this; exact this.symm
  rw [e1, e2]
  exact VR.undef
end
end Gi
namespace Gi
open Go Go.RowKit
variable {KI : KF}
section
variable {Γ : Ctx} {P : Program} {M0 : Nat → Prop} {base : Nat} {σ : St} {a : Act} {w : World} {ρ : List (Option Nat)}
def mf (h : List AObj) (o : Nat) : AObj := (h[o]?).getD .dead
def s8 (ρ : List (Option Nat)) (o : Nat) : Option Nat := (ρ[o]?).getD none
theorem HR.sub {h : List AObj} (k : HR M0 base w ρ h) {os : List Nat} (ho : ∀ o ∈ os, ∃ z es, h[o]? = some (.arr z es)) (hn : os.Nodup) :
 HR M0 base w (os.map (s8 ρ)) (os.map (mf h)) ∧ (∀ b, Mu M0 (os.map (s8 ρ)) (os.map (mf h)) b → Mu M0 ρ h b) := by
 have get : ∀ {i : Nat} {x : AObj} {r : Option Nat}, (os.map (mf h))[i]? = some x → (os.map (s8 ρ))[i]? = some r → ∃ o z es, os[i]? = some o ∧ h[o]? = some x ∧ x = .arr z es ∧ ρ[o]? = some r := by
  intro i x r hx hr
  simp only [List.getElem?_map, Option.map_eq_some_iff] at hx hr
  obtain ⟨o, h1, rfl⟩ := hx
  obtain ⟨o', h2, rfl⟩ := hr
  rw [h1] at h2; cases h2
  obtain ⟨z, es, hz⟩ := ho o (List.mem_of_getElem? h1)
  obtain ⟨r, hr⟩ := k.mem hz
  exact ⟨o, z, es, h1, by simp [mf, hz], by simp [mf, hz], by simp [s8, hr]⟩
 have mu : ∀ b, Mu M0 (os.map (s8 ρ)) (os.map (mf h)) b → Mu M0 ρ h b := by
  intro b hm
  rcases hm with hm | ⟨i, x, hi, hx, hri⟩
  ·exact .inl hm
  ·obtain ⟨o, z, es, _, h1, _, h2⟩ := get hi hri
   exact .inr ⟨o, x, h1, hx, h2⟩
 refine ⟨⟨by simp, k.old, k.le, fun i x r hi hr => ?_, fun i i' x x' b h1 h2 m1 m2 r1 r2 => ?_⟩, mu⟩
 ·obtain ⟨o, z, es, _, h1, rfl, h2⟩ := get hi hr
  obtain ⟨hz, hes, kx⟩ := k.objs o _ r h1 h2
  refine ⟨hz, hes, ?_⟩
  cases r with
  | none => exact kx
  | some b =>
   obtain ⟨g0, cur, cap, g1, g2, g3, g4, g5⟩ := kx
   exact ⟨g0, cur, cap, g1, g2, g3, g4, fun i1 e1 j1 p1 he1 hp1 => by
    obtain ⟨v, hv, hrd⟩ := g5 i1 e1 j1 p1 he1 hp1
    exact ⟨v, hv, hrd.weak mu⟩⟩
 ·obtain ⟨o, _, _, p1, q1, _, s1⟩ := get h1 r1
  obtain ⟨o', _, _, p2, q2, _, s2⟩ := get h2 r2
  have e := k.apart o o' x x' b q1 q2 m1 m2 s1 s2
  subst e
  exact (List.getElem?_inj (List.getElem?_eq_some_iff.1 p1).1 hn).1 (p1.trans p2.symm)
def i7 (h : List AObj) (ls : List L) : List Nat := ls.filterMap fun
 | .arr o => match h[o]? with
  | some (.arr _ _) => some o
  | _ => none
 | _ => none
def Nc (h : List AObj) (OS : List Nat) (l l' : L) : Prop :=
 match l with
 | .pv p => l' = .pv p
 | .nil => l' = .nil
 | .arr o => (∃ z es q, h[o]? = some (.arr z es) ∧ l' = .arr q ∧ OS[q]? = some o) ∨ (∃ z es, h[o]? = some (.froz z es) ∧ l' = .pv (.lst es))
 | _ => False
theorem Nc.mono {h : List AObj} {OS t : List Nat} {l l' : L} (r : Nc h OS l l') : Nc h (OS ++ t) l l' := by
 cases l with
 | arr o =>
  rcases r with ⟨z, es, q, h1, h2, h3⟩ | r
  ·exact .inl ⟨z, es, q, h1, h2, by rw [List.getElem?_append_left (List.getElem?_eq_some_iff.1 h3).1]; exact h3⟩
  ·exact .inr r
 | _ => exact r
def O4 (h : List AObj) (OS : List Nat) (ls : List L) (q : List L × List AObj) : Prop :=
 q.2 = OS.map (mf h) ∧ q.1.length = ls.length ∧ ∀ (i : Nat) (l : L), ls[i]? = some l → ∃ l', q.1[i]? = some l' ∧ Nc h OS l l'
theorem yT {h : List AObj} : ∀ (ls xs : List L) (os : List Nat), bq h ls = some xs → xs.all L.clean = true ∧ O4 h (os ++ i7 h ls) ls (thawL (os.map (mf h)) xs)
 | [], xs, os, e => by
  simp [bq] at e; subst e
  exact ⟨rfl, by simp [i7, thawL], rfl, fun i l hl => by simp at hl⟩
 | l :: ls, xs, os, e => by
  unfold bq at e
  split at e
  ·rename_i x xs' h1 h2
   cases e
   have other : i7 h (l :: ls) = i7 h ls → x.clean = true → (∀ g, thawL g (x :: xs') = (x :: (thawL g xs').1, (thawL g xs').2)) → (∀ OS, Nc h OS l x) → (x :: xs').all L.clean = true ∧ O4 h (os ++ i7 h (l :: ls)) (l :: ls) (thawL (os.map (mf h)) (x :: xs')) := by
    intro em hc et hr
    obtain ⟨i0, i1, i2, i3⟩ := yT ls xs' os h2
    rw [em, et]
    refine ⟨by simp only [List.all_cons, hc, i0, Bool.and_self], i1, by simp [i2], fun i l1 hl1 => ?_⟩
    cases i with
    | zero => simp at hl1; subst hl1; exact ⟨x, rfl, hr _⟩
    | succ i => simpa using i3 i l1 (by simpa using hl1)
   cases l with
   | pv p => simp only [bZ] at h1; cases h1; exact other rfl rfl (fun _ => rfl) (fun _ => rfl)
   | nil => simp only [bZ] at h1; cases h1; exact other rfl rfl (fun _ => rfl) (fun _ => rfl)
   | arr o =>
    simp only [bZ] at h1
    split at h1
    ·rename_i z es ho
     cases h1
     obtain ⟨i0, i1, i2, i3⟩ := yT ls xs' (os ++ [o]) h2
     have em : i7 h (.arr o :: ls) = o :: i7 h ls := by simp [i7, ho]
     have eg : os.map (mf h) ++ [AObj.arr z es] = (os ++ [o]).map (mf h) := by simp [mf, ho]
     rw [em]
     have eo : os ++ o :: i7 h ls = os ++ [o] ++ i7 h ls := by simp
     refine ⟨by simp only [List.all_cons, L.clean, i0, Bool.and_self], ?_⟩
     simp only [thawL]
     rw [eg, eo]
     refine ⟨i1, by rw [List.length_cons, List.length_cons, i2], fun i l1 hl1 => ?_⟩
     cases i with
     | zero =>
      simp at hl1; subst hl1
      refine ⟨_, rfl, .inl ⟨z, es, (os.map (mf h)).length, ho, rfl, ?_⟩⟩
      simp
     | succ i =>
      obtain ⟨l', h3, h4⟩ := i3 i l1 (by simpa using hl1)
      exact ⟨l', by rw [List.getElem?_cons_succ]; exact h3, h4⟩
    ·rename_i z es ho
     cases h1
     exact other (by simp [i7, ho]) rfl (fun _ => rfl) (fun _ => .inr ⟨z, es, ho, rfl⟩)
    ·cases h1
   | _ => cases h1
  ·cases e
theorem Nc.lr {h : List AObj} (k : HR M0 base w ρ h) {OS : List Nat} (mu : ∀ b, Mu M0 (OS.map (s8 ρ)) (OS.map (mf h)) b → Mu M0 ρ h b) {l l' : L} {u : Value} (r : Nc h OS l l') (hl : LR (Mu M0 ρ h) w ρ h l u) :
 LR (Mu M0 (OS.map (s8 ρ)) (OS.map (mf h))) w (OS.map (s8 ρ)) (OS.map (mf h)) l' u := by
 cases l with
 | pv p => simp only [Nc] at r; subst r; exact aV.weak mu hl
 | nil => simp only [Nc] at r; subst r; exact hl
 | arr o =>
  rcases r with ⟨z, es, q, h1, rfl, h3⟩ | ⟨z, es, h1, rfl⟩
  ·obtain ⟨r0, ob, hr0, hob, hs⟩ := hl
   rw [h1] at hob; cases hob
   exact ⟨r0, .arr z es, by simp [h3, s8, hr0], by simp [h3, mf, h1], hs⟩
  ·exact aV.weak mu (qj k hl (by simp [L.view, h1]) (by simp [L.mut, h1]))
 | _ => exact r.elim
def V.isAgg : V → Bool
 | .agg _ => true
 | _ => false
theorem rS {h : List AObj} : ∀ (vs : List V) (xs : List (Bool × List L)) (os : List Nat), cj h vs = some xs → (xs.all fun x => x.2.all L.clean) = true ∧
 (thawT (os.map (mf h)) xs).2 = (os ++ i7 h (vs.flatMap V.cells)).map (mf h) ∧ (thawT (os.map (mf h)) xs).1.length = vs.length ∧
 ∀ (i : Nat) (v : V), vs[i]? = some v → ∃ ls', (thawT (os.map (mf h)) xs).1[i]? = some (v.isAgg, ls') ∧ (∀ t, v ≠ .tup t) ∧ ls'.length = v.cells.length ∧ ∀ (j : Nat) (l : L), v.cells[j]? = some l → ∃ l', ls'[j]? = some l' ∧ Nc h (os ++ i7 h (vs.flatMap V.cells)) l l'
 | [], xs, os, e => by
  simp [cj] at e; subst e
  exact ⟨rfl, by simp [thawT, i7], rfl, fun i v hv => by simp at hv⟩
 | v :: vs, xs, os, e => by
  unfold cj at e
  split at e
  ·rename_i x xs' h1 h2
   cases e
   have key : ∃ ls', bq h v.cells = some ls' ∧ x = (v.isAgg, ls') ∧ ∀ t, v ≠ .tup t := by
    cases v with
    | one l =>
     simp only [comp] at h1
     split at h1
     ·rename_i ys hys; cases h1; exact ⟨ys, hys, rfl, by simp⟩
     ·cases h1
    | agg ls =>
     simp only [comp] at h1
     split at h1
     ·rename_i ys hys; cases h1; exact ⟨ys, hys, rfl, by simp⟩
     ·cases h1
    | tup t => cases h1
   obtain ⟨ls', hg, rfl, hnt⟩ := key
   obtain ⟨c0, g1, g2, g3⟩ := yT v.cells ls' os hg
   obtain ⟨i0, i1, i2, i3⟩ := rS vs xs' (os ++ i7 h v.cells) h2
   have em : os ++ i7 h ((v :: vs).flatMap V.cells) = os ++ i7 h v.cells ++ i7 h (vs.flatMap V.cells) := by simp [i7]
   rw [em]
   simp only [thawT]
   rw [g1]
   refine ⟨by simp only [List.all_cons, c0, i0, Bool.and_self], i1, by rw [List.length_cons, List.length_cons, i2], fun i v' hv' => ?_⟩
   cases i with
   | zero =>
    simp at hv'; subst hv'
    refine ⟨_, rfl, hnt, g2, fun j l hl => ?_⟩
    obtain ⟨l', h3, h4⟩ := g3 j l hl
    exact ⟨l', h3, h4.mono⟩
   | succ i =>
    obtain ⟨ls2, q1, q2⟩ := i3 i v' (by simpa using hv')
    exact ⟨ls2, by rw [List.getElem?_cons_succ]; exact q1, q2⟩
  ·cases e
theorem Mn {h : List AObj} {ls : List L} : (i7 h ls).Sublist (a8 ls) := by
 induction ls with
 | nil => exact List.Sublist.slnil
 | cons l ls ih =>
  cases l with
  | arr o =>
   simp only [a8, List.filterMap_cons]
   by_cases hm : ∃ z es, h[o]? = some (.arr z es)
   ·obtain ⟨z, es, hm⟩ := hm
    simp only [i7, List.filterMap_cons, hm]
    exact List.Sublist.cons_cons o ih
   ·have : i7 h (.arr o :: ls) = i7 h ls := by
     simp only [i7, List.filterMap_cons]
     cases ho : h[o]? with
     | none => rfl
     | some ob =>
      cases ob with
      | arr z es => exact absurd ⟨z, es, ho⟩ hm
      | _ => rfl
    rw [this]
    exact List.Sublist.cons o ih
  | _ => exact ih
theorem Mm {h : List AObj} {ls : List L} : ∀ o ∈ i7 h ls, ∃ z es, h[o]? = some (.arr z es) := by
 intro o ho
 simp only [i7, List.mem_filterMap] at ho
 obtain ⟨l, _, hl⟩ := ho
 split at hl
 ·split at hl
  ·rename_i z es hz; cases hl; exact ⟨z, es, hz⟩
  ·cases hl
 ·cases hl
def Mx (a : Act) : ResultVar → Sem Value
 | .tmp t => pure (a.tmps.getD t undef)
 | .cell ad t => do loadVar t (← asAddr (a.tmps.getD ad undef))
theorem IC (fn : Func) (a : Act) : results fn a.tmps = (do let vs ← fn.results.mapM (Mx a); pure (if h : vs.size = 1 then vs[0] else .tuple vs)) := by
 unfold results
 congr 1
theorem CF (s : SR Γ M0 base σ a w ρ) {rv : ResultVar} {r : ARes} {x : V} (hc : Lz P rv = some r) (hr : aT σ r = some x) :
 ∃ u, (Mx a rv).run P w = .ok u w ∧ VR (Mu M0 ρ σ.h) w ρ σ.h x u := by
 cases rv with
 | tmp t =>
  cases hc
  simp only [aT] at hr
  cases hr
  exact ⟨a.eval (.tmp t), by simp [Mx, Act.eval], s.fr.eval t⟩
 | cell ad ty =>
  simp only [Lz] at hc
  split at hc
  ·rename_i n h1 h2
   cases hc
   simp only [aT] at hr
   obtain ⟨u', hu', ⟨b, off, e⟩, hv⟩ := xl s h1 h2 (s.fr.eval ad) hr
   refine ⟨u', ?_, hv⟩
   have e' : a.tmps.getD ad undef = .pointer (some ⟨b, off, none⟩) := e
   rw [e] at hu'
   simp only [Mx, e', asAddr, Sem.run_bind, Sem.run_pure, Result.andThen_ok]
   exact hu'
  ·cases hc
theorem xA (s : SR Γ M0 base σ a w ρ) : ∀ {rvs : List ResultVar} {rs : List ARes} {xs : List V}, iO (Lz P) rvs = some rs → aC σ rs = some xs →
 ∃ us : List Value, (rvs.mapM (Mx a)).run P w = .ok us w ∧ us.length = xs.length ∧
  ∀ (i : Nat) (x : V) (u : Value), xs[i]? = some x → us[i]? = some u → VR (Mu M0 ρ σ.h) w ρ σ.h x u
 | [], rs, xs, h1, h2 => by
  simp [iO] at h1; subst h1
  simp [aC] at h2; subst h2
  exact ⟨[], by simp, rfl, fun i x u hx => by simp at hx⟩
 | rv :: rvs, rs, xs, h1, h2 => by
  unfold iO at h1
  split at h1
  ·rename_i r rs' e1 e2
   cases h1
   unfold aC at h2
   split at h2
   ·rename_i x xs' e3 e4
    cases h2
    obtain ⟨u, hu, hv⟩ := CF s e1 e3
    obtain ⟨us, i1, i2, i3⟩ := xA s e2 e4
    refine ⟨u :: us, ?_, by simp [i2], fun i x' u' hx hu' => ?_⟩
    ·rw [List.mapM_cons, Sem.run_bind, hu, Result.andThen_ok, Sem.run_bind, i1]
     simp
    ·cases i with
     | zero => simp at hx hu'; subst hx; subst hu'; exact hv
     | succ i => exact i3 i x' u' (by simpa using hx) (by simpa using hu')
   ·cases h2
  ·cases h1
theorem Fq (s : SR Γ M0 base σ a w ρ) {fn : Func} {rs : List ARes} {r : V} (hc : iO (Lz P) fn.results.toList = some rs) (hf : bC σ rs = some r) :
 r.clean = true ∧ ∃ v, (results fn a.tmps).run P w = .ok v w ∧ Lr M0 base w r v := by
 unfold bC at hf
 split at hf
 ·cases hf
 ·rename_i xs hxs
  split at hf
  ·rename_i hnd
   obtain ⟨us, hu1, hu2, hu3⟩ := xA s hc hxs
   have hres : (results fn a.tmps).run P w = .ok (if h : us.toArray.size = 1 then us.toArray[0] else .tuple us.toArray) w := by
    rw [IC, Array.mapM_eq_mapM_toList]
    simp only [Sem.run_bind, Sem.run_map, hu1, Result.andThen_ok, Sem.run_pure]
   have hOS : ∀ {ys}, cj σ.h xs = some ys → HR M0 base w ((i7 σ.h (xs.flatMap V.cells)).map (s8 ρ)) ((i7 σ.h (xs.flatMap V.cells)).map (mf σ.h)) ∧
    (∀ b, Mu M0 ((i7 σ.h (xs.flatMap V.cells)).map (s8 ρ)) ((i7 σ.h (xs.flatMap V.cells)).map (mf σ.h)) b → Mu M0 ρ σ.h b) := fun _ => s.hr.sub Mm (Mn.nodup hnd)
   have main : ∀ {ys : List (Bool × List L)}, cj σ.h xs = some ys → (ys.all fun x => x.2.all L.clean) = true ∧ (thawT [] ys).2 = (i7 σ.h (xs.flatMap V.cells)).map (mf σ.h) ∧ (thawT [] ys).1.length = xs.length ∧
    ∀ (i : Nat) (x : V) (u : Value), xs[i]? = some x → us[i]? = some u → ∃ ls', (thawT [] ys).1[i]? = some (x.isAgg, ls') ∧
     (match (x.isAgg, ls') with
      | (true, ls) => ∃ cs, u = .agg cs ∧ uW (Mu M0 ((i7 σ.h (xs.flatMap V.cells)).map (s8 ρ)) ((i7 σ.h (xs.flatMap V.cells)).map (mf σ.h))) w ((i7 σ.h (xs.flatMap V.cells)).map (s8 ρ)) ((i7 σ.h (xs.flatMap V.cells)).map (mf σ.h)) ls cs.toList
      | (false, [l]) => LR (Mu M0 ((i7 σ.h (xs.flatMap V.cells)).map (s8 ρ)) ((i7 σ.h (xs.flatMap V.cells)).map (mf σ.h))) w ((i7 σ.h (xs.flatMap V.cells)).map (s8 ρ)) ((i7 σ.h (xs.flatMap V.cells)).map (mf σ.h)) l u
      | _ => False) := by
    intro ys hys
    obtain ⟨c1, c2, c3, c4⟩ := rS xs ys [] hys
    simp only [List.map_nil, List.nil_append] at c2 c3 c4
    obtain ⟨_, mu⟩ := hOS hys
    refine ⟨c1, c2, c3, fun i x u hx hu => ?_⟩
    obtain ⟨ls', d1, d2, d3, d4⟩ := c4 i x hx
    refine ⟨ls', d1, ?_⟩
    have r := hu3 i x u hx hu
    cases x with
    | one l =>
     simp only [V.isAgg, V.cells] at d3 d4 ⊢
     match ls', d3, d4 with
     | [l'], _, d4 =>
      obtain ⟨l2, e1, e2⟩ := d4 0 l rfl
      simp at e1; subst e1
      exact e2.lr s.hr mu r
    | agg ls =>
     obtain ⟨cs, rfl, hl⟩ := r
     simp only [V.isAgg, V.cells] at d3 d4 ⊢
     refine ⟨cs, rfl, by rw [d3]; exact hl.1, fun j l' c hl' hc' => ?_⟩
     have hj : j < ls.length := by rw [← d3]; exact (List.getElem?_eq_some_iff.1 hl').1
     obtain ⟨l2, e1, e2⟩ := d4 j ls[j] (by simp [hj])
     rw [hl'] at e1; cases e1
     exact e2.lr s.hr mu (hl.2 j _ c (by simp [hj]) hc')
    | tup t => exact absurd rfl (d2 t)
   split at hf
   ·rename_i ls hys
    cases hf
    obtain ⟨c1, c2, c3, c4⟩ := main hys
    obtain ⟨hsub, _⟩ := hOS hys
    have hx1 : xs.length = 1 := by rw [← c3]; simp [thawT]
    obtain ⟨x, hx⟩ := List.length_eq_one_iff.1 hx1
    obtain ⟨u, hu⟩ := List.length_eq_one_iff.1 (hu2.trans hx1)
    obtain ⟨ls', d1, d2⟩ := c4 0 x u (by rw [hx]; rfl) (by rw [hu]; rfl)
    have d1' : some (true, (thawL [] ls).1) = some (x.isAgg, ls') := d1
    simp only [Option.some.injEq, Prod.mk.injEq] at d1'
    obtain ⟨d0, rfl⟩ := d1'
    rw [← d0] at d2
    have e2 : (thaw [] (V.agg ls)).2 = (i7 σ.h (xs.flatMap V.cells)).map (mf σ.h) := c2
    refine ⟨by simpa [V.clean] using c1, u, by rw [hres, hu]; rfl, (i7 σ.h (xs.flatMap V.cells)).map (s8 ρ), ?_, ?_⟩
    ·rw [e2]; exact hsub
    ·rw [e2]; exact d2
   ·rename_i l hys
    cases hf
    obtain ⟨c1, c2, c3, c4⟩ := main hys
    obtain ⟨hsub, _⟩ := hOS hys
    have hx1 : xs.length = 1 := by rw [← c3]; simp [thawT]
    obtain ⟨x, hx⟩ := List.length_eq_one_iff.1 hx1
    obtain ⟨u, hu⟩ := List.length_eq_one_iff.1 (hu2.trans hx1)
    obtain ⟨ls', d1, d2⟩ := c4 0 x u (by rw [hx]; rfl) (by rw [hu]; rfl)
    have d1' : some (false, (thawL [] [l]).1) = some (x.isAgg, ls') := d1
    simp only [Option.some.injEq, Prod.mk.injEq] at d1'
    obtain ⟨d0, rfl⟩ := d1'
    rw [← d0] at d2
    obtain ⟨l', h', e'⟩ := nK [] l
    have e2 : (thaw [] (V.one l)).2 = (i7 σ.h (xs.flatMap V.cells)).map (mf σ.h) := by
     rw [← c2]
     simp only [thaw, e', thawT]
    have e3 : (thaw [] (V.one l)).1 = .one l' := by simp only [thaw, e']
    refine ⟨by simpa [V.clean] using c1, u, by rw [hres, hu]; rfl, (i7 σ.h (xs.flatMap V.cells)).map (s8 ρ), ?_, ?_⟩
    ·rw [e2]; exact hsub
    ·rw [e2, e3]
     rw [e'] at d2
     exact d2
   ·rename_i ys hne1 hne2 hys
    split at hf
    ·cases hf
    ·rename_i hlen
     cases hf
     obtain ⟨c1, c2, c3, c4⟩ := main hys
     obtain ⟨hsub, _⟩ := hOS hys
     have hyl : ys.length = xs.length := by rw [← c3, (C0 ys [] c1).1]
     have hul : ¬ us.toArray.size = 1 := by simp; omega
     refine ⟨by simpa [V.clean] using c1, .tuple us.toArray, by rw [hres, dif_neg hul], (i7 σ.h (xs.flatMap V.cells)).map (s8 ρ), ?_, ?_⟩
     ·show HR M0 base w _ (thawT [] ys).2
      rw [c2]; exact hsub
     ·show VR (Mu M0 _ (thawT [] ys).2) w _ (thawT [] ys).2 (.tup (thawT [] ys).1) _
      rw [c2]
      refine ⟨us.toArray, rfl, by rw [c3, ← hu2]; simp, fun i x' u' hx' hu' => ?_⟩
      have hi : i < xs.length := by rw [← c3]; exact (List.getElem?_eq_some_iff.1 hx').1
      obtain ⟨ls', d1, d2⟩ := c4 i xs[i] u' (by simp [hi]) (by simpa using hu')
      rw [hx'] at d1; cases d1
      exact d2
   ·cases hf
  ·cases hf
end
end Gi
namespace Gi
open Go Go.RowKit
variable {KI : KF}
section
variable {Γ : Ctx} {P : Program} {M0 : Nat → Prop} {base : Nat} {σ : St} {a : Act} {w : World} {ρ : List (Option Nat)} {call : Nat → List V → Option V}
structure CallOK [KI : KF] (Γ : Ctx) (P : Program) (kf : FuncId → Option Nat) (call : Nat → List V → Option V) : Prop where
 prog : KI.pr = P
 there : ∀ f k, kf f = some k → ∃ fn, P.funcs[f]? = some fn ∧ fn.body.isNone = false ∧ (fn.name == "runtime.NumGoroutine") = false
 sound : ∀ f k xz r, kf f = some k → call k xz = some r → Bf Γ P f xz r
 ins : ∀ f k fn t e z b, kf f = some k → P.funcs[f]? = some fn → fn.origin = "slices.Insert" → fn.params.toList.head? = some t → m8 P t = some e → t9 P e = some z → J2 P e = some b → Be P f z b
theorem qk (s : SR Γ M0 base σ a w ρ) {ops : Array Oper} {o : Oper} {g : Option (Nat × Bool)} {b : Bool} (hg : EY ops o.guard = some g) (hw : bt σ g = some b) : Region.wanted o (yielded ops a.tmps) = b := by
 unfold Region.wanted
 cases hgd : o.guard with
 | none =>
  rw [hgd] at hg
  simp only [EY] at hg; cases hg
  simp only [bt] at hw; cases hw
  rfl
 | some jw =>
  obtain ⟨j, want⟩ := jw
  rw [hgd] at hg
  simp only [EY] at hg
  split at hg
  ·rename_i oj hoj
   split at hg
   ·rename_i t ht
    cases hg
    simp only [bt] at hw
    have hy : ∀ {x : Option Bool}, (match a.tmps[t]? with | some (.bool b) => some b | _ => none) = x → yielded ops a.tmps j = x := by
     intro x hx
     unfold yielded
     simp only [hoj, Option.bind_some, ht]
     exact hx
    have r := s.fr.eval t
    by_cases hlt : t < a.tmps.size
    ·have hev : a.tmps[t]? = some (a.eval (.tmp t)) := by simp [Act.eval, hlt]
     split at hw
     ·rename_i b' hb'
      cases hw
      rw [hb'] at r
      have e : a.eval (.tmp t) = .bool b' := by simpa [VR, LR, aV] using r
      simp only [hy (show _ = some b' by rw [hev, e])]
      cases b' <;> cases want <;> rfl
     ·rename_i hb'
      cases hw
      rw [hb'] at r
      obtain ⟨vs, e, hl, _⟩ := r
      simp only [hy (show _ = none by rw [hev, e])]
      rfl
     ·cases hw
    ·have hev : a.tmps[t]? = none := Array.getElem?_eq_none (Nat.le_of_not_lt hlt)
     have ht0 : σ.t.getD t (.tup []) = .tup [] := by
      have : ¬ t < σ.t.length := by rw [← s.fr.size]; exact hlt
      simp [List.getD, List.getElem?_eq_none (Nat.le_of_not_lt this)]
     rw [ht0] at hw
     cases hw
     simp only [hy (show _ = none by rw [hev])]
     rfl
   ·cases hg
  ·cases hg
theorem yd {o : Oper} {c : Call} {f : FuncId} (hop : o.op = .call c) (hcal : c.callee = .value (.func f)) (ok : CallOK Γ P kf call) {k : Nat} (hk : kf f = some k) :
 (execOp a.eval o).run P w = .ok (.enter f (c.args.map a.eval)) w := by
 obtain ⟨fn, h1, h2, h3⟩ := ok.there f k hk
 simp only [execOp, hop, resolve, hcal, Act.eval, Deferred.ofValue, Sem.run_bind, Sem.run_pure, Result.andThen_ok, invoke, callFunc, run_program, h1, h3, h2]
 simp
theorem Il {o : Oper} {c : Call} {f : FuncId} {x : Operand} {cs : Array Value} (hop : o.op = .call c) (hcal : c.callee = .value x) (hf : a.eval x = .func (.func f) #[] cs) (ok : CallOK Γ P kf call) {k : Nat} (hk : kf f = some k) :
 (execOp a.eval o).run P w = .ok (.enter f (c.args.map a.eval ++ cs)) w := by
 obtain ⟨fn, h1, h2, h3⟩ := ok.there f k hk
 simp only [execOp, hop, resolve, hcal, hf, Deferred.ofValue, Sem.run_bind, Sem.run_pure, Result.andThen_ok, invoke, callFunc, run_program, h1, h3, h2]
 simp
theorem G1 {M M' : Nat → Prop} {b : Nat} {h : List AObj} {r : V} {v : Value} (hf : r.flat = true) (rr : Lr M b w r v) : VR M' w ρ h (dX r) v := by
 obtain ⟨ρr, _, vr⟩ := rr
 have leaf : ∀ {l : L} {u : Value} {M1 : Nat → Prop} {ρ1 : List (Option Nat)} {h1 : List AObj}, l.flat = true → LR M1 w ρ1 h1 l u → LR M' w ρ h (dJ l) u := by
  intro l u M1 ρ1 h1 hl hr
  cases l with
  | pv p => cases p <;> first | (simp [L.flat] at hl; done) | (simpa [dJ, LR, aV] using hr)
  | _ => simp [L.flat] at hl
 have same : ∀ (ls : List L) (g : List AObj), ls.all L.flat = true → thawL g ls = (ls, g) := by
  intro ls
  induction ls with
  | nil => intro g _; rfl
  | cons l ls ih =>
   intro g hl
   simp only [List.all_cons, Bool.and_eq_true] at hl
   cases l with
   | pv p => simp only [thawL, ih g hl.2]
   | _ => simp [L.flat] at hl
 have leaves : ∀ {ls : List L} {us : List Value} {M1 : Nat → Prop} {ρ1 : List (Option Nat)} {h1 : List AObj}, ls.all L.flat = true → uW M1 w ρ1 h1 ls us → uW M' w ρ h (ls.map dJ) us := by
  intro ls us M1 ρ1 h1 hl hr
  refine ⟨by simpa using hr.1, fun i l u hi hu => ?_⟩
  simp only [List.getElem?_map, Option.map_eq_some_iff] at hi
  obtain ⟨l0, h0, rfl⟩ := hi
  exact leaf ((List.all_eq_true.1 hl) l0 (List.mem_of_getElem? h0)) (hr.2 i l0 u h0 hu)
 cases r with
 | one l =>
  have e := same [l] [] (by simpa [V.flat] using hf)
  simp only [thaw, e] at vr
  exact leaf (by simpa [V.flat] using hf) vr
 | agg ls =>
  have e := same ls [] (by simpa [V.flat] using hf)
  simp only [thaw, e] at vr
  obtain ⟨cs, rfl, hl⟩ := vr
  exact ⟨cs, rfl, leaves (by simpa [V.flat] using hf) hl⟩
 | tup xs =>
  have sameT : ∀ (xs : List (Bool × List L)) (g : List AObj), (xs.all fun x => x.2.all L.flat) = true → thawT g xs = (xs, g) := by
   intro xs
   induction xs with
   | nil => intro g _; rfl
   | cons x xs ih =>
    intro g hx
    simp only [List.all_cons, Bool.and_eq_true] at hx
    obtain ⟨b, ls⟩ := x
    simp only [thawT, same ls g hx.1, ih g hx.2]
  have hfx : (xs.all fun x => x.2.all L.flat) = true := by simpa [V.flat] using hf
  simp only [thaw, sameT xs [] hfx] at vr
  obtain ⟨vs, rfl, h1, h2⟩ := vr
  refine ⟨vs, rfl, by simpa [dX] using h1, fun i x u hx hu => ?_⟩
  simp only [List.getElem?_map, Option.map_eq_some_iff] at hx
  obtain ⟨x0, h0, rfl⟩ := hx
  have hx0 := (List.all_eq_true.1 hfx) x0 (List.mem_of_getElem? h0)
  have := h2 i x0 u h0 hu
  obtain ⟨b, ls⟩ := x0
  cases b with
  | true => obtain ⟨cs, rfl, hl⟩ := this; exact ⟨cs, rfl, leaves hx0 hl⟩
  | false =>
   match ls, this, hx0 with
   | [l], this, hx0 => exact leaf (by simpa using hx0) this
theorem sj (s : SR Γ M0 base σ a w ρ) {x : Operand} {y : Opd} (h : tq kf x = some y) : VR (Mu M0 ρ σ.h) w ρ σ.h (y.ev σ) (a.eval x) := by
 unfold tq at h
 split at h
 ·rename_i f
  simp only [Option.map_eq_some_iff] at h
  obtain ⟨k, hk, rfl⟩ := h
  exact ⟨f, #[], by simp [Act.eval], hk, rfl, fun i e u he => by simp at he⟩
 ·exact bc s h
theorem DY (s : SR Γ M0 base σ a w ρ) {g : Operand → Option Opd} (hg : ∀ x y, g x = some y → VR (Mu M0 ρ σ.h) w ρ σ.h (y.ev σ) (a.eval x)) {xs : List Operand} {ys : List Opd} (h : iO g xs = some ys) : (ys.map (Opd.ev σ)).length = (xs.map a.eval).length ∧
 ∀ (i : Nat) (v : V) (u : Value), (ys.map (Opd.ev σ))[i]? = some v → (xs.map a.eval)[i]? = some u → VR (Mu M0 ρ σ.h) w ρ σ.h v u := by
 refine ⟨by simp [ja h], fun i v u hv hu => ?_⟩
 simp only [List.getElem?_map, Option.map_eq_some_iff] at hv hu
 obtain ⟨y, hy, rfl⟩ := hv
 obtain ⟨x, hx, rfl⟩ := hu
 obtain ⟨y', hy', hc⟩ := lu h i x hx
 rw [hy] at hy'; cases hy'
 exact hg x y hc
theorem Lw (s : SR Γ M0 base σ a w ρ) {xs : List Operand} {ys : List Opd} (h : iO iu xs = some ys) : (ys.map (Opd.ev σ)).length = (xs.map a.eval).length ∧
 ∀ (i : Nat) (v : V) (u : Value), (ys.map (Opd.ev σ))[i]? = some v → (xs.map a.eval)[i]? = some u → VR (Mu M0 ρ σ.h) w ρ σ.h v u := DY s (fun x y h => bc s h) h
theorem DZ (s : SR Γ M0 base σ a w ρ) {xs : List Operand} {ys : List Opd} (h : iO (tq kf) xs = some ys) : (ys.map (Opd.ev σ)).length = (xs.map a.eval).length ∧
 ∀ (i : Nat) (v : V) (u : Value), (ys.map (Opd.ev σ))[i]? = some v → (xs.map a.eval)[i]? = some u → VR (Mu M0 ρ σ.h) w ρ σ.h v u := DY s (fun x y h => sj s h) h
theorem LA {d : Md} {op : Op} {k : Nat} {xz : List Opd} {fl fz : Bool} (hc : iS P kf d op = some (.call k xz fl fz)) : ∃ c f, op = .call c ∧ c.callee = .value (.func f) ∧ kf f = some k ∧ iO (tq kf) c.args.toList = some xz := by
 cases op
 case makeFunc fn first caps => cases fn <;> simp only [iS] at hc <;> first | (cases hc; done) | ((repeat' (split at hc)) <;> cases hc)
 case call c =>
  simp only [iS] at hc
  split at hc
  ·rename_i f hcal
   split at hc
   ·rename_i k' as' fn h1 h2 h3
    split at hc
    ·repeat' (split at hc)
     all_goals cases hc
    split at hc
    ·cases hc
    ·cases hc
     exact ⟨c, f, rfl, hcal, h1, h2⟩
   ·cases hc
  all_goals first | (cases hc; done) | ((repeat' (split at hc)) <;> cases hc)
 all_goals simp only [iS] at hc
 all_goals first
  | (cases hc; done)
  | (simp only [Option.map_eq_some_iff] at hc; obtain ⟨_, _, hc⟩ := hc; cases hc; done)
  | ((repeat' (split at hc)) <;> cases hc)
theorem J3 {d : Md} {op : Op} {k : Nat} {xz : List Opd} (hc : iS P kf d op = some (.callD k xz)) : ∃ c f, op = .call c ∧ c.callee = .value (.func f) ∧ kf f = some k ∧ iO (tq kf) c.args.toList = some xz := by
 cases op
 case makeFunc fn first caps => cases fn <;> simp only [iS] at hc <;> first | (cases hc; done) | ((repeat' (split at hc)) <;> cases hc)
 case call c =>
  simp only [iS] at hc
  split at hc
  ·rename_i f hcal
   split at hc
   ·rename_i k' as' fn h1 h2 h3
    split at hc
    ·repeat' (split at hc)
     all_goals cases hc
    split at hc
    ·cases hc
     exact ⟨c, f, rfl, hcal, h1, h2⟩
    ·cases hc
   ·cases hc
  all_goals first | (cases hc; done) | ((repeat' (split at hc)) <;> cases hc)
 all_goals simp only [iS] at hc
 all_goals first
  | (cases hc; done)
  | (simp only [Option.map_eq_some_iff] at hc; obtain ⟨_, _, hc⟩ := hc; cases hc; done)
  | ((repeat' (split at hc)) <;> cases hc)
theorem Iq {d : Md} {op : Op} {k z b : Nat} {x i v : Opd} (hc : iS P kf d op = some (.insert k z b x i v)) : ∃ c f fn t e, op = .call c ∧ c.callee = .value (.func f) ∧ kf f = some k ∧ iO (tq kf) c.args.toList = some [x, i, v] ∧
 P.funcs[f]? = some fn ∧ fn.origin = "slices.Insert" ∧ fn.params.toList.head? = some t ∧ m8 P t = some e ∧ t9 P e = some z ∧ J2 P e = some b := by
 cases op
 case makeFunc fn first caps => cases fn <;> simp only [iS] at hc <;> first | (cases hc; done) | ((repeat' (split at hc)) <;> cases hc)
 case call c =>
  simp only [iS] at hc
  split at hc
  ·rename_i f hcal
   split at hc
   ·rename_i k' as' fn h1 h2 h3
    split at hc
    ·rename_i horg
     split at hc
     ·rename_i x' i' v' t tl hpar
      split at hc
      ·rename_i e he
       split at hc
       ·rename_i z' b' hz hb
        cases hc
        exact ⟨c, f, fn, t, e, rfl, hcal, h1, h2, h3, by simpa using horg, by rw [hpar]; rfl, he, hz, hb⟩
       ·cases hc
      ·cases hc
     ·cases hc
    ·split at hc <;> cases hc
   ·cases hc
  all_goals first | (cases hc; done) | ((repeat' (split at hc)) <;> cases hc)
 all_goals simp only [iS] at hc
 all_goals first
  | (cases hc; done)
  | (simp only [Option.map_eq_some_iff] at hc; obtain ⟨_, _, hc⟩ := hc; cases hc; done)
  | ((repeat' (split at hc)) <;> cases hc)
theorem Po {xs : List Operand} {x i v : Opd} (h : iO (tq kf) xs = some [x, i, v]) : ∃ x0 i0 v0, xs = [x0, i0, v0] ∧ tq kf x0 = some x ∧ tq kf i0 = some i ∧ tq kf v0 = some v := by
 have hl := ja h
 match xs, hl with
 | [x0, i0, v0], _ =>
  obtain ⟨y0, h0, c0⟩ := lu h 0 x0 rfl
  obtain ⟨y1, h1, c1⟩ := lu h 1 i0 rfl
  obtain ⟨y2, h2, c2⟩ := lu h 2 v0 rfl
  simp at h0 h1 h2
  subst h0 h1 h2
  exact ⟨x0, i0, v0, rfl, c0, c1, c2⟩
theorem J6 {d : Md} {op : Op} {x : Opd} {xz : List Opd} (hc : iS P kf d op = some (.callV x xz)) : ∃ c t, op = .call c ∧ c.callee = .value (.tmp t) ∧ x = .tmp t ∧ iO iu c.args.toList = some xz := by
 cases op
 case makeFunc fn first caps => cases fn <;> simp only [iS] at hc <;> first | (cases hc; done) | ((repeat' (split at hc)) <;> cases hc)
 case call c =>
  simp only [iS] at hc
  split at hc
  ·split at hc
   ·(repeat' (split at hc)) <;> cases hc
   ·cases hc
  ·rename_i t hcal
   split at hc
   ·rename_i as' h1
    cases hc
    exact ⟨c, t, rfl, hcal, rfl, h1⟩
   ·cases hc
  all_goals first | (cases hc; done) | ((repeat' (split at hc)) <;> cases hc)
 all_goals simp only [iS] at hc
 all_goals first
  | (cases hc; done)
  | (simp only [Option.map_eq_some_iff] at hc; obtain ⟨_, _, hc⟩ := hc; cases hc; done)
  | ((repeat' (split at hc)) <;> cases hc)
theorem sp (ok : CallOK Γ P kf call) (s : SR Γ M0 base σ a w ρ) {ops : Array Oper} {o : Oper} {d : Md} {oo : AOper} {σ' : St} {K : Act → World → Prop} {Q : Exit → Act → World → Prop}
 (hc : EZ P kf d ops o = some oo) (he : bg call oo σ = some σ') (hK : ∀ a' w' ρ', SR Γ M0 base σ' a' w' ρ' → Below base w w' → K a' w') :
 if Region.wanted o (yielded ops a.tmps) then o.wp P a w K Q else K (a.put o.dst undef) w := by
 unfold EZ at hc
 split at hc
 ·rename_i op g hop hg
  cases hc
  unfold bg at he
  simp only at he
  split at he
  ·rename_i hw
   rw [qk s hg hw, if_pos rfl]
   have fin : ∀ {v : V} {u : Value} {w' : World}, Below w.heap.size w w' → VR (Mu M0 ρ σ.h) w' ρ σ.h v u → σ' = ⟨put σ.t o.dst v, σ.h⟩ → K (a.put o.dst u) w' := by
    intro v u w' hb hv e
    subst e
    obtain ⟨k1, c1⟩ := s.hr.world hb.size (fun b hlt => hb.block b hlt)
    exact hK _ _ ρ ⟨k1, (s.fr.ch c1).put o.dst hv, Γ.keep _ _ s.inv (hb.mono (Nat.le_trans s.b0 s.hr.le)), s.b0⟩ (hb.mono s.hr.le)
   by_cases hcall : op.isCall = true
   ·by_cases hv : ∃ x xz, op = .callV x xz
    ·obtain ⟨x, xz, rfl⟩ := hv
     obtain ⟨c, t, ho, hcal, hx, has⟩ := J6 hop
     obtain ⟨hal, har⟩ := Lw s has
     have hvals : (c.args.map a.eval).toList = c.args.toList.map a.eval := by simp
     split at he
     ·rename_i v hf
      cases he
      simp only [cF] at hf
      split at hf
      ·rename_i k caps hxe
       split at hf
       ·rename_i avs havs
        split at hf
        ·rename_i r hr
         split at hf
         ·rename_i hflat
          cases hf
          have rx := bc s (show iu (.tmp t) = some (.tmp t) from rfl)
          rw [← hx, hxe] at rx
          obtain ⟨f, cs, ef, hk, hcl, hcr⟩ := rx
          obtain ⟨hclean, hcalls⟩ := ok.sound f k _ r hk hr
          have ha : uV (fun _ => False) w avs (c.args.map a.eval).toList := by
           rw [hvals]
           exact o5 havs hal har (fun v l p u _ _ hl hv => wo s.hr hl hv) (fun e u r => r.weak (fun _ h => h.elim))
          have ha2 : uV (fun _ => False) w (avs ++ caps.map qL) (c.args.map a.eval ++ cs).toList := by
           refine ⟨by simp only [List.length_append, List.length_map, Array.toList_append]; rw [ha.1, hcl]; simp, fun i x u hx hu => ?_⟩
           rw [Array.toList_append] at hu
           by_cases hi : i < avs.length
           ·rw [List.getElem?_append_left hi] at hx
            rw [List.getElem?_append_left (by rw [← ha.1]; exact hi)] at hu
            exact ha.2 i x u hx hu
           ·rw [List.getElem?_append_right (by omega)] at hx
            rw [List.getElem?_append_right (by rw [← ha.1]; omega), ← ha.1] at hu
            simp only [List.getElem?_map, Option.map_eq_some_iff] at hx
            obtain ⟨e, he, rfl⟩ := hx
            exact ((hcr _ e u he (by simpa using hu)).weak (fun _ h => h.elim)).arg
          unfold Oper.wp
          rw [Il (a := a) (w := w) (call := call) ho hcal ef ok hk, Oper.upon_enter]
          refine (hcalls (fun _ => False) w _ s.inv (fun b h => h.elim) ha2).mono fun e w' ⟨v, he, hb, hrr⟩ => ?_
          subst he
          exact fin hb (G1 hflat hrr) rfl
         ·cases hf
        ·cases hf
       ·cases hf
      ·cases hf
     ·split at he
      ·rename_i hee; cases hee
      ·cases he
    by_cases hv2 : ∃ x, op = .s2b x
    ·obtain ⟨x, rfl⟩ := hv2
     split at he
     ·rename_i v hf
      cases he
      obtain ⟨u, w', q1, q2, q3⟩ := KV s hop hf
      unfold Oper.wp
      rw [q1, Oper.upon_value]
      exact fin q2 q3 rfl
     ·split at he
      ·rename_i hee; cases hee
      ·cases he
    by_cases hv5 : ∃ z ps, op = .buildF z ps
    ·obtain ⟨z, ps, rfl⟩ := hv5
     split at he
     ·rename_i v hf
      cases he
      obtain ⟨u, w', q1, q2, q3⟩ := EV s hop hf
      unfold Oper.wp
      rw [q1, Oper.upon_value]
      exact fin q2 q3 rfl
     ·split at he
      ·rename_i hee; cases hee
      ·cases he
    by_cases hv6 : ∃ z x lo hi, op = .slcF z x lo hi
    ·obtain ⟨z, x, lo, hi, rfl⟩ := hv6
     split at he
     ·rename_i v hf
      cases he
      obtain ⟨n, u, w', ρ', h1, h2, h3, h4, h5, h6⟩ := IG s hop hf
      unfold Oper.wp
      rw [h1]
      have hSR : K (a.put o.dst u) w' := hK _ _ ρ' ⟨h4, (s.fr.ch h5).put o.dst h6, Γ.keep _ _ s.inv (h3.mono s.b0), s.b0⟩ h3
      rcases h2 with rfl | ⟨rfl, rfl⟩
      ·exact hSR
      ·exact hSR
     ·split at he
      ·rename_i hee; cases hee
      ·cases he
    by_cases hv3 : ∃ k xz, op = .callD k xz
    ·obtain ⟨k, xz, rfl⟩ := hv3
     obtain ⟨c, f, ho, hcal, hk, has⟩ := J3 hop
     have hex := yd (a := a) (w := w) (call := call) ho hcal ok hk
     obtain ⟨hal, har⟩ := DZ s has
     have hvals : (c.args.map a.eval).toList = c.args.toList.map a.eval := by simp
     unfold Oper.wp
     rw [hex, Oper.upon_enter]
     split at he
     ·rename_i v hf; cases hf
     ·split at he
      ·rename_i v h' hee
       cases he
       simp only [dN] at hee
       split at hee
       ·rename_i avs havs
        split at hee
        ·rename_i r hr
         cases hee
         obtain ⟨hclean, hcalls⟩ := ok.sound f k avs r hk hr
         obtain ⟨k1, c1⟩ := s.hr.freezeVs (xz.map (Opd.ev σ))
         have ha : uV (Mu M0 ρ (freezeVs σ.h (xz.map (Opd.ev σ)))) w avs (c.args.map a.eval).toList := by
          rw [hvals]
          exact o5 havs hal har (fun v l p u hv hl hlr hvw => qj k1 (hlr.ch c1) (by rw [nQ]; exact hvw) (oR _ l (.inr ⟨v, hv, hl⟩))) (fun e u r => r.go c1.go)
         refine (hcalls _ w _ s.inv (fun b hb => Mu.lt k1 hb) ha).mono fun e w' ⟨v, he, hb, hrr⟩ => ?_
         subst he
         obtain ⟨k2, c2⟩ := k1.world hb.size (fun b hlt => hb.block b hlt)
         exact hK _ _ ρ ⟨k2, ((s.fr.ch c1).ch c2).put o.dst (JG k1 hb hclean hrr), Γ.keep _ _ s.inv (hb.mono (Nat.le_trans s.b0 s.hr.le)), s.b0⟩ (hb.mono s.hr.le)
        ·cases hee
       ·cases hee
      ·cases he
    by_cases hv4 : ∃ k z b x i v, op = .insert k z b x i v
    ·obtain ⟨k, z, b, x, i, v, rfl⟩ := hv4
     obtain ⟨c, f, fn, t, e, ho, hcal, hk, has, hfn, horg, hpar, he1, hz1, hb1⟩ := Iq hop
     have hex := yd (a := a) (w := w) (call := call) ho hcal ok hk
     have iok := ok.ins f k fn t e z b hk hfn horg hpar he1 hz1 hb1
     obtain ⟨x0, i0, v0, hxs, cx, ci, cv⟩ := Po has
     have rx := sj s cx
     have ri := sj s ci
     have rv := sj s cv
     have hargs : c.args.map a.eval = #[a.eval x0, a.eval i0, a.eval v0] := Array.ext' (by rw [Array.toList_map, hxs]; rfl)
     unfold Oper.wp
     rw [hex, Oper.upon_enter, hargs]
     split at he
     ·rename_i v1 hf; cases hf
     ·split at he
      ·rename_i v1 h1 hee
       cases he
       simp only [dN] at hee
       split at hee
       ·rename_i n o2 ex ei ev
        rw [ex] at rx
        rw [ev] at rv
        have ux : a.eval x0 = .slice none 0 0 := rx
        have ui := ri.int ei
        split at hee
        ·rename_i z2 vs ho2
         split at hee
         ·rename_i hp
          cases hee
          obtain ⟨rfl, hm, rfl, hlim, h63⟩ := hp
          rw [ux, ui]
          refine (Ir s iok ho2 hm hlim (by unfold maxLen; omega) rv).mono fun e w' ⟨u, ρ', he, hb, g1, g2, g3⟩ => ?_
          subst he
          exact hK _ _ ρ' ⟨g1, (s.fr.ch g2).put o.dst g3, Γ.keep _ _ s.inv (hb.mono s.b0), s.b0⟩ hb
         ·cases hee
        ·cases hee
       ·rename_i o1 n o2 ex ei ev
        rw [ex] at rx
        rw [ev] at rv
        have ui := ri.int ei
        split at hee
        ·rename_i z1 es z2 vs ho1 ho2
         split at hee
         ·rename_i hp
          cases hee
          obtain ⟨rfl, rfl, hne, hm, hn0, hn1, hlim, h63⟩ := hp
          have hn : a.eval i0 = .int .i64 ((n.toNat : Nat) : Int) := by
           rw [ui]
           congr 1
           omega
          rw [hn]
          refine (Ip s iok ho1 ho2 hne hm (i := n.toNat) (by omega) hlim (by unfold maxLen; omega) rx rv).mono fun e w' ⟨u, ρ', he, hb, g1, g2, g3⟩ => ?_
          subst he
          exact hK _ _ ρ' ⟨g1, (s.fr.ch g2).put o.dst g3, Γ.keep _ _ s.inv (hb.mono s.b0), s.b0⟩ hb
         ·cases hee
        ·cases hee
       ·cases hee
      ·cases he
    cases op <;> simp [AOp.isCall] at hcall
    case insert k z b x i v => exact absurd ⟨k, z, b, x, i, v, rfl⟩ hv4
    case callV x xz => exact absurd ⟨x, xz, rfl⟩ hv
    case s2b x => exact absurd ⟨x, rfl⟩ hv2
    case callD k xz => exact absurd ⟨k, xz, rfl⟩ hv3
    case buildF z ps => exact absurd ⟨z, ps, rfl⟩ hv5
    case slcF z x lo hi => exact absurd ⟨z, x, lo, hi, rfl⟩ hv6
    rename_i k xz fl fz
    obtain ⟨c, f, ho, hcal, hk, has⟩ := LA hop
    have hex := yd (a := a) (w := w) (call := call) ho hcal ok hk
    obtain ⟨hal, har⟩ := DZ s has
    have hvals : (c.args.map a.eval).toList = c.args.toList.map a.eval := by simp
    unfold Oper.wp
    rw [hex, Oper.upon_enter]
    split at he
    ·rename_i v hf
     cases he
     simp only [cF] at hf
     split at hf
     ·split at hf
      ·rename_i hfl hmut
       split at hf
       ·rename_i avs havs
        split at hf
        ·rename_i r hr
         split at hf
         ·cases hf
         ·rename_i hflat
          cases hf
          obtain ⟨hclean, hcalls⟩ := ok.sound f k avs r hk hr
          cases fl with
          | true =>
           have hflat' : r.flat = true := by simpa using hflat
           have ha : uV (fun _ => False) w avs (c.args.map a.eval).toList := by
            rw [hvals]
            exact o5 havs hal har (fun v l p u _ _ hl hv => wo s.hr hl hv) (fun e u r => r.weak (fun _ h => h.elim))
           refine (hcalls (fun _ => False) w _ s.inv (fun b h => h.elim) ha).mono fun e w' ⟨v, he, hb, hrr⟩ => ?_
           subst he
           exact fin hb (G1 hflat' hrr) rfl
          | false =>
           have hm : ∀ v ∈ xz.map (Opd.ev σ), V.mut σ.h v = false := by
            intro v hv
            simp only [Bool.false_or, Bool.not_eq_true'] at hmut
            have := (List.any_eq_false.1 hmut) v hv
            simpa using this
           have ha : uV (Mu M0 ρ σ.h) w avs (c.args.map a.eval).toList := by
            rw [hvals]
            refine o5 havs hal har (fun v l p u hv hl hlr hvw => qj s.hr hlr hvw ?_) (fun _ _ r => r)
            have := hm v hv
            simp only [V.mut] at this
            have := (List.any_eq_false.1 this) l hl
            simpa using this
           refine (hcalls (Mu M0 ρ σ.h) w _ s.inv (fun b hb => Mu.lt s.hr hb) ha).mono fun e w' ⟨v, he, hb, hrr⟩ => ?_
           subst he
           exact fin hb (JG s.hr hb hclean hrr) rfl
        ·cases hf
       ·cases hf
      ·cases hf
     ·cases hf
    ·split at he
     ·rename_i v h' hee
      cases he
      cases fl <;> cases fz <;> simp only [dN] at hee <;> try (cases hee; done)
      split at hee
      ·rename_i avs havs
       split at hee
       ·rename_i r hr
        have hee' := Option.some.inj hee
        obtain ⟨rfl, rfl⟩ : v = (thaw (freezeVs σ.h (xz.map (Opd.ev σ))) r).1 ∧ h' = (thaw (freezeVs σ.h (xz.map (Opd.ev σ))) r).2 := ⟨by rw [hee'], by rw [hee']⟩
        obtain ⟨hclean, hcalls⟩ := ok.sound f k avs r hk hr
        obtain ⟨k1, c1⟩ := s.hr.freezeVs (xz.map (Opd.ev σ))
        have ha : uV (Mu M0 ρ (freezeVs σ.h (xz.map (Opd.ev σ)))) w avs (c.args.map a.eval).toList := by
         rw [hvals]
         exact o5 havs hal har (fun v l p u hv hl hlr hvw => qj k1 (hlr.ch c1) (by rw [nQ]; exact hvw) (oR _ l (.inr ⟨v, hv, hl⟩))) (fun e u r => r.go c1.go)
        refine (hcalls _ w _ s.inv (fun b hb => Mu.lt k1 hb) ha).mono fun e w' ⟨v, he, hb, hrr⟩ => ?_
        subst he
        obtain ⟨ρ', g1, g2, g3⟩ := My k1 hb hclean hrr
        exact hK _ _ ρ' ⟨g1, (s.fr.ch (c1.trans g2)).put o.dst g3, Γ.keep _ _ s.inv (hb.mono (Nat.le_trans s.b0 s.hr.le)), s.b0⟩ (hb.mono s.hr.le)
       ·cases hee
      ·cases hee
     ·cases he
   ·have hnc : op.isCall = false := by simpa using hcall
    split at he
    ·rename_i v hf
     cases he
     obtain ⟨u, hu, hv⟩ := Kz ok.prog s hop hnc hf
     unfold Oper.wp
     rw [hu, Oper.upon_value]
     exact fin (Below.refl _ _) hv rfl
    ·split at he
     ·rename_i v h' hee
      cases he
      have ht : mi P M0 base σ w ρ v h' (execOp a.eval o) := by
       cases hoo : o.op <;> rw [hoo] at hop
       case alloc t => exact Gs s hoo (hoo ▸ hop) hee
       case makeMap t r => exact Hh ok.prog s hoo (hoo ▸ hop) hee
       case mapUpdate t m x y => exact Ix ok.prog s hoo (hoo ▸ hop) hee
       case box t x => exact J0 s hoo (hoo ▸ hop) hee
       case buildSlice t n ps => exact EW s hoo (hoo ▸ hop) hee
       case store t x y => exact HA s hoo (hoo ▸ hop) hee
       case makeSlice t x y => exact Iv s hoo (hoo ▸ hop) hee
       case slice t x lo hi mx => exact CK s hoo (hoo ▸ hop) hee
       case makeFunc fn first caps => exact Iw s hoo (hoo ▸ hop) hee
       case call c =>
        cases op
        case append z b x y => exact EQ s hoo (hoo ▸ hop) hee
        case appendS b x y => exact C9 s hoo (hoo ▸ hop) hee
        all_goals first
         | (simp [AOp.isCall] at hnc; done)
         | (cases hee; done)
         | (exfalso; simp only [iS] at hop; repeat' (split at hop)) <;> cases hop
       all_goals
        exfalso
        simp only [iS] at hop
        first
         | (cases hop; done)
         | (simp only [Option.map_eq_some_iff] at hop; obtain ⟨_, _, rfl⟩ := hop; cases hee; done)
         | (repeat' (split at hop)) <;> first | (cases hop; done) | (cases hop; cases hee; done)
      obtain ⟨n, u, w', ρ', h1, h2, h3, h4, h5, h6⟩ := ht
      unfold Oper.wp
      rw [h1]
      have hSR : K (a.put o.dst u) w' := hK _ _ ρ' ⟨h4, (s.fr.ch h5).put o.dst h6, Γ.keep _ _ s.inv (h3.mono s.b0), s.b0⟩ h3
      rcases h2 with rfl | ⟨rfl, rfl⟩
      ·exact hSR
      ·exact hSR
     ·cases he
  ·rename_i hw
   cases he
   rw [qk s hg hw]
   exact hK _ _ ρ ⟨s.hr, s.fr.put o.dst VR.undef, s.inv, s.b0⟩ (Below.refl _ _)
  ·cases he
 ·cases hc
theorem Ho (md : Md) (dst : Option Nat) (op : AOp) : xu md dst op = op ∨ (∃ g n a, op = .load g n a ∧ xu md dst op = .loadA g n a) ∨ (∃ n a v, op = .store n a v ∧ xu md dst op = .storeB n a v) ∨
 (∃ n a v, op = .store n a v ∧ xu md dst op = .storeT n a v) ∨ (∃ cs, op = .alloc cs ∧ xu md dst op = .allocT cs.length) := by
 cases op with
 | alloc zero =>
  cases dst with
  | none => exact .inl rfl
  | some t =>
   simp only [xu]
   split
   ·exact .inr (.inr (.inr (.inr ⟨_, rfl, rfl⟩)))
   ·exact .inl rfl
 | store n a v =>
  cases a with
  | tmp t =>
   simp only [xu]
   split
   ·exact .inr (.inr (.inr (.inl ⟨_, _, _, rfl, rfl⟩)))
   ·split
    ·exact .inr (.inr (.inl ⟨_, _, _, rfl, rfl⟩))
    ·exact .inl rfl
  | _ => exact .inl rfl
 | load g n a =>
  simp only [xu]
  split
  ·exact .inr (.inl ⟨_, _, _, rfl, rfl⟩)
  ·exact .inl rfl
 | _ => exact .inl rfl
theorem z8 (ok : CallOK Γ P kf call) (s : SR Γ M0 base σ a w ρ) {ops : Array Oper} {o : Oper} {d : Md} {oo : AOper} {σ' : St} {K : Act → World → Prop} {Q : Exit → Act → World → Prop}
 (hc : zG P kf d ops o = some oo) (he : bg call oo σ = some σ') (hK : ∀ a' w' ρ', SR Γ M0 base σ' a' w' ρ' → Below base w w' → K a' w') :
 if Region.wanted o (yielded ops a.tmps) then o.wp P a w K Q else K (a.put o.dst undef) w := by
 unfold zG at hc
 split at hc
 ·rename_i x hx
  cases hc
  have hx' := hx
  unfold EZ at hx'
  split at hx'
  ·rename_i op g hop hg
   cases hx'
   have turn : ∀ {v : V} {h' : List AObj}, mi P M0 base σ w ρ v h' (execOp a.eval o) → σ' = ⟨put σ.t o.dst v, h'⟩ → bt σ g = some true → (if Region.wanted o (yielded ops a.tmps) then o.wp P a w K Q else K (a.put o.dst undef) w) := by
    intro v h' ht e hw
    rw [qk s hg hw, if_pos rfl]
    obtain ⟨n, u, w', ρ', h1, h2, h3, h4, h5, h6⟩ := ht
    subst e
    unfold Oper.wp
    rw [h1]
    have hSR : K (a.put o.dst u) w' := hK _ _ ρ' ⟨h4, (s.fr.ch h5).put o.dst h6, Γ.keep _ _ s.inv (h3.mono s.b0), s.b0⟩ h3
    rcases h2 with rfl | ⟨rfl, rfl⟩
    ·exact hSR
    ·exact hSR
   have skip : bt σ g = some false → σ' = ⟨put σ.t o.dst (.tup []), σ.h⟩ → (if Region.wanted o (yielded ops a.tmps) then o.wp P a w K Q else K (a.put o.dst undef) w) := by
    intro hw e
    subst e
    rw [qk s hg hw]
    exact hK _ _ ρ ⟨s.hr, s.fr.put o.dst VR.undef, s.inv, s.b0⟩ (Below.refl _ _)
   rcases Ho d o.dst op with e | ⟨g1, n, x, e0, e⟩ | ⟨n, x, y, e0, e⟩ | ⟨n, x, y, e0, e⟩ | ⟨cs, e0, e⟩
   ·simp only [e] at he
    exact sp ok s hx he hK
   ·subst e0
    refine sp ok s hx ?_ hK
    simp only [e] at he
    unfold bg at he ⊢
    simp only at he ⊢
    split at he
    ·split at he
     ·rename_i v hf
      simp only [cF] at hf ⊢
      split at hf
      ·cases hf
      ·rw [hf]; exact he
     ·rename_i hf
      split at he
      ·rename_i hee; cases hee
      ·cases he
    ·exact he
    ·cases he
   ·subst e0
    refine sp ok s hx ?_ hK
    simp only [e] at he
    unfold bg at he ⊢
    simp only at he ⊢
    split at he
    ·split at he
     ·rename_i v hf; cases hf
     ·split at he
      ·rename_i v h' hee
       simp only [dN] at hee ⊢
       split at hee
       ·simp only [cF]
        rw [hee]
        exact he
       ·cases hee
      ·cases he
    ·exact he
    ·cases he
   ·subst e0
    simp only [e] at he
    unfold bg at he
    simp only at he
    split at he
    ·rename_i hw
     split at he
     ·rename_i v hf; cases hf
     ·split at he
      ·rename_i v h' hee
       cases he
       simp only [dN] at hee
       split at hee
       ·rename_i m hev
        split at hee
        ·rename_i hcond
         obtain ⟨rfl, hlen, hpl⟩ := hcond
         cases hee
         obtain ⟨t, x0, y0, hoo⟩ : ∃ t x0 y0, o.op = .store t x0 y0 := by
          cases hoo : o.op <;> rw [hoo] at hop
          case store t x0 y0 => exact ⟨t, x0, y0, rfl⟩
          all_goals
           exfalso
           simp only [iS] at hop
           first
            | (cases hop; done)
            | ((repeat' (split at hop)) <;> first | contradiction | (cases hop; done) | (simp at hop; done))
         exact turn (FO s hoo hop hev hlen hpl) rfl hw
        ·cases hee
       ·cases hee
      ·cases he
    ·rename_i hw
     cases he
     exact skip hw rfl
    ·cases he
   ·subst e0
    simp only [e] at he
    unfold bg at he
    simp only at he
    split at he
    ·rename_i hw
     split at he
     ·rename_i v hf; cases hf
     ·split at he
      ·rename_i v h' hee
       cases he
       simp only [dN] at hee
       cases hee
       obtain ⟨t, hoo⟩ : ∃ t, o.op = .alloc t := by
        cases hoo : o.op <;> rw [hoo] at hop
        case alloc t => exact ⟨t, rfl⟩
        all_goals
         exfalso
         simp only [iS] at hop
         first
          | (cases hop; done)
          | ((repeat' (split at hop)) <;> first | contradiction | (cases hop; done) | (simp at hop; done))
       exact turn (EN s hoo hop) rfl hw
      ·cases he
    ·rename_i hw
     cases he
     exact skip hw rfl
    ·cases he
  ·cases hx'
 ·cases hc
end
end Gi
namespace Gi
open Go Go.RowKit
variable {KI : KF}
section
variable {Γ : Ctx} {P : Program} {M0 : Nat → Prop} {base : Nat} {σ : St} {a : Act} {w : World} {ρ : List (Option Nat)} {call : Nat → List V → Option V}
theorem Eu (ok : CallOK Γ P kf call) {ops : Array Oper} {d : Md} {Q : Exit → Act → World → Prop} : ∀ {l : List Oper} {oos : List AOper} {σ σ' : St} {a : Act} {w : World} {ρ : List (Option Nat)}, SR Γ M0 base σ a w ρ →
 iO (zG P kf d ops) l = some oos → am call oos σ = some σ' → (∀ a' w' ρ', SR Γ M0 base σ' a' w' ρ' → Below base w w' → Q .normal a' w') → wpList P ops Q l a w
 | [], oos, σ, σ', a, w, ρ, s, hc, he, hQ => by
  simp [iO] at hc; subst hc
  simp [am] at he; subst he
  exact wpList_nil (hQ a w ρ s (Below.refl _ _))
 | o :: l, oos, σ, σ', a, w, ρ, s, hc, he, hQ => by
  unfold iO at hc
  split at hc
  ·rename_i oo oos' h1 h2
   cases hc
   unfold am at he
   split at he
   ·rename_i σ1 he1
    exact wpList_step fun K hK => z8 ok s h1 he1 fun a' w' ρ' s' hb => hK _ _ (Eu ok s' h2 he fun a2 w2 ρ2 s2 hb2 => hQ a2 w2 ρ2 s2 (hb.trans hb2))
   ·cases he
  ·cases hc
theorem Opd.ev_set {x : Opd} {t : List V} {h h' : List AObj} {d : Nat} {v : V} (hd : d ∉ x.tmps) : x.ev ⟨t.set d v, h⟩ = x.ev ⟨t, h'⟩ := by
 cases x with
 | tmp n =>
  simp only [Opd.tmps, List.mem_singleton] at hd
  simp only [Opd.ev, List.getD]
  rw [List.getElem?_set_ne hd]
 | _ => rfl
theorem Ky {σ σ' : St} (hh : σ.h = σ'.h) {ao : AOp} (hx : ∀ x ∈ ao.opds, x.ev σ = x.ev σ') : cF call σ ao = cF call σ' ao := by
 cases ao with
 | build zero parts =>
  have : (parts.map fun x => (x.1, x.2.1, x.2.2.ev σ)) = (parts.map fun x => (x.1, x.2.1, x.2.2.ev σ')) := by
   apply List.map_congr_left
   intro x hxm
   rw [hx x.2.2 (by simp only [AOp.opds]; exact List.mem_map.2 ⟨x, hxm, rfl⟩)]
  simp only [cF, this]
 | call f xz fl fz =>
  have : xz.map (Opd.ev σ) = xz.map (Opd.ev σ') := List.map_congr_left (fun x hxm => hx x hxm)
  simp only [cF, this, hh]
 | callV x xz =>
  have h1 := hx x (by simp [AOp.opds])
  have : xz.map (Opd.ev σ) = xz.map (Opd.ev σ') := List.map_congr_left (fun y hy => hx y (by simp [AOp.opds, hy]))
  simp only [cF, this, hh, h1]
 | slcL z x lo hi => rfl
 | buildF z parts =>
  have : parts.map (Opd.ev σ) = parts.map (Opd.ev σ') := List.map_congr_left (fun x hxm => hx x hxm)
  simp only [cF, this]
 | slcF z x lo hi =>
  have h1 := hx x (by simp [AOp.opds])
  have h2 : ∀ d, bA σ d lo = bA σ' d lo := by
   intro d
   cases lo with
   | none => rfl
   | some o => simp only [bA, hx o (by simp [AOp.opds])]
  have h3 : ∀ d, bA σ d hi = bA σ' d hi := by
   intro d
   cases hi with
   | none => rfl
   | some o => simp only [bA, hx o (by simp [AOp.opds])]
  simp only [cF, h1, h2, h3]
 | mkfn k cs => rfl
 | callD k cs => rfl
 | mkmap => rfl
 | mset x k v => rfl
 | mget x k =>
  have h1 := hx x (by simp [AOp.opds])
  have h2 := hx k (by simp [AOp.opds])
  simp only [cF, h1, h2, hh]
 | slcS x lo hi =>
  have h1 := hx x (by simp [AOp.opds])
  have h2 : ∀ d, bA σ d lo = bA σ' d lo := by
   intro d
   cases lo with
   | none => rfl
   | some o => simp only [bA, hx o (by simp [AOp.opds])]
  have h3 : ∀ d, bA σ d hi = bA σ' d hi := by
   intro d
   cases hi with
   | none => rfl
   | some o => simp only [bA, hx o (by simp [AOp.opds])]
  simp only [cF, h1, h2, h3]
 | _ => simp_all [cF, AOp.opds]
theorem tn {σ σ' : St} {d : Int} {x : Option Opd} (hx : ∀ y ∈ x.toList, y.ev σ = y.ev σ') : bA σ d x = bA σ' d x := by
 cases x with
 | none => rfl
 | some o => simp only [bA, hx o (by simp)]
theorem Ki {σ σ' : St} (hh : σ.h = σ'.h) {ao : AOp} (hx : ∀ x ∈ ao.opds, x.ev σ = x.ev σ') : dN call σ ao = dN call σ' ao := by
 cases ao with
 | buildS z parts =>
  have : parts.map (Opd.ev σ) = parts.map (Opd.ev σ') := List.map_congr_left (fun x hxm => hx x hxm)
  simp only [dN, this, hh]
 | call f xz fl fz =>
  have : xz.map (Opd.ev σ) = xz.map (Opd.ev σ') := List.map_congr_left (fun x hxm => hx x hxm)
  cases fl <;> cases fz <;> first | rfl | simp only [dN, this, hh]
 | callD f xz =>
  have : xz.map (Opd.ev σ) = xz.map (Opd.ev σ') := List.map_congr_left (fun x hxm => hx x hxm)
  simp only [dN, this, hh]
 | mkfn k cs =>
  have : cs.map (Opd.ev σ) = cs.map (Opd.ev σ') := List.map_congr_left (fun x hxm => hx x hxm)
  simp only [dN, this, hh]
 | slcL z x lo hi =>
  have h1 := hx x (by simp [AOp.opds])
  have h2 : ∀ d, bA σ d lo = bA σ' d lo := fun d => tn fun y hy => hx y (by simp only [AOp.opds]; exact List.mem_cons_of_mem _ (List.mem_append_left _ hy))
  have h3 : ∀ d, bA σ d hi = bA σ' d hi := fun d => tn fun y hy => hx y (by simp only [AOp.opds]; exact List.mem_cons_of_mem _ (List.mem_append_right _ hy))
  simp only [dN, h1, h2, h3, hh]
 | _ => simp_all [dN, AOp.opds]
def tg (call : Nat → List V → Option V) (o : AOper) (σ : St) : Option (V × List AObj) :=
 match bt σ o.guard with
 | some true => match cF call σ o.op with
  | some v => some (v, σ.h)
  | none => dN call σ o.op
 | some false => some (.tup [], σ.h)
 | none => none
theorem zz (oo : AOper) (σ : St) : bg call oo σ = (tg call oo σ).map fun x => ⟨put σ.t oo.dst x.1, x.2⟩ := by
 unfold bg tg
 cases hw : bt σ oo.guard with
 | none => rfl
 | some b =>
  cases b with
  | false => rfl
  | true =>
   simp only
   cases hf : cF call σ oo.op with
   | some v => rfl
   | none =>
    cases he : dN call σ oo.op with
    | none => rfl
    | some x => rfl
theorem Jh {x y : AOper} (hap : tj x y = true) {t : List V} {h : List AObj} {v : V} : tg call y ⟨put t x.dst v, h⟩ = tg call y ⟨t, h⟩ := by
 cases hd : x.dst with
 | none => rfl
 | some d =>
  have hno : d ∉ y.reads := by
   simp only [tj, hd, Bool.and_eq_true, Bool.not_eq_true'] at hap
   have := hap.1.1
   simpa using this
  have hop : ∀ z ∈ y.op.opds, z.ev (⟨put t (some d) v, h⟩ : St) = z.ev ⟨t, h⟩ := fun z hz => Opd.ev_set (h' := h) (fun hm => hno (List.mem_append_left _ (List.mem_flatMap.2 ⟨z, hz, hm⟩)))
  have hw : bt (⟨put t (some d) v, h⟩ : St) y.guard = bt ⟨t, h⟩ y.guard := by
   cases hg : y.guard with
   | none => rfl
   | some gw =>
    obtain ⟨g, b⟩ := gw
    have hne : d ≠ g := fun e => hno (List.mem_append_right _ (by simp [hg, e]))
    simp only [bt, put, List.getD]
    rw [List.getElem?_set_ne hne]
  unfold tg
  rw [hw, Ky (σ := ⟨put t (some d) v, h⟩) (σ' := ⟨t, h⟩) rfl hop, Ki (σ := ⟨put t (some d) v, h⟩) (σ' := ⟨t, h⟩) rfl hop]
theorem Fl {x : Opd} {t : List V} {h h' : List AObj} : x.ev ⟨t, h⟩ = x.ev ⟨t, h'⟩ := by cases x <;> rfl
theorem uF {g : Option (Nat × Bool)} {t : List V} {h h' : List AObj} : bt ⟨t, h⟩ g = bt ⟨t, h'⟩ g := by
 cases g with
 | none => rfl
 | some gw => rfl
theorem Nk {t : List V} {h h' : List AObj} {d : Int} {x : Option Opd} : bA ⟨t, h⟩ d x = bA ⟨t, h'⟩ d x := tn fun y _ => Fl
theorem Bw {ao : AOp} (hc : ao.cls ≤ 1) : dN call σ ao = none := by
 cases ao with
 | call f xz fl fz => cases fl <;> cases fz <;> first | rfl | simp [AOp.cls] at hc
 | _ => first | rfl | simp [AOp.cls] at hc
theorem Pj {ao : AOp} (hc : 2 ≤ ao.cls) : cF call σ ao = none := by
 cases ao with
 | call f xz fl fz => cases fl <;> cases fz <;> first | rfl | simp [AOp.cls] at hc
 | _ => first | rfl | simp [AOp.cls] at hc
theorem LV {ao : AOp} (hc : ao.cls = 0) {t : List V} {h h' : List AObj} : cF call ⟨t, h⟩ ao = cF call ⟨t, h'⟩ ao := by
 have e : ∀ x : Opd, x.ev ⟨t, h⟩ = x.ev ⟨t, h'⟩ := fun x => Fl
 have e2 : ∀ d x, bA ⟨t, h⟩ d x = bA ⟨t, h'⟩ d x := fun d x => Nk
 have e3 : Opd.ev ⟨t, h⟩ = Opd.ev ⟨t, h'⟩ := funext e
 cases ao with
 | buildF z ps => simp only [cF, e3]
 | call f xz fl fz => cases fl <;> cases fz <;> simp [AOp.cls] at hc
 | _ => first | (simp [AOp.cls] at hc; done) | (simp only [cF, e, e2]; done) | rfl
def oS (h h' : List AObj) : Prop := ∀ (o : Nat) (ob : AObj), h[o]? = some ob → h'[o]? = some ob ∨ ∃ z es, ob = .arr z es ∧ h'[o]? = some (.froz z es)
theorem oS.refl (h : List AObj) : oS h h := fun _ _ e => .inl e
theorem oS.trans {a b c : List AObj} (h : oS a b) (k : oS b c) : oS a c := by
 intro o ob e
 rcases h o ob e with e1 | ⟨z, es, rfl, e1⟩
 ·exact k o ob e1
 ·rcases k o _ e1 with e2 | ⟨_, _, e3, _⟩
  ·exact .inr ⟨z, es, rfl, e2⟩
  ·cases e3
theorem oS.append (h l : List AObj) : oS h (h ++ l) := fun o ob e => .inl (by rw [List.getElem?_append_left (List.getElem?_eq_some_iff.1 e).1]; exact e)
theorem oS.freezeL (h : List AObj) (l : L) : oS h (Gi.freezeL h l) := by
 cases l with
 | arr o =>
  simp only [Gi.freezeL]
  split
  ·rename_i z es he
   intro o' ob e
   by_cases q : o = o'
   ·subst q
    rw [he] at e; cases e
    exact .inr ⟨z, es, rfl, by rw [List.getElem?_set_self (List.getElem?_eq_some_iff.1 he).1]⟩
   ·exact .inl (by rw [List.getElem?_set_ne q]; exact e)
  ·exact oS.refl h
 | _ => exact oS.refl h
theorem oS.freezeLs : ∀ (ls : List L) (h : List AObj), oS h (Gi.freezeLs h ls)
 | [], h => oS.refl h
 | l :: ls, h => (oS.freezeL h l).trans (oS.freezeLs ls (Gi.freezeL h l))
theorem oS.freezeVs : ∀ (vs : List V) (h : List AObj), oS h (Gi.freezeVs h vs)
 | [], h => oS.refl h
 | v :: vs, h => (oS.freezeLs v.cells h).trans (oS.freezeVs vs (Gi.freezeLs h v.cells))
theorem Ov {ao : AOp} (hc : ao.cls = 2) {v : V} {h' : List AObj} (he : dN call σ ao = some (v, h')) : oS σ.h h' := by
 cases ao with
 | call f xz fl fz => cases fl <;> cases fz <;> simp [AOp.cls] at hc
 | alloc zero => simp only [dN] at he; cases he; exact oS.append _ _
 | mkmap => simp only [dN] at he; cases he; exact oS.append _ _
 | allocT n => simp only [dN] at he; cases he; exact oS.append _ _
 | box x =>
  simp only [dN] at he
  split at he
  ·cases he; exact oS.append _ _
  ·cases he
 | buildS z parts =>
  simp only [dN] at he
  split at he
  ·split at he
   ·cases he; exact (oS.freezeVs _ _).trans (oS.append _ _)
   ·cases he
  ·cases he
 | make b zero n =>
  simp only [dN] at he
  split at he
  ·split at he
   ·cases he; exact oS.append _ _
   ·cases he
  ·cases he
 | slcL z x lo hi =>
  simp only [dN] at he
  split at he
  ·split at he
   ·split at he
    ·cases he; exact oS.freezeLs _ _
    ·cases he
   ·cases he
  ·cases he
 | _ => simp [AOp.cls] at hc
theorem Gn {h h' : List AObj} (k : oS h h') {l : L} {p : PV} (e : l.view h = some p) : l.view h' = some p := by
 cases l with
 | arr o =>
  simp only [L.view] at e ⊢
  split at e
  ·rename_i z es he
   rcases k o _ he with e1 | ⟨z', es', e2, e1⟩
   ·rw [e1]; exact e
   ·cases e2; rw [e1]; exact e
  ·rename_i z es he
   rcases k o _ he with e1 | ⟨z', es', e2, e1⟩
   ·rw [e1]; exact e
   ·cases e2
  ·cases e
 | _ => exact e
theorem HV {h h' : List AObj} (k : oS h h') : ∀ {ls : List L} {ps : List PV}, viewL h ls = some ps → viewL h' ls = some ps
 | [], ps, e => e
 | l :: ls, ps, e => by
  simp only [viewL] at e ⊢
  split at e
  ·rename_i p qs e1 e2
   rw [Gn k e1, HV k e2]; exact e
  ·cases e
theorem Ls {h h' : List AObj} (k : oS h h') {v u : V} (e : v.view h = some u) : v.view h' = some u := by
 unfold V.view at e ⊢
 split at e
 ·exact e
 ·rename_i l hno
  split at e
  ·rename_i p e1
   rw [Gn k e1]
   simp only
   exact e
  ·cases e
 ·split at e
  ·rename_i ps e1
   rw [HV k e1]; exact e
  ·cases e
 ·cases e
theorem ua {h h' : List AObj} (k : oS h h') : ∀ {vs us : List V}, aB h vs = some us → aB h' vs = some us
 | [], us, e => e
 | v :: vs, us, e => by
  simp only [aB] at e ⊢
  split at e
  ·rename_i p qs e1 e2
   rw [Ls k e1, ua k e2]; exact e
  ·cases e
theorem D0 {h h' : List AObj} (k : oS h h') {v : V} {es : List (List PV)} (e : asList h v = some es) : asList h' v = some es := by
 unfold asList at e ⊢
 split at e
 ·split at e
  ·rename_i es' e1
   simp only [Gn k e1]; exact e
  ·cases e
 ·cases e
theorem JC {h h' : List AObj} (k : oS h h') {l : L} {p : PV} (e : l.view h = some p) (m : L.mut h l = false) : L.mut h' l = false := by
 cases l with
 | arr o =>
  simp only [L.view] at e
  simp only [L.mut] at m ⊢
  split at e
  ·rename_i z es he
   rw [he] at m; simp at m
  ·rename_i z es he
   rcases k o _ he with e1 | ⟨z', es', e2, e1⟩
   ·rw [e1]
   ·cases e2
  ·cases e
 | _ => rfl
theorem Hi {h h' : List AObj} (k : oS h h') : ∀ {ls : List L} {ps : List PV}, viewL h ls = some ps → ls.any (L.mut h) = false → ls.any (L.mut h') = false
 | [], _, _, _ => rfl
 | l :: ls, ps, e, m => by
  simp only [viewL] at e
  split at e
  ·rename_i p qs e1 e2
   simp only [List.any_cons, Bool.or_eq_false_iff] at m ⊢
   exact ⟨JC k e1 m.1, Hi k e2 m.2⟩
  ·cases e
theorem NB {h h' : List AObj} (k : oS h h') {v u : V} (e : v.view h = some u) (m : v.mut h = false) : v.mut h' = false := by
 unfold V.view at e
 unfold V.mut at m ⊢
 split at e
 ·rfl
 ·rename_i l hno
  split at e
  ·rename_i p e1
   simp only [V.cells, List.any_cons, List.any_nil, Bool.or_false] at m ⊢
   exact JC k e1 m
  ·cases e
 ·split at e
  ·rename_i ps e1
   simp only [V.cells] at m ⊢
   exact Hi k e1 m
  ·cases e
 ·cases e
theorem Hj {h h' : List AObj} (k : oS h h') : ∀ {vs us : List V}, aB h vs = some us → vs.any (V.mut h) = false → vs.any (V.mut h') = false
 | [], _, _, _ => rfl
 | v :: vs, us, e, m => by
  simp only [aB] at e
  split at e
  ·rename_i p qs e1 e2
   simp only [List.any_cons, Bool.or_eq_false_iff] at m ⊢
   exact ⟨NB k e1 m.1, Hj k e2 m.2⟩
  ·cases e
theorem Cz {h h' : List AObj} (k : oS h h') {g : Bool} {n : Nat} {a v : V} (e : bz h g n a = some v) : bz h' g n a = some v := by
 unfold bz at e ⊢
 split at e
 ·rename_i o i j
  split at e
  ·rename_i cs he
   rcases k o _ he with e1 | ⟨z', es', e2, e1⟩
   ·simp only [e1]; exact e
   ·cases e2
  ·rename_i z es he
   rcases k o _ he with e1 | ⟨z', es', e2, e1⟩
   ·simp only [e1]; exact e
   ·cases e2; simp only [e1]; exact e
  ·rename_i z es he
   rcases k o _ he with e1 | ⟨z', es', e2, e1⟩
   ·simp only [e1]; exact e
   ·cases e2
  ·rename_i ps he
   rcases k o _ he with e1 | ⟨z', es', e2, e1⟩
   ·simp only [e1]; exact e
   ·cases e2
  ·cases e
 ·exact e
 ·cases e
theorem H5 {h h' : List AObj} (k : oS h h') {z : Nat} {x v : V} {i : Nat} (e : bm h z x i = some v) : bm h' z x i = some v := by
 unfold bm at e ⊢
 split at e
 ·rename_i o
  split at e
  ·rename_i z' es he
   rcases k o _ he with e1 | ⟨_, _, e2, e1⟩
   ·simp only [e1]; exact e
   ·cases e2; simp only [e1]; exact e
  ·rename_i z' es he
   rcases k o _ he with e1 | ⟨_, _, e2, e1⟩
   ·simp only [e1]; exact e
   ·cases e2
  ·cases e
 ·exact e
 ·cases e
theorem LS {ao : AOp} (hc : ao.cls = 1) {t : List V} {h h' : List AObj} (k : oS h h') {v : V} (e : cF call ⟨t, h⟩ ao = some v) : cF call ⟨t, h'⟩ ao = some v := by
 have ev : ∀ x : Opd, x.ev ⟨t, h⟩ = x.ev ⟨t, h'⟩ := fun x => Fl
 have evs : Opd.ev ⟨t, h⟩ = Opd.ev ⟨t, h'⟩ := funext ev
 cases ao with
 | load g n a =>
  simp only [cF, ev] at e ⊢
  exact Cz k e
 | loadB g n a =>
  simp only [cF, ev] at e ⊢
  split at e
  ·rename_i hq
   have hq' : bG h' (a.ev ⟨t, h'⟩) = true := by
    unfold bG at hq ⊢
    split at hq
    ·rename_i o i j hv
     split at hq
     ·rename_i cs ho
      rcases k o _ ho with e1 | ⟨z', es', e2, e1⟩
      ·rw [e1]
      ·cases e2
     ·rename_i cs ho
      rcases k o _ ho with e1 | ⟨z', es', e2, e1⟩
      ·rw [e1]
      ·cases e2
     ·cases hq
    ·rfl
    ·cases hq
   rw [if_pos hq']
   exact Cz k e
  ·cases e
 | loadA g n a =>
  simp only [cF, ev] at e ⊢
  split at e
  ·cases e
  ·rename_i hq
   have hq' : ¬ bG h' (a.ev ⟨t, h'⟩) = true := by
    intro hq2
    unfold bG at hq hq2
    unfold bz at e
    split at e
    ·rename_i o i j hv
     rw [hv] at hq hq2
     simp only at hq hq2
     split at e
     ·rename_i cs ho; rw [ho] at hq; exact hq rfl
     ·rename_i z es ho
      rcases k o _ ho with e1 | ⟨z', es', e2, e1⟩
      ·rw [e1] at hq2; cases hq2
      ·rw [e1] at hq2; cases hq2
     ·rename_i z es ho
      rcases k o _ ho with e1 | ⟨z', es', e2, e1⟩
      ·rw [e1] at hq2; cases hq2
      ·cases e2
     ·rename_i cs ho; rw [ho] at hq; exact hq rfl
     ·cases e
    ·rename_i e1 j hv
     rw [hv] at hq
     exact hq rfl
    ·cases e
   rw [if_neg hq']
   exact Cz k e
 | b2s x =>
  simp only [cF, ev] at e ⊢
  split at e
  ·rename_i es e1; rw [D0 k e1]; exact e
  ·cases e
 | len x =>
  simp only [cF, ev] at e ⊢
  split at e
  ·rename_i es e1; rw [D0 k e1]; exact e
  ·cases e
 | indexA z x i =>
  simp only [cF, ev] at e ⊢
  split at e
  ·split at e
   ·rename_i hn; simp only [if_pos hn]; exact H5 k e
   ·cases e
  ·cases e
 | mget x kk =>
  simp only [cF, ev] at e ⊢
  split at e
  ·rename_i o n hx hk
   split at e
   ·rename_i kvs he
    rcases k o _ he with e1 | ⟨z', es', e2, e1⟩
    ·simp only [e1]; exact e
    ·cases e2
   ·cases e
  ·cases e
 | callV x xz =>
  simp only [cF, evs] at e ⊢
  split at e
  ·split at e
   ·rename_i us e1; simp only [ua k e1]; exact e
   ·cases e
  ·cases e
 | call f xz fl fz =>
  simp only [cF, evs] at e ⊢
  split at e
  ·rename_i hfl
   rw [if_pos hfl]
   split at e
   ·rename_i hm
    split at e
    ·rename_i us e1
     have hm' : (fl || !((xz.map (Opd.ev ⟨t, h'⟩)).any (V.mut h'))) = true := by
      cases fl with
      | true => rfl
      | false =>
       simp only [Bool.false_or, Bool.not_eq_true'] at hm ⊢
       exact Hj k e1 hm
     rw [if_pos hm', ua k e1]; exact e
    ·cases e
   ·cases e
  ·cases e
 | _ => simp [AOp.cls] at hc
theorem Mv {x y : AOper} (hap : tj x y = true) (t : List V) (v u : V) : put (put t x.dst v) y.dst u = put (put t y.dst u) x.dst v := by
 cases hd : x.dst with
 | none => rfl
 | some d =>
  cases he : y.dst with
  | none => rfl
  | some e =>
   have hne : d ≠ e := by
    simp only [tj, hd, he, Bool.and_eq_true, bne_iff_ne, ne_eq] at hap
    intro e'
    exact hap.1.2 (by rw [e'])
   simp only [put]
   exact List.set_comm v u hne
theorem Gt {x y : AOper} (h : tj x y = true) : tj y x = true := by
 unfold tj at *
 cases hx : x.dst <;> cases hy : y.dst <;> simp_all
 exact fun e => h.1.2 e.symm
theorem Bv {x : AOper} (hc : x.op.cls = 0) {t : List V} {h h1 h' : List AObj} {v : V} (e : tg call x ⟨t, h⟩ = some (v, h1)) : h1 = h ∧ tg call x ⟨t, h'⟩ = some (v, h') := by
 unfold tg at e ⊢
 rw [uF (h := h') (h' := h)]
 split at e
 ·rw [LV (h := h') (h' := h) hc]
  split at e
  ·cases e; exact ⟨rfl, rfl⟩
  ·rw [Bw (by omega)] at e; cases e
 ·cases e; exact ⟨rfl, rfl⟩
 ·cases e
theorem GF {x : AOper} (hc : x.op.cls = 1) {t : List V} {h h1 h' : List AObj} (k : oS h h') {v : V} (e : tg call x ⟨t, h⟩ = some (v, h1)) : h1 = h ∧ tg call x ⟨t, h'⟩ = some (v, h') := by
 unfold tg at e ⊢
 rw [uF (h := h') (h' := h)]
 split at e
 ·split at e
  ·rename_i hf
   cases e
   rw [LS hc k hf]
   exact ⟨rfl, rfl⟩
  ·rw [Bw (by omega)] at e; cases e
 ·cases e; exact ⟨rfl, rfl⟩
 ·cases e
theorem Ou {x : AOper} (hc : x.op.cls ≤ 2) {σ : St} {h' : List AObj} {v : V} (e : tg call x σ = some (v, h')) : oS σ.h h' := by
 unfold tg at e
 split at e
 ·split at e
  ·cases e; exact oS.refl _
  ·by_cases h2 : x.op.cls = 2
   ·exact Ov h2 e
   ·rw [Bw (by omega)] at e; cases e
 ·cases e; exact oS.refl _
 ·cases e
def fw (h h' : List AObj) : Prop := ∀ (o : Nat) (ob : AObj), (match ob with | .box _ => True | .fbox _ => True | _ => False) → (h[o]? = some ob ↔ h'[o]? = some ob)
theorem fw.refl (h : List AObj) : fw h h := fun _ _ _ => Iff.rfl
theorem fw.symm {h h' : List AObj} (k : fw h h') : fw h' h := fun o ob q => (k o ob q).symm
theorem fw.trans {a b c : List AObj} (h : fw a b) (k : fw b c) : fw a c := fun o ob q => (h o ob q).trans (k o ob q)
theorem fw.push (h : List AObj) {z : Nat} {es : List (List PV)} : fw h (h ++ [.arr z es]) := fun o ob q => by
 rcases Nat.lt_trichotomy o h.length with hlt | rfl | hgt
 ·rw [List.getElem?_append_left hlt]
 ·simp only [List.getElem?_append_right (Nat.le_refl _), Nat.sub_self, List.getElem?_cons_zero, List.getElem?_eq_none (Nat.le_refl _)]
  constructor
  ·intro e; cases e
  ·intro e; cases e; exact q.elim
 ·rw [List.getElem?_eq_none (by omega), List.getElem?_eq_none (by simp; omega)]
theorem fw.setArr {h : List AObj} {o z : Nat} {es : List (List PV)} (ho : h[o]? = some (.arr z es)) {ob' : AObj} (hb : match ob' with | .box _ => False | .fbox _ => False | _ => True) : fw h (h.set o ob') := fun i ob q => by
 by_cases hi : o = i
 ·subst hi
  rw [List.getElem?_set_self (List.getElem?_eq_some_iff.1 ho).1, ho]
  constructor
  ·intro e; cases e; exact q.elim
  ·intro e; cases e; revert q hb; cases ob' <;> simp
 ·rw [List.getElem?_set_ne hi]
theorem fw.freezeL (h : List AObj) (l : L) : fw h (Gi.freezeL h l) := by
 cases l with
 | arr o =>
  simp only [Gi.freezeL]
  split
  ·rename_i z es he
   exact fw.setArr he trivial
  ·exact fw.refl h
 | _ => exact fw.refl h
theorem fw.freezeLs : ∀ (ls : List L) (h : List AObj), fw h (Gi.freezeLs h ls)
 | [], h => fw.refl h
 | l :: ls, h => (fw.freezeL h l).trans (fw.freezeLs ls (Gi.freezeL h l))
theorem fw.freezeVs : ∀ (vs : List V) (h : List AObj), fw h (Gi.freezeVs h vs)
 | [], h => fw.refl h
 | v :: vs, h => (fw.freezeLs v.cells h).trans (fw.freezeVs vs (Gi.freezeLs h v.cells))
theorem Kj {σ : St} {ao : AOp} (hc : ao.arrT = true) {v : V} {h' : List AObj} (he : dN call σ ao = some (v, h')) : fw σ.h h' := by
 cases ao with
 | buildS z parts =>
  simp only [dN] at he
  split at he
  ·split at he
   ·cases he; exact (fw.freezeVs _ _).trans (fw.push _)
   ·cases he
  ·cases he
 | make b zero n =>
  simp only [dN] at he
  split at he
  ·split at he
   ·cases he; exact fw.push _
   ·cases he
  ·cases he
 | slcL z x lo hi =>
  simp only [dN] at he
  split at he
  ·split at he
   ·split at he
    ·cases he; exact fw.freezeLs _ _
    ·cases he
   ·cases he
  ·cases he
 | append z b x y =>
  simp only [dN] at he
  split at he
  ·split at he
   ·cases he; exact fw.push _
   ·cases he
  ·split at he
   ·rename_i z' es ho
    split at he
    ·cases he; exact (fw.setArr ho trivial).trans (fw.push _)
    ·cases he
   ·cases he
  ·cases he
 | appendS b x y =>
  simp only [dN] at he
  split at he
  ·split at he
   ·cases he; exact fw.push _
   ·cases he
  ·split at he
   ·rename_i z' es ho
    split at he
    ·cases he; exact (fw.setArr ho trivial).trans (fw.push _)
    ·cases he
   ·cases he
  ·cases he
 | _ => simp [AOp.arrT] at hc
theorem Ea {x : AOper} (hc : x.op.arrT = true) {σ : St} {h' : List AObj} {v : V} (e : tg call x σ = some (v, h')) : fw σ.h h' := by
 unfold tg at e
 split at e
 ·split at e
  ·cases e; exact fw.refl _
  ·exact Kj hc e
 ·cases e; exact fw.refl _
 ·cases e
theorem Hb {h h' : List AObj} (k : fw h h') (v : V) : bG h v = bG h' v := by
 cases v with
 | one l =>
  cases l with
  | ptr o i j =>
   simp only [bG]
   cases e1 : h[o]? with
   | none =>
    cases e2 : h'[o]? with
    | none => rfl
    | some ob' =>
     cases ob' with
     | box cs => rw [(k o _ trivial).2 e2] at e1; cases e1
     | fbox cs => rw [(k o _ trivial).2 e2] at e1; cases e1
     | _ => rfl
   | some ob =>
    cases ob with
    | box cs => rw [(k o _ trivial).1 e1]
    | fbox cs => rw [(k o _ trivial).1 e1]
    | _ =>
     cases e2 : h'[o]? with
     | none => rfl
     | some ob' =>
      cases ob' with
      | box cs => rw [(k o _ trivial).2 e2] at e1; cases e1
      | fbox cs => rw [(k o _ trivial).2 e2] at e1; cases e1
      | _ => rfl
  | _ => rfl
 | _ => rfl
theorem KN {h h' : List AObj} (k : fw h h') {g : Bool} {n : Nat} (v : V) (q : bG h v = true) : bz h g n v = bz h' g n v := by
 unfold bG at q
 split at q
 ·rename_i o i j
  split at q
  ·rename_i cs e1
   simp only [bz, e1, (k o _ trivial).1 e1]
  ·rename_i cs e1
   simp only [bz, e1, (k o _ trivial).1 e1]
  ·cases q
 ·rfl
 ·cases q
theorem Mi {h h' : List AObj} (k : fw h h') {g : Bool} {n : Nat} (v : V) : (if bG h v then bz h g n v else none) = (if bG h' v then bz h' g n v else none) := by
 by_cases q : bG h v = true
 ·rw [if_pos q, if_pos (by rw [← Hb k]; exact q), KN k v q]
 ·rw [if_neg q, if_neg (by rw [← Hb k]; exact q)]
theorem Bt {x : AOper} (hc : x.op.isLB = true) {t : List V} {h h1 h' : List AObj} (k : fw h h') {v : V} (e : tg call x ⟨t, h⟩ = some (v, h1)) : h1 = h ∧ tg call x ⟨t, h'⟩ = some (v, h') := by
 unfold tg at e ⊢
 rw [uF (h := h') (h' := h)]
 have hf : cF call ⟨t, h⟩ x.op = cF call ⟨t, h'⟩ x.op ∧ ∀ s, dN call s x.op = none := by
  cases hx : x.op with
  | loadB g n a =>
   refine ⟨?_, fun _ => rfl⟩
   simp only [cF]
   rw [Fl (h := h) (h' := h')]
   exact Mi k _
  | _ => rw [hx] at hc; cases hc
 split at e
 ·rw [← hf.1]
  split at e
  ·cases e; exact ⟨rfl, rfl⟩
  ·rw [hf.2] at e; cases e
 ·cases e; exact ⟨rfl, rfl⟩
 ·cases e
def PZ (h h' : List AObj) : Prop := ∀ (o : Nat) (ob ob' : AObj), h[o]? = some ob → h'[o]? = some ob' → ob = ob' ∨ ((∃ cs, ob = .box cs) ∧ ∃ cs, ob' = .box cs)
theorem IJ {h h' : List AObj} {n : Nat} {a v : V} (q : bG h a = true) (e : bS h n a v = some h') : ∃ o cs cs', h[o]? = some (.box cs) ∧ h' = h.set o (.box cs') := by
 simp only [bS] at e
 split at e
 ·split at e
  ·rename_i o i j
   split at e
   ·rename_i cs ho
    split at e
    ·cases e; exact ⟨o, cs, _, ho, rfl⟩
    ·cases e
   ·rename_i z es ho
    simp [bG, ho] at q
   ·cases e
  ·cases e
 ·cases e
theorem tA {h : List AObj} {o : Nat} {cs cs' : List L} (ho : h[o]? = some (.box cs)) (i : Nat) : (h.set o (.box cs'))[i]? = h[i]? ∨ (h[i]? = some (.box cs) ∧ (h.set o (.box cs'))[i]? = some (.box cs')) := by
 by_cases e : o = i
 ·subst e
  exact .inr ⟨ho, List.getElem?_set_self (List.getElem?_eq_some_iff.1 ho).1⟩
 ·exact .inl (List.getElem?_set_ne e)
theorem KJ {h : List AObj} {o : Nat} {cs cs' : List L} (ho : h[o]? = some (.box cs)) (v : V) : bG (h.set o (.box cs')) v = bG h v := by
 cases v with
 | one l =>
  cases l with
  | ptr i a b =>
   simp only [bG]
   rcases tA (cs' := cs') ho i with e | ⟨e1, e2⟩
   ·rw [e]
   ·rw [e1, e2]
  | _ => rfl
 | _ => rfl
theorem KM {h : List AObj} {o : Nat} {cs cs' : List L} (ho : h[o]? = some (.box cs)) {g : Bool} {n : Nat} (v : V) : (if bG (h.set o (.box cs')) v then none else bz (h.set o (.box cs')) g n v) = (if bG h v then none else bz h g n v) := by
 rw [KJ ho]
 by_cases q : bG h v = true
 ·rw [if_pos q, if_pos q]
 ·rw [if_neg q, if_neg q]
  cases v with
  | one l =>
   cases l with
   | ptr i a b =>
    simp only [bz]
    rcases tA (cs' := cs') ho i with e | ⟨e1, e2⟩
    ·rw [e]
    ·simp [bG, e1] at q
   | _ => rfl
  | _ => rfl
theorem GG {h : List AObj} {o : Nat} {cs cs' : List L} (ho : h[o]? = some (.box cs)) {z : Nat} (x : V) (i : Nat) : bm (h.set o (.box cs')) z x i = bm h z x i := by
 cases x with
 | one l =>
  cases l with
  | arr q =>
   simp only [bm]
   rcases tA (cs' := cs') ho q with e | ⟨e1, e2⟩
   ·rw [e]
   ·rw [e1, e2]
  | pv p => cases p <;> rfl
  | _ => rfl
 | _ => rfl
theorem GD {x : AOper} (hc : x.op.isAR = true) {t : List V} {h : List AObj} {o : Nat} {cs cs' : List L} (ho : h[o]? = some (.box cs)) : tg call x ⟨t, h.set o (.box cs')⟩ = (tg call x ⟨t, h⟩).map fun y => (y.1, h.set o (.box cs')) := by
 have hf : cF call ⟨t, h.set o (.box cs')⟩ x.op = cF call ⟨t, h⟩ x.op ∧ ∀ s, dN call s x.op = none := by
  cases hx : x.op with
  | loadA g n a =>
   refine ⟨?_, fun _ => rfl⟩
   simp only [cF]
   rw [Fl (h := h.set o (.box cs')) (h' := h)]
   exact KM ho _
  | indexA z a i =>
   refine ⟨?_, fun _ => rfl⟩
   simp only [cF]
   rw [Fl (x := a) (h := h.set o (.box cs')) (h' := h), Fl (x := i) (h := h.set o (.box cs')) (h' := h)]
   simp only [GG ho]
  | _ => rw [hx] at hc; cases hc
 unfold tg
 rw [uF (h := h.set o (.box cs')) (h' := h)]
 cases bt ⟨t, h⟩ x.guard with
 | none => rfl
 | some b =>
  cases b with
  | false => rfl
  | true =>
   simp only
   rw [hf.1, hf.2, hf.2]
   cases cF call ⟨t, h⟩ x.op <;> rfl
theorem qq {x : AOper} (hc : x.op.isAR = true) {t : List V} {h h1 : List AObj} {v : V} (e : tg call x ⟨t, h⟩ = some (v, h1)) : h1 = h := by
 have he : ∀ s, dN call s x.op = none := by
  cases hx : x.op with
  | loadA g n a => exact fun _ => rfl
  | indexA z a i => exact fun _ => rfl
  | _ => rw [hx] at hc; cases hc
 unfold tg at e
 split at e
 ·split at e
  ·cases e; rfl
  ·rw [he] at e; cases e
 ·cases e; rfl
 ·cases e
theorem GE {x : AOper} (hc : x.op.isSB = true) {t : List V} {h h1 : List AObj} {v : V} (e : tg call x ⟨t, h⟩ = some (v, h1)) : h1 = h ∨ ∃ o cs cs', h[o]? = some (.box cs) ∧ h1 = h.set o (.box cs') := by
 cases hx : x.op with
 | storeB n a y =>
  unfold tg at e
  rw [hx] at e
  split at e
  ·split at e
   ·rename_i hf; cases hf
   ·simp only [dN] at e
    split at e
    ·rename_i hq
     split at e
     ·rename_i h2 hs
      cases e
      exact .inr (IJ hq hs)
     ·cases e
    ·cases e
  ·cases e; exact .inl rfl
  ·cases e
 | _ => rw [hx] at hc; cases hc
theorem Bu {x : AOper} (hc : x.op.isST = true) {t : List V} {h h1 h' : List AObj} {v : V} (e : tg call x ⟨t, h⟩ = some (v, h1)) : h1 = h ∧ tg call x ⟨t, h'⟩ = some (v, h') := by
 cases hx : x.op with
 | storeT n a y =>
  unfold tg at e ⊢
  rw [uF (h := h') (h' := h)]
  rw [hx] at e ⊢
  split at e
  ·split at e
   ·rename_i hf; cases hf
   ·simp only [dN] at e
    simp only [cF, dN]
    rw [Fl (x := a) (h := h') (h' := h), Fl (x := y) (h := h') (h' := h)]
    split at e
    ·rename_i m hev
     split at e
     ·rename_i hq
      cases e
      refine ⟨rfl, ?_⟩
      simp only [hev, if_pos hq]
     ·cases e
    ·cases e
  ·cases e; exact ⟨rfl, rfl⟩
  ·cases e
 | _ => rw [hx] at hc; cases hc
theorem Bs {x : AOper} {n : Nat} (hx : x.op = .allocT n) {t : List V} {h : List AObj} : (∀ h', tg call x ⟨t, h'⟩ = some (.one (.tp n), h' ++ [.tbox n])) ∨ (∀ h', tg call x ⟨t, h'⟩ = some (.tup [], h')) ∨ (∀ h', tg call x ⟨t, h'⟩ = none) := by
 have hw : ∀ h', bt ⟨t, h'⟩ x.guard = bt ⟨t, h⟩ x.guard := fun h' => uF
 cases q : bt ⟨t, h⟩ x.guard with
 | none => exact .inr (.inr fun h' => by unfold tg; rw [hw, q])
 | some b =>
  cases b with
  | true => exact .inl fun h' => by unfold tg; rw [hw, q, hx]; rfl
  | false => exact .inr (.inl fun h' => by unfold tg; rw [hw, q])
theorem H4 {x y : AOper} (hc : GC x y = true) {σ σ1 σ2 : St} (h1 : bg call x σ = some σ1) (h2 : bg call y σ1 = some σ2) : ∃ σ3, bg call y σ = some σ3 ∧ bg call x σ3 = some σ2 := by
 obtain ⟨t, h⟩ := σ
 simp only [GC, Bool.and_eq_true, Bool.or_eq_true, beq_iff_eq, Nat.ble_eq] at hc
 obtain ⟨hap, hcc⟩ := hc
 rw [zz, Option.map_eq_some_iff] at h1 h2
 obtain ⟨⟨v, hv⟩, e1, rfl⟩ := h1
 obtain ⟨⟨u, hu⟩, e2, rfl⟩ := h2
 simp only at e1 e2
 rw [Jh hap] at e2
 have fin : ∀ {h3 : List AObj}, tg call y ⟨t, h⟩ = some (u, h3) → tg call x ⟨t, h3⟩ = some (v, hu) → ∃ σ3, bg call y ⟨t, h⟩ = some σ3 ∧ bg call x σ3 = some ⟨put (put t x.dst v) y.dst u, hu⟩ := by
  intro h3 q1 q2
  refine ⟨⟨put t y.dst u, h3⟩, by rw [zz, q1]; rfl, ?_⟩
  rw [zz, Jh (Gt hap), q2, Mv hap]
  rfl
 rcases hcc with ((((((((hx | hy) | ⟨hx, hy⟩) | ⟨hx, hy⟩) | ⟨hx, hy⟩) | ⟨hx, hy⟩) | ⟨hx, hy⟩) | hx) | hy) | hxy
 ·obtain ⟨rfl, _⟩ := Bv (h' := h) hx e1
  exact fin e2 (Bv hx e1).2
 ·obtain ⟨rfl, q⟩ := Bv (h' := h) hy e2
  exact fin q e1
 ·obtain ⟨rfl, _⟩ := GF hx (oS.refl _) e1
  exact fin e2 (GF hx (Ou hy e2) e1).2
 ·obtain ⟨rfl, _⟩ := Bt hx (fw.refl _) e1
  exact fin e2 (Bt hx (Ea hy e2) e1).2
 ·obtain ⟨rfl, q⟩ := Bt hy (Ea hx e1).symm e2
  exact fin q e1
 ·obtain rfl := qq hx e1
  refine fin e2 ?_
  rcases GE hy e2 with rfl | ⟨o, cs, cs', ho, rfl⟩
  ·exact e1
  ·rw [GD hx ho, e1]
   rfl
 ·rcases GE hx e1 with rfl | ⟨o, cs, cs', ho, rfl⟩
  ·obtain rfl := qq hy e2
   exact fin e2 e1
  ·rw [GD hy ho, Option.map_eq_some_iff] at e2
   obtain ⟨⟨u', h3⟩, q1, q2⟩ := e2
   obtain rfl := qq hy q1
   cases q2
   exact fin q1 e1
 ·obtain ⟨rfl, _⟩ := Bu (h' := h) hx e1
  exact fin e2 (Bu hx e1).2
 ·obtain ⟨rfl, q⟩ := Bu (h' := h) hy e2
  exact fin q e1
 ·unfold MC at hxy
  split at hxy
  ·rename_i n m hx hy
   have hnm : n = m := by simpa using hxy
   subst hnm
   rcases Bs (call := call) hx (t := t) (h := h) with p | p | p
   ·rw [p] at e1
    cases e1
    rcases Bs (call := call) hy (t := t) (h := h) with q | q | q
    ·rw [q] at e2
     cases e2
     exact fin (q h) (p _)
    ·rw [q] at e2
     cases e2
     exact fin (q h) (p _)
    ·rw [q] at e2; cases e2
   ·rw [p] at e1
    cases e1
    exact fin e2 (p _)
   ·rw [p] at e1; cases e1
  ·cases hxy
inductive Anc (ops : Array Oper) (listed : Array Bool) (k : Nat) : Nat → Prop
 | dir {i : Nat} {o : Oper} {e : Edge} : ops[i]? = some o → e ∈ o.after → Region.binds .any e = true → listed.getD e.on true = false → e.on = k → Anc ops listed k i
 | via {i : Nat} {o : Oper} {e : Edge} : ops[i]? = some o → e ∈ o.after → Region.binds .any e = true → listed.getD e.on true = false → Anc ops listed k e.on → Anc ops listed k i
theorem vh {ops : Array Oper} {listed : Array Bool} {j : Nat} (hj : j ∈ Region.ready .any ops listed) {o : Oper} {e : Edge} (ho : ops[j]? = some o) (he : e ∈ o.after) (hb : Region.binds .any e = true) (hu : listed.getD e.on true = false) : False := by
 obtain ⟨_, o', ho', hall⟩ := mem_ready.1 hj
 rw [ho] at ho'; cases ho'
 have h1 := hall e he hb
 rcases Nat.lt_or_ge e.on listed.size with h' | h'
 ·simp [h'] at hu h1; rw [hu] at h1; cases h1
 ·simp [Array.getElem?_eq_none h'] at h1
theorem vg {ops : Array Oper} {listed : Array Bool} {k j : Nat} (hj : j ∈ Region.ready .any ops listed) (h : Anc ops listed k j) : False := by
 cases h with
 | dir ho he hb hu _ => exact vh hj ho he hb hu
 | via ho he hb hu _ => exact vh hj ho he hb hu
theorem Lv {ops : Array Oper} {listed : Array Bool} {k j : Nat} (hj : j ∈ Region.ready .any ops listed) (hjk : j ≠ k) {i : Nat} (h : Anc ops listed k i) : Anc ops (listed.setIfInBounds j true) k i := by
 induction h with
 | dir ho he hb hu hk => exact .dir ho he hb (by rw [hk] at hu ⊢; rw [getD_set_ne true hjk]; exact hu) hk
 | via ho he hb hu ha ih =>
  rename_i i o e
  by_cases q : j = e.on
  ·exact (vg (q ▸ hj) ha).elim
  ·exact .via ho he hb (by rw [getD_set_ne true q]; exact hu) ih
theorem Bg {ops : Array Oper} {listed : Array Bool} {k : Nat} : ∀ (l : List Oper) (acc : Array Bool), (∀ j, l[j]? = ops[acc.size + j]?) → (∀ i, acc.getD i false = true → Anc ops listed k i) → ∀ i, (JU listed k l acc).getD i false = true → Anc ops listed k i
 | [], acc, _, ha, i, h => ha i h
 | o :: l, acc, hl, ha, i, h => by
  simp only [JU] at h
  refine Bg l _ (fun j => ?_) (fun i hi => ?_) i h
  ·have := hl (j + 1)
   simp only [List.getElem?_cons_succ] at this
   rw [this, Array.size_push]
   congr 1
   omega
  ·by_cases q : i < acc.size
   ·refine ha i ?_
    simp only [Array.getD_eq_getD_getElem?] at hi ⊢
    rwa [Array.getElem?_push_lt q, ← Array.getElem?_eq_getElem q] at hi
   ·by_cases q2 : i = acc.size
    ·subst q2
     simp only [Array.getD_eq_getD_getElem?, Array.getElem?_push_size, Option.getD_some, Array.any_eq_true] at hi
     obtain ⟨x, hx, hq⟩ := hi
     simp only [Bool.and_eq_true, Bool.not_eq_true', Bool.or_eq_true, beq_iff_eq] at hq
     obtain ⟨⟨hb, hu⟩, hq⟩ := hq
     have ho : ops[acc.size]? = some o := by simpa using (hl 0).symm
     rcases hq with hk | hk
     ·exact .dir ho (Array.getElem_mem hx) hb (by simpa using hu) hk
     ·exact .via ho (Array.getElem_mem hx) hb (by simpa using hu) (ha _ (by simpa using hk))
    ·rw [Array.getD_eq_getD_getElem?, Array.getElem?_eq_none (by simp; omega)] at hi
     simp at hi
def zZ (call : Nat → List V → Option V) (oos : List AOper) (i : Nat) (σ : St) : Option St :=
 match oos[i]? with
 | none => some σ
 | some oo => bg call oo σ
def xB (call : Nat → List V → Option V) (oos : List AOper) : List Nat → St → Option St
 | [], σ => some σ
 | i :: l, σ => match zZ call oos i σ with
  | some σ' => xB call oos l σ'
  | none => none
def Lt (call : Nat → List V → Option V) (ops : Array Oper) (oos : List AOper) (σ₁ : St) : Nat → Array Bool → St → Prop
 | 0, listed, σ => Region.ready .any ops listed = [] ∧ σ = σ₁
 | fuel + 1, listed, σ => (Region.ready .any ops listed = [] → σ = σ₁) ∧ ∀ i ∈ Region.ready .any ops listed, ∃ σ', zZ call oos i σ = some σ' ∧ Lt call ops oos σ₁ fuel (listed.setIfInBounds i true) σ'
theorem H0 {ops : Array Oper} {oos : List AOper} {σ₁ : St} : ∀ (fuel t : Nat) (listed : Array Bool) (σ : St), Lt call ops oos σ₁ fuel listed σ → xB call oos (Region.linearise.go .any ops fuel t listed []) σ = some σ₁ := by
 intro fuel
 induction fuel with
 | zero => intro t listed σ h; simpa [Region.linearise.go, xB] using h.2
 | succ fuel ih =>
  intro t listed σ h
  obtain ⟨h₀, h₁⟩ := h
  simp only [Region.linearise.go]
  change xB call oos (match (Region.ready .any ops listed)[t % (Region.ready .any ops listed).length]? with
   | some i => Region.linearise.go .any ops fuel (t / (Region.ready .any ops listed).length) (listed.setIfInBounds i true) [i]
   | none => [].reverse) σ = some σ₁
  cases hi : (Region.ready .any ops listed)[t % (Region.ready .any ops listed).length]? with
  | none =>
   have hnil : Region.ready .any ops listed = [] := by
    cases hr : Region.ready .any ops listed with
    | nil => rfl
    | cons x xs =>
     rw [hr] at hi
     have hlt : t % (x :: xs).length < (x :: xs).length := Nat.mod_lt _ (by simp)
     simp at hi
     simp at hlt
     omega
   simp [xB, h₀ hnil]
  | some i =>
   simp only []
   rw [linearise_go_acc, List.reverse_singleton, List.singleton_append]
   obtain ⟨σ', e1, e2⟩ := h₁ i (List.mem_of_getElem? hi)
   simp only [xB, e1]
   exact ih _ _ _ e2
theorem HZ {ops : Array Oper} {oos : List AOper} {σ₁ : St} (hlen : oos.length = ops.size) {i : Nat} {oi : AOper} (hi : oos[i]? = some oi) :
 ∀ (fuel : Nat) (listed : Array Bool) (σ σ' : St), (∀ j oj, oos[j]? = some oj → j ≠ i → listed.getD j true = false → ¬ Anc ops listed i j → GC oi oj = true) →
  i ∈ Region.ready .any ops listed → bg call oi σ = some σ' → Lt call ops oos σ₁ fuel (listed.setIfInBounds i true) σ' → Lt call ops oos σ₁ (fuel + 1) listed σ := by
 have stepi : ∀ {σ σ' : St}, bg call oi σ = some σ' → zZ call oos i σ = some σ' := fun {σ σ'} h => by
  simp only [zZ, hi, h]
 intro fuel
 induction fuel with
 | zero =>
  intro listed σ σ' _ hr hy H
  refine ⟨fun h => (by rw [h] at hr; cases hr), fun j hj => ?_⟩
  by_cases hji : j = i
  ·subst hji; exact ⟨_, stepi hy, H⟩
  ·have := ready_mono (md := .any) hj hji
   rw [H.1] at this
   cases this
 | succ fuel ih =>
  intro listed σ σ' hfree hr hy H
  refine ⟨fun h => (by rw [h] at hr; cases hr), fun j hj => ?_⟩
  by_cases hji : j = i
  ·subst hji; exact ⟨_, stepi hy, H⟩
  ·obtain ⟨σj, e1, e2⟩ := H.2 j (ready_mono hj hji)
   obtain ⟨hjun, o, ho, hall⟩ := mem_ready.1 hj
   have hjl : j < oos.length := by rw [hlen]; exact (Array.getElem?_eq_some_iff.1 ho).1
   have hoj : oos[j]? = some oos[j] := by simp [hjl]
   have hc := hfree j _ hoj hji hjun (fun h => vg hj h)
   simp only [zZ, hoj] at e1
   obtain ⟨σ3, q1, q2⟩ := H4 hc hy e1
   refine ⟨σ3, by simp only [zZ, hoj, q1], ?_⟩
   refine ih (listed.setIfInBounds j true) σ3 σj (fun k ok hk hki hun hno => ?_) (ready_mono hr (Ne.symm hji)) q2 ?_
   ·refine hfree k ok hk hki ?_ (fun h => hno (Lv hj hji h))
    by_cases hjk : j = k
    ·subst hjk; exact hjun
    ·rw [getD_set_ne true hjk] at hun; exact hun
   ·rw [Array.setIfInBounds_comm _ _ hji]
    exact e2
theorem KA {ops : Array Oper} {oos : List AOper} {listed : Array Bool} {k : Nat} {ok : AOper} (hk : oos[k]? = some ok) (h : LW ops oos listed k = true) :
 ∀ j oj, oos[j]? = some oj → j ≠ k → listed.getD j true = false → ¬ Anc ops listed k j → GC ok oj = true := by
 intro j oj hj hne hun hw
 have hjl : j < oos.length := (List.getElem?_eq_some_iff.1 hj).1
 simp only [LW, List.all_eq_true, List.mem_range] at h
 have := h j hjl
 have ha : (JU listed k ops.toList #[]).getD j false = false := by
  cases q : (JU listed k ops.toList #[]).getD j false with
  | false => rfl
  | true => exact (hw (Bg ops.toList #[] (fun j => by simp) (fun i hi => by simp at hi) j q)).elim
 simp only [hk, hj, hun, ha, Bool.or_false, Bool.or_eq_true, beq_iff_eq, hne, false_or] at this
 exact this
theorem Gr {ops : Array Oper} {oos : List AOper} {σ₁ : St} (hlen : oos.length = ops.size) : ∀ (l : List AOper) (k : Nat) (listed : Array Bool) (σ : St), (∀ j, l[j]? = oos[k + j]?) →
 n5 ops oos l.length k listed = true → am call l σ = some σ₁ → Lt call ops oos σ₁ l.length listed σ
 | [], _, _, _, _, hB, h => ⟨by simpa [n5] using hB, by simpa [am] using h⟩
 | o :: l, k, listed, σ, hl, hB, h => by
  have h0 : oos[k]? = some o := by simpa using (hl 0).symm
  simp only [List.length_cons, n5, Bool.and_eq_true] at hB
  obtain ⟨⟨hr, hf⟩, hB'⟩ := hB
  unfold am at h
  split at h
  ·rename_i σ' he
   exact HZ hlen h0 l.length listed σ σ' (KA h0 hf) (by simpa using hr) he
    (Gr hlen l (k + 1) _ _ (fun j => by have := hl (j + 1); simpa [Nat.add_assoc, Nat.add_comm 1 j] using this) hB' h)
  ·cases h
theorem uc (ok : CallOK Γ P kf call) {ops : Array Oper} {d : Md} {oos : List AOper} (hc : iO (zG P kf d ops) ops.toList = some oos) {Q : Exit → Act → World → Prop} : ∀ {l : List Nat} {σ σ' : St} {a : Act} {w : World} {ρ : List (Option Nat)}, SR Γ M0 base σ a w ρ →
 xB call oos l σ = some σ' → (∀ a' w' ρ', SR Γ M0 base σ' a' w' ρ' → Below base w w' → Q .normal a' w') → wpOps P ops Q l a w
 | [], σ, σ', a, w, ρ, s, he, hQ => by
  simp [xB] at he; subst he
  exact hQ a w ρ s (Below.refl _ _)
 | i :: l, σ, σ', a, w, ρ, s, he, hQ => by
  simp only [xB] at he
  split at he
  ·rename_i σ1 he1
   rw [wpOps_cons]
   unfold wpOp
   cases ho : ops[i]? with
   | none =>
    have : oos[i]? = none := by
     have hl := ja hc
     have : ¬ i < ops.size := by intro hlt; simp [hlt] at ho
     exact List.getElem?_eq_none (by rw [hl]; simp; omega)
    simp only [zZ, this] at he1
    cases he1
    exact uc ok hc s he hQ
   | some o =>
    obtain ⟨oo, hoo, hco⟩ := lu hc i o (by simpa using ho)
    simp only [zZ, hoo] at he1
    have key := z8 (Q := Q) ok s hco he1 (K := wpOps P ops Q l) (fun a' w' ρ' s' hb => uc ok hc s' he fun a2 w2 ρ2 s2 hb2 => hQ a2 w2 ρ2 s2 (hb.trans hb2))
    simp only
    split
    ·rename_i hw; rw [if_pos hw] at key; exact .inl key
    ·rename_i hw; rw [if_neg hw] at key; exact key
  ·cases he
theorem LF (s : SR Γ M0 base σ a w ρ) : SR Γ M0 base σ a { w with drawn := w.drawn + 1 } ρ := by
 obtain ⟨k1, c1⟩ := s.hr.world (w' := { w with drawn := w.drawn + 1 }) (Nat.le_refl _) (fun _ _ => rfl)
 exact ⟨k1, s.fr.ch c1, Γ.keep _ _ s.inv ⟨rfl, rfl, rfl, Nat.le_refl _, fun _ _ => rfl⟩, s.b0⟩
def QE [KF] (Γ : Ctx) (M0 : Nat → Prop) (base : Nat) (w0 : World) (e : Ex) (σ' : St) (Q : Exit → Act → World → Prop) : Prop :=
 ∀ a' w' ρ', SR Γ M0 base σ' a' w' ρ' → Below base w0 w' → Q (match e with | .normal => .normal | .exit id => .exit id | .ret => .ret) a' w'
theorem H3 (ok : CallOK Γ P kf call) (hm : P.follows .mixedOrders = true) (n : Nat) {dt : Bool} {tr : List Nat} : ∀ (c : Code) {ac : ACode} {σ σ' : St} {e : Ex} {a : Act} {w : World} {ρ : List (Option Nat)} {Q : Exit → Act → World → Prop}, qK P kf dt tr c = some ac →
 aq call (gE n) ac σ = some (e, σ') → SR Γ M0 base σ a w ρ → QE Γ M0 base w e σ' Q → c.wp P Q a w := by
 intro c
 induction c with
 | skip =>
  intro ac σ σ' e a w ρ Q hc he s hQ
  cases hc
  simp only [aq] at he; cases he
  exact wp_skip (hQ a w ρ s (Below.refl _ _))
 | region id ops draw =>
  intro ac σ σ' e a w ρ Q hc he s hQ
  simp only [qK] at hc
  split at hc
  ·rename_i oos hoos
   have hrun : ∀ {oos : List AOper} {σ2}, aq call (gE n) (.region oos) σ = some (e, σ2) → am call oos σ = some σ2 ∧ e = .normal := by
    intro oos σ2 h
    simp only [aq] at h
    split at h
    ·rename_i σ3 h3; cases h; exact ⟨h3, rfl⟩
    ·cases h
   have drw : ∀ {md : Md} {oos : List AOper}, iO (zG P kf md ops) ops.toList = some oos → n5 ops oos ops.size 0 (Array.replicate ops.size false) = true → ∀ {σ2}, am call oos σ = some σ2 →
    QE Γ M0 base w .normal σ2 Q → (Code.region id ops true).wp P Q a w := by
    intro md oos hoos hchk σ2 hx hQ
    have hlen : oos.length = ops.size := by rw [ja hoos]; simp
    refine wp_region_draw fun t => ?_
    simp only [Region.schedule, hm, Bool.true_or, if_true]
    have hany := Gr hlen oos 0 (Array.replicate ops.size false) σ (by simp) (by rw [hlen]; exact hchk) hx
    rw [hlen] at hany
    have hr := H0 ops.size t _ σ hany
    exact uc ok hoos (LF s) hr (fun a' w' ρ' s' hb => hQ a' w' ρ' s' ⟨hb.os, hb.tape, hb.output, hb.size, hb.block⟩)
   split at hc
   ·rename_i hd
    subst hd
    split at hc
    ·rename_i hchk
     cases hc
     obtain ⟨hx, rfl⟩ := hrun he
     exact drw hoos hchk hx hQ
    ·split at hc
     ·rename_i oos' oos2 hoos' hoos2
      split at hc
      ·rename_i hchk
       cases hc
       obtain ⟨hx, rfl⟩ := hrun he
       exact drw hoos' hchk hx hQ
      ·split at hc
       ·rename_i hchk
        cases hc
        obtain ⟨hx, rfl⟩ := hrun he
        exact drw hoos2 hchk hx hQ
       ·cases hc
     ·cases hc
   ·rename_i hd
    cases hc
    obtain ⟨hx, rfl⟩ := hrun he
    have : draw = false := by simpa using hd
    subst this
    exact wp_region_list (Eu ok s hoos hx hQ)
  ·cases hc
 | seq x y ihx ihy =>
  intro ac σ σ' e a w ρ Q hc he s hQ
  simp only [qK] at hc
  split at hc
  ·rename_i ax ay hx hy
   cases hc
   simp only [aq] at he
   refine wp_seq ?_
   split at he
   ·rename_i σ1 he1
    exact ihx hx he1 s (fun a' w' ρ' s' hb => ihy hy he s' (fun a2 w2 ρ2 s2 hb2 => hQ a2 w2 ρ2 s2 (hb.trans hb2)))
   ·rename_i hne
    refine ihx hx he s (fun a' w' ρ' s' hb => ?_)
    cases e with
    | normal => exact absurd he (hne σ')
    | exit id => exact hQ a' w' ρ' s' hb
    | ret => exact hQ a' w' ρ' s' hb
  ·cases hc
 | cond c x y ihx ihy =>
  intro ac σ σ' e a w ρ Q hc he s hQ
  simp only [qK] at hc
  split at hc
  ·rename_i oc ax ay h1 hx hy
   cases hc
   simp only [aq] at he
   split at he
   ·rename_i t ht
    have hb := (bc s h1).bool ht
    refine wp_cond hb ?_
    cases t with
    | true => exact ihx hx he s hQ
    | false => exact ihy hy he s hQ
   ·cases he
  ·cases hc
 | block id c ih =>
  intro ac σ σ' e a w ρ Q hc he s hQ
  simp only [qK, Option.map_eq_some_iff] at hc
  obtain ⟨ax, hx, rfl⟩ := hc
  simp only [aq] at he
  refine wp_block ?_
  split at he
  ·rename_i i σ1 he1
   refine ih hx he1 s (fun a' w' ρ' s' hb => ?_)
   simp only [Exit.inBlock]
   split at he
   ·rename_i e1; cases he; rw [if_pos e1]; exact hQ a' w' ρ' s' hb
   ·rename_i e1; cases he; rw [if_neg e1]; exact hQ a' w' ρ' s' hb
  ·rename_i hne
   refine ih hx he s (fun a' w' ρ' s' hb => ?_)
   cases e with
   | normal => exact hQ a' w' ρ' s' hb
   | exit i => exact absurd he (hne i σ')
   | ret => exact hQ a' w' ρ' s' hb
 | loop c ih =>
  intro ac σ σ' e a w ρ Q hc he s hQ
  simp only [qK, Option.map_eq_some_iff] at hc
  obtain ⟨ax, hx, rfl⟩ := hc
  simp only [aq] at he
  refine wp_loop_ghost (fun k a1 w1 => ∃ σ1 ρ1, SR Γ M0 base σ1 a1 w1 ρ1 ∧ Below base w w1 ∧ gE k (aq call (gE n) ax) σ1 = some (e, σ')) n ⟨σ, ρ, s, Below.refl _ _, he⟩ ?_
  intro k a1 w1 ⟨σ1, ρ1, s1, hb1, he1⟩
  cases k with
  | zero => simp [gE] at he1
  | succ k =>
   simp only [gE] at he1
   split at he1
   ·rename_i σ2 he2
    refine ih hx he2 s1 (fun a' w' ρ' s' hb => ?_)
    exact ⟨k, Nat.lt_succ_self k, σ2, ρ', s', hb1.trans hb, he1⟩
   ·rename_i hne
    refine ih hx he1 s1 (fun a' w' ρ' s' hb => ?_)
    cases e with
    | normal => exact absurd he1 (hne σ')
    | exit id => exact hQ a' w' ρ' s' (hb1.trans hb)
    | ret => exact hQ a' w' ρ' s' (hb1.trans hb)
 | exit id =>
  intro ac σ σ' e a w ρ Q hc he s hQ
  cases hc
  simp only [aq] at he; cases he
  exact wp_exit (hQ a w ρ s (Below.refl _ _))
 | ret =>
  intro ac σ σ' e a w ρ Q hc he s hQ
  cases hc
  simp only [aq] at he; cases he
  exact wp_ret (hQ a w ρ s (Below.refl _ _))
 | _ =>
  intro ac σ σ' e a w ρ Q hc
  cases hc
structure Impl [KI : KF] (Γ : Ctx) (P : Program) (kf : FuncId → Option Nat) (Φ : Nat → Option AFn) (ext : Nat → List V → Option V) : Prop where
 prog : KI.pr = P
 mixed : P.follows .mixedOrders = true
 fns : ∀ f k, kf f = some k → (∃ fn af, P.funcs[f]? = some fn ∧ OO P kf fn = some af ∧ Φ k = some af) ∨
  (Φ k = none ∧ (∃ fn, P.funcs[f]? = some fn ∧ fn.body.isNone = false ∧ (fn.name == "runtime.NumGoroutine") = false) ∧ ∀ xz r, ext k xz = some r → Bf Γ P f xz r)
 ins : ∀ f k fn t e z b, kf f = some k → P.funcs[f]? = some fn → fn.origin = "slices.Insert" → fn.params.toList.head? = some t → m8 P t = some e → t9 P e = some z → J2 P e = some b → Be P f z b
theorem Impl.there {Φ : Nat → Option AFn} {ext : Nat → List V → Option V} (im : Impl Γ P kf Φ ext) : ∀ f k, kf f = some k → ∃ fn, P.funcs[f]? = some fn ∧ fn.body.isNone = false ∧ (fn.name == "runtime.NumGoroutine") = false := by
 intro f k hk
 rcases im.fns f k hk with ⟨fn, af, h1, h2, h3⟩ | ⟨_, h, _⟩
 ·refine ⟨fn, h1, ?_, ?_⟩
  ·unfold OO at h2
   split at h2
   ·rename_i c hb; rw [hb]; rfl
   ·cases h2
  ·unfold OO at h2
   split at h2
   ·split at h2
    ·split at h2
     ·cases h2
     ·rename_i hn; simpa using hn
    ·cases h2
   ·cases h2
 ·exact h
theorem KU {Φ : Nat → Option AFn} {ext : Nat → List V → Option V} (im : Impl Γ P kf Φ ext) : ∀ (n : Nat) (f k : Nat) (xz : List V) (r : V), kf f = some k → run Φ ext n k xz = some r → Bf Γ P f xz r := by
 intro n
 induction n with
 | zero => intro f k xz r _ h; simp [run] at h
 | succ n ih =>
  intro f k xz r hk h
  rcases im.fns f k hk with ⟨fn, af, h1, h2, h3⟩ | ⟨h1, _, h2⟩
  case inr => simp only [run, h1] at h; exact h2 xz r h
  simp only [run, h3] at h
  have ok : CallOK Γ P kf (run Φ ext n) := ⟨im.prog, im.there, fun f k xz r hk hr => ih f k xz r hk hr, im.ins⟩
  unfold OO at h2
  split at h2
  ·rename_i c hb
   split at h2
   ·rename_i ac rs hc hrs
    split at h2
    ·cases h2
    ·cases h2
     have key : ∀ {e : Ex} {σ' : St}, aq (run Φ ext n) (gE n) ac (bW ⟨fn.ntmps, rs, ac⟩ xz) = some (e, σ') → (e = .normal ∨ e = .ret) → bC σ' rs = some r → Bf Γ P f xz r := by
      intro e σ' he hee hfin
      have clean : r.clean = true := by
       unfold bC at hfin
       split at hfin
       ·cases hfin
       ·split at hfin
        ·rename_i xs _ _
         have cl : ∀ {ys}, cj σ'.h xs = some ys → (ys.all fun x => x.2.all L.clean) = true := fun h => (rS xs _ [] h).1
         split at hfin
         ·rename_i ls hys; cases hfin; simpa [V.clean] using cl hys
         ·rename_i l hys; cases hfin; simpa [V.clean] using cl hys
         ·rename_i ys _ _ hys
          split at hfin
          ·cases hfin
          ·cases hfin; simpa [V.clean] using cl hys
         ·cases hfin
        ·cases hfin
      refine ⟨clean, fun M0 w vals hG hM ha => calls_of_wp h1 hb ?_⟩
      refine H3 ok im.mixed n c hc he (Hz (fn := ⟨fn.ntmps, rs, ac⟩) hG hM ha) (fun a' w' ρ' s' hbl => ?_)
      obtain ⟨_, v, hv, hrr⟩ := Fq s' hrs hfin
      rcases hee with rfl | rfl
      ·exact bodyPost_end hv s'.fr.defers ⟨v, rfl, hbl, hrr⟩
      ·exact bodyPost_ret hv s'.fr.defers ⟨v, rfl, hbl, hrr⟩
     unfold done at h
     split at h
     ·rename_i σ' he; exact key he (.inl rfl) h
     ·rename_i σ' he; exact key he (.inr rfl) h
     ·cases h
   ·cases h2
  ·cases h2
end
end Gi
