/- Calls: what goes in, what comes back. -/
import Derived.Test.YtcjcgihohefldaaDoorGilc
namespace Gi
open Go Go.RowKit
set_option linter.unusedVariables false
set_option linter.unusedSimpArgs false
variable {KI : KF}

/-- what a result may hold -/
def L.clean : L → Bool
  | .pv _ => true
  | .nil => true
  | .own _ _ => true
  | .down _ _ => true
  | _ => false
def V.clean : V → Bool
  | .one l => l.clean
  | .agg ls => ls.all L.clean
  | .tup xs => xs.all fun x => x.2.all L.clean

def ArgsR [KF] (M : Nat → Prop) (w : World) (as : List V) (vals : List Value) : Prop :=
  as.length = vals.length ∧ ∀ (i : Nat) (x : V) (u : Value), as[i]? = some x → vals[i]? = some u → VR M w [] [] x u

def ResR [KF] (M0 : Nat → Prop) (base : Nat) (w : World) (r : V) (v : Value) : Prop :=
  ∃ ρ', HR M0 base w ρ' (thaw [] r).2 ∧ VR (Mu M0 ρ' (thaw [] r).2) w ρ' (thaw [] r).2 (thaw [] r).1 v

/-- The Go function f, at arguments that read as 'as', returns what reads as r; nothing that was there turns. -/
def Sound [KF] (Γ : Ctx) (P : Program) (f : FuncId) (as : List V) (r : V) : Prop :=
  r.clean = true ∧ ∀ (M0 : Nat → Prop) (w : World) (vals : Array Value), Γ.G w → (∀ b, M0 b → b < w.heap.size) → ArgsR M0 w as vals.toList →
    Calls P f vals w fun e w' => ∃ v, e = .returned v ∧ Below w.heap.size w w' ∧ ResR M0 w.heap.size w' r v

section
variable {Γ : Ctx} {P : Program} {M0 : Nat → Prop} {base : Nat} {σ : St} {a : Act} {w : World} {ρ : List (Option Nat)}

def shiftL (n : Nat) : L → L
  | .arr o => .arr (n + o)
  | l => l

theorem thawL_shift : ∀ (ls : List L) (g h : List AObj), ls.all L.clean = true → thawL (h ++ g) ls = ((thawL g ls).1.map (shiftL h.length), h ++ (thawL g ls).2)
  | [], g, h, _ => rfl
  | l :: ls, g, h, hc => by
    simp only [List.all_cons, Bool.and_eq_true] at hc
    cases l with
    | own z es =>
      have ih := thawL_shift ls (g ++ [.arr z es]) h hc.2
      simp only [thawL, List.append_assoc] at ih ⊢
      rw [ih]
      simp [shiftL]
    | down z es =>
      have ih := thawL_shift ls (g ++ [.darr z es]) h hc.2
      simp only [thawL, List.append_assoc] at ih ⊢
      rw [ih]
      simp [shiftL]
    | pv p => simp only [thawL]; rw [thawL_shift ls g h hc.2]; simp [shiftL]
    | nil => simp only [thawL]; rw [thawL_shift ls g h hc.2]; simp [shiftL]
    | _ => simp [L.clean] at hc
theorem thawT_shift : ∀ (xs : List (Bool × List L)) (g h : List AObj), (xs.all fun x => x.2.all L.clean) = true → thawT (h ++ g) xs = ((thawT g xs).1.map (fun x => (x.1, x.2.map (shiftL h.length))), h ++ (thawT g xs).2)
  | [], g, h, _ => rfl
  | (b, ls) :: xs, g, h, hc => by
    simp only [List.all_cons, Bool.and_eq_true] at hc
    simp only [thawT]
    rw [thawL_shift ls g h hc.1]
    simp only
    rw [thawT_shift xs (thawL g ls).2 h hc.2]
    simp
def shiftV (n : Nat) : V → V
  | .one l => .one (shiftL n l)
  | .agg ls => .agg (ls.map (shiftL n))
  | .tup xs => .tup (xs.map fun x => (x.1, x.2.map (shiftL n)))
theorem thawL_one (h : List AObj) (l : L) : ∃ l' h', thawL h [l] = ([l'], h') := by cases l <;> exact ⟨_, _, rfl⟩
theorem thaw_shift (r : V) (h : List AObj) (hc : r.clean = true) : thaw h r = (shiftV h.length (thaw [] r).1, h ++ (thaw [] r).2) := by
  cases r with
  | one l =>
    have e := thawL_shift [l] [] h (by simpa [V.clean] using hc)
    simp only [List.append_nil] at e
    obtain ⟨l', h', e'⟩ := thawL_one [] l
    simp only [thaw, e, e', List.map_cons, List.map_nil, shiftV]
  | agg ls =>
    have e := thawL_shift ls [] h (by simpa [V.clean] using hc)
    simp only [List.append_nil] at e
    simp only [thaw, e, shiftV]
  | tup xs =>
    have e := thawT_shift xs [] h (by simpa [V.clean] using hc)
    simp only [List.append_nil] at e
    simp only [thaw, e, shiftV]

/-- what lies in a thawed result's heap: arrays -/
def AObj.isArr : AObj → Prop
  | .arr _ _ => True
  | .darr _ _ => True
  | _ => False
def allArr (h : List AObj) : Prop := ∀ ob ∈ h, ob.isArr
theorem thawL_arr : ∀ (ls : List L) (g : List AObj), allArr g → allArr (thawL g ls).2
  | [], _, h => h
  | l :: ls, g, h => by
    cases l with
    | own z es =>
      simp only [thawL]
      refine thawL_arr ls _ (fun ob hob => ?_)
      rcases List.mem_append.1 hob with h1 | h1
      · exact h ob h1
      · simp at h1; subst h1; trivial
    | down z es =>
      simp only [thawL]
      refine thawL_arr ls _ (fun ob hob => ?_)
      rcases List.mem_append.1 hob with h1 | h1
      · exact h ob h1
      · simp at h1; subst h1; trivial
    | _ => simp only [thawL]; exact thawL_arr ls g h
theorem thawT_arr : ∀ (xs : List (Bool × List L)) (g : List AObj), allArr g → allArr (thawT g xs).2
  | [], _, h => h
  | (b, ls) :: xs, g, h => by simp only [thawT]; exact thawT_arr xs _ (thawL_arr ls g h)
theorem thaw_arr (r : V) : allArr (thaw [] r).2 := by
  have h0 : allArr [] := fun ob h => by cases h
  cases r with
  | one l =>
    obtain ⟨l', h', e'⟩ := thawL_one [] l
    have := thawL_arr [l] [] h0
    simp only [thaw, e'] at this ⊢
    exact this
  | agg ls => exact thawL_arr ls [] h0
  | tup xs => exact thawT_arr xs [] h0
/-- the cells of a thawed result: data, nil, an array -/
def L.tame : L → Bool
  | .pv _ => true
  | .nil => true
  | .arr _ => true
  | _ => false
theorem thawL_tame : ∀ (ls : List L) (g : List AObj), ls.all L.clean = true → (thawL g ls).1.all L.tame = true
  | [], _, _ => rfl
  | l :: ls, g, hc => by
    simp only [List.all_cons, Bool.and_eq_true] at hc
    cases l with
    | own z es => simp only [thawL, List.all_cons, L.tame, Bool.true_and]; exact thawL_tame ls _ hc.2
    | down z es => simp only [thawL, List.all_cons, L.tame, Bool.true_and]; exact thawL_tame ls _ hc.2
    | pv p => simp only [thawL, List.all_cons, L.tame, Bool.true_and]; exact thawL_tame ls _ hc.2
    | nil => simp only [thawL, List.all_cons, L.tame, Bool.true_and]; exact thawL_tame ls _ hc.2
    | _ => simp [L.clean] at hc
theorem thawT_tame : ∀ (xs : List (Bool × List L)) (g : List AObj), (xs.all fun x => x.2.all L.clean) = true → ((thawT g xs).1.all fun x => x.2.all L.tame) = true
  | [], _, _ => rfl
  | (b, ls) :: xs, g, hc => by
    simp only [List.all_cons, Bool.and_eq_true] at hc
    simp only [thawT, List.all_cons, Bool.and_eq_true]
    exact ⟨thawL_tame ls g hc.1, thawT_tame xs _ hc.2⟩

mutual
/-- The trees of a result, their names moved up. -/
theorem Tree.up {κ κ' : Nat → List Nat} {lo lo' n i i' : Nat} {w : World} (hlo : lo' ≤ lo) (hκ : ∀ b, lo ≤ b → κ' b = match κ b with
    | o :: τ => (n + o) :: τ
    | [] => []) (hi : n + i = i') : ∀ (p : PV) (v : Value) {τ : List Nat}, Tree κ lo w p ([i] ++ τ) v → Tree κ' lo' w p ([i'] ++ τ) v
  | .int _ _, _, _, r => by simpa only [Tree] using r
  | .bool _, _, _, r => by simpa only [Tree] using r
  | .str _, _, _, r => by simpa only [Tree] using r
  | .lst es, v, τ, r => by
    simp only [Tree] at r ⊢
    rcases r with r | ⟨b, c, z, cur, e, hb, hk, hz, hr, h1, h2, h3, ht⟩
    · exact .inl r
    · exact .inr ⟨b, c, z, cur, e, Nat.le_trans hlo hb, by rw [hκ b hb, hk]; simp [hi], hz, hr, h1, h2, h3, TreeLL.up hlo hκ hi z es b 0 ht⟩
theorem TreeL.up {κ κ' : Nat → List Nat} {lo lo' n i i' : Nat} {w : World} (hlo : lo' ≤ lo) (hκ : ∀ b, lo ≤ b → κ' b = match κ b with
    | o :: τ => (n + o) :: τ
    | [] => []) (hi : n + i = i') : ∀ (ps : List PV) (b o : Nat) {τ : List Nat}, TreeL κ lo w ps ([i] ++ τ) b o → TreeL κ' lo' w ps ([i'] ++ τ) b o
  | [], _, _, _, _ => by simp only [TreeL]
  | p :: ps, b, o, τ, r => by
    simp only [TreeL] at r ⊢
    obtain ⟨⟨v, hv, hp⟩, r⟩ := r
    rw [List.append_assoc] at hp
    refine ⟨⟨v, hv, ?_⟩, TreeL.up hlo hκ hi ps b (o + 1) r⟩
    rw [List.append_assoc]
    exact Tree.up hlo hκ hi p v hp
theorem TreeLL.up {κ κ' : Nat → List Nat} {lo lo' n i i' : Nat} {w : World} (hlo : lo' ≤ lo) (hκ : ∀ b, lo ≤ b → κ' b = match κ b with
    | o :: τ => (n + o) :: τ
    | [] => []) (hi : n + i = i') (z : Nat) : ∀ (es : List (List PV)) (b o : Nat) {τ : List Nat}, TreeLL κ lo w z es ([i] ++ τ) b o → TreeLL κ' lo' w z es ([i'] ++ τ) b o
  | [], _, _, _, _ => by simp only [TreeLL]
  | e :: es, b, o, τ, r => by
    simp only [TreeLL] at r ⊢
    exact ⟨r.1, TreeL.up hlo hκ hi e b o r.2.1, TreeLL.up hlo hκ hi z es b (o + z) r.2.2⟩
end

/-- Two heaps, one behind the other: the caller's, and a result's. -/
theorem HR.join {h hr : List AObj} {ρr : List (Option Nat)} {w' : World} (k : HR M0 base w ρ h) (hb : Below w.heap.size w w') (kr : HR (Mu M0 ρ h) w.heap.size w' ρr hr) (ha : allArr hr) :
    HR M0 base w' (ρ ++ ρr) (h ++ hr) ∧ Ch (Mu M0 ρ h) (Mu M0 (ρ ++ ρr) (h ++ hr)) w w' ρ (ρ ++ ρr) h (h ++ hr) ∧ (∀ b, Mu M0 (ρ ++ ρr) (h ++ hr) b → Mu (Mu M0 ρ h) ρr hr b) := by
  have left : ∀ {i : Nat} {x : AObj}, i < h.length → (h ++ hr)[i]? = some x → h[i]? = some x := fun hi e => by rwa [List.getElem?_append_left hi] at e
  have leftr : ∀ {i : Nat} {x : Option Nat}, i < h.length → (ρ ++ ρr)[i]? = some x → ρ[i]? = some x := fun hi e => by rwa [List.getElem?_append_left (by rw [k.len]; exact hi)] at e
  have right : ∀ {i : Nat} {x : AObj}, ¬ i < h.length → (h ++ hr)[i]? = some x → hr[i - h.length]? = some x := fun hi e => by rwa [List.getElem?_append_right (by omega)] at e
  have rightr : ∀ {i : Nat} {x : Option Nat}, ¬ i < h.length → (ρ ++ ρr)[i]? = some x → ρr[i - h.length]? = some x := fun hi e => by rwa [List.getElem?_append_right (by rw [k.len]; omega), k.len] at e
  have mu : ∀ b, Mu M0 (ρ ++ ρr) (h ++ hr) b → Mu (Mu M0 ρ h) ρr hr b := by
    intro b hm
    rcases hm with hm | ⟨i, x, hi, hx, hri⟩
    · exact .inl (.inl hm)
    · by_cases hlt : i < h.length
      · exact .inl (.inr ⟨i, x, left hlt hi, hx, leftr hlt hri⟩)
      · exact .inr ⟨_, x, right hlt hi, hx, rightr hlt hri⟩
  have c : Ch (Mu M0 ρ h) (Mu M0 (ρ ++ ρr) (h ++ hr)) w w' ρ (ρ ++ ρr) h (h ++ hr) := by
    refine ⟨⟨hb.size, fun b hlt hm => ?_, fun b hlt _ => hb.block b hlt⟩, fun b cur hrw => ⟨cur, by obtain ⟨T, hr'⟩ := hrw; exact ⟨T, by rw [hb.block b (Row.lt ⟨T, hr'⟩)]; exact hr'⟩, rfl⟩, fun i q x h1 h2 _ => ?_, fun o b z es p v h1 h2 _ hv => by unfold World.cell? at hv ⊢; rw [hb.block b ((k.objs o _ _ h2 h1).lt (by simp))]; exact hv⟩
    · rcases mu b hm with hm | ⟨i, x, hi, hx, hri⟩
      · exact hm
      · have := (kr.objs i x _ hi hri).base hx
        omega
    · have hlt : i < h.length := (List.getElem?_eq_some_iff.1 h2).1
      exact ⟨x, by rw [List.getElem?_append_left (by rw [k.len]; exact hlt)]; exact h1, by rw [List.getElem?_append_left hlt]; exact h2, Sim.refl _⟩
  have deep : ∃ κ, Deep κ base w' (ρ ++ ρr) (h ++ hr) ∧ Zon κ M0 w' (h ++ hr) := by
    obtain ⟨κ, d, n⟩ := k.deep
    obtain ⟨κr, dr, nr⟩ := kr.deep
    refine ⟨fun b => if b < w.heap.size then κ b else match κr b with
      | o :: τ => (h.length + o) :: τ
      | [] => [], ⟨fun i x b hi hx hri => ?_, fun i x z es b hi hd hri => ?_⟩, fun b hb' => ?_, fun b o c τ z es e ho => ?_⟩
    · by_cases hlt : i < h.length
      · have hl := (k.objs i x _ (left hlt hi) (leftr hlt hri)).lt (AObj.mut_live hx)
        rw [if_pos hl]
        exact d.root i x b (left hlt hi) hx (leftr hlt hri)
      · have hl := (kr.objs _ x _ (right hlt hi) (rightr hlt hri)).base hx
        rw [if_neg (by omega), dr.root _ x b (right hlt hi) hx (rightr hlt hri)]
        simp; omega
    · by_cases hlt : i < h.length
      · have hl := (k.objs i x _ (left hlt hi) (leftr hlt hri)).lt (AObj.mut_live (AObj.deep_mut hd))
        exact (d.tree i x z es b (left hlt hi) hd (leftr hlt hri)).go (Nat.le_refl _) (fun o _ => by unfold World.cell?; rw [hb.block b hl]) ((k.objs i x _ (left hlt hi) (leftr hlt hri)).rows hd).2 (fun c b' τ hl' e => ⟨by rw [if_pos hl']; exact e, hb.block b' hl'⟩)
      · have e0 : h.length + (i - h.length) = i := by omega
        have T := dr.tree _ x z es b (right hlt hi) hd (rightr hlt hri)
        have hrows := ((kr.objs _ x _ (right hlt hi) (rightr hlt hri)).rows hd).2
        intro i1 e1 j1 p1 h1 h2
        obtain ⟨v, hv, ht⟩ := T i1 e1 j1 p1 h1 h2
        exact ⟨v, hv, Tree.up k.le (fun b' hb' => if_neg (by omega)) e0 p1 v ht⟩
    · have := hb.size
      rw [if_neg (by omega), nr.new b hb']
    · by_cases hlt : o < h.length
      · split at e
        · exact n.zone b o c τ z es e (left hlt ho)
        · split at e
          · cases e; omega
          · cases e
      · exact (ha _ (List.mem_of_getElem? (right hlt ho))).elim
  refine ⟨⟨⟨by simp [k.len, kr.len], fun b hm => ⟨Nat.lt_of_lt_of_le (k.old b hm).1 hb.size, fun i x hi hx hri => ?_⟩, Nat.le_trans k.le hb.size, fun i x q hi hq => ?_, fun i i' x x' b h1 h2 m1 m2 r1 r2 => ?_⟩, deep⟩, c, mu⟩
  · by_cases hlt : i < h.length
    · exact (k.old b hm).2 i x (left hlt hi) hx (leftr hlt hri)
    · have := (kr.objs _ x _ (right hlt hi) (rightr hlt hri)).base hx
      have := (k.old b hm).1
      omega
  · by_cases hlt : i < h.length
    · have kx := k.objs i x q (left hlt hi) (leftr hlt hq)
      exact kx.keep c (fun b e hd => hb.block b (by subst e; exact kx.lt hd))
    · have kx := kr.objs _ x q (right hlt hi) (rightr hlt hq)
      have hx := ha x (List.mem_of_getElem? (right hlt hi))
      have main : ∀ {z : Nat} {es : List (List PV)}, ObR (Mu (Mu M0 ρ h) ρr hr) w.heap.size w' ρr hr q (.arr z es) → ObR (Mu M0 (ρ ++ ρr) (h ++ hr)) base w' (ρ ++ ρr) (h ++ hr) q (.arr z es) := by
        intro z es kx
        obtain ⟨hz, hes, kx⟩ := kx
        refine ⟨hz, hes, ?_⟩
        cases q with
        | none => exact kx
        | some b =>
          obtain ⟨hbase, cur, cap, g1, g2, g3, g4, g5⟩ := kx
          refine ⟨Nat.le_trans k.le hbase, cur, cap, g1, g2, g3, g4, fun i1 e1 j1 p1 he1 hp1 => ?_⟩
          obtain ⟨v, hv, hrd⟩ := g5 i1 e1 j1 p1 he1 hp1
          exact ⟨v, hv, hrd.weak mu⟩
      cases x <;> first | exact main kx | exact hx.elim
  · by_cases l1 : i < h.length <;> by_cases l2 : i' < h.length
    · exact k.apart i i' x x' b (left l1 h1) (left l2 h2) m1 m2 (leftr l1 r1) (leftr l2 r2)
    · have e1 := (k.objs i x _ (left l1 h1) (leftr l1 r1)).lt (AObj.mut_live m1)
      have e2 := (kr.objs _ x' _ (right l2 h2) (rightr l2 r2)).base m2
      omega
    · have e1 := (k.objs i' x' _ (left l2 h2) (leftr l2 r2)).lt (AObj.mut_live m2)
      have e2 := (kr.objs _ x _ (right l1 h1) (rightr l1 r1)).base m1
      omega
    · have := kr.apart _ _ x x' b (right l1 h1) (right l2 h2) m1 m2 (rightr l1 r1) (rightr l2 r2)
      omega

theorem LR.shift {h hr : List AObj} {ρr : List (Option Nat)} {M M' : Nat → Prop} (hl : ρ.length = h.length) (mu : ∀ b, M' b → M b) {l : L} {v : Value} (ht : l.tame = true) (r : LR M w ρr hr l v) : LR M' w (ρ ++ ρr) (h ++ hr) (shiftL h.length l) v := by
  cases l with
  | pv p => exact Reads.weak mu r
  | nil => exact r
  | arr o =>
    obtain ⟨q, ob, h1, h2, hs⟩ := r
    refine ⟨q, ob, ?_, ?_, hs⟩
    · rw [List.getElem?_append_right (by omega), hl]; simpa using h1
    · rw [List.getElem?_append_right (by omega)]; simpa using h2
  | _ => simp [L.tame] at ht
theorem LRs.shift {h hr : List AObj} {ρr : List (Option Nat)} {M M' : Nat → Prop} (hl : ρ.length = h.length) (mu : ∀ b, M' b → M b) {ls : List L} {vs : List Value} (ht : ls.all L.tame = true) (r : LRs M w ρr hr ls vs) : LRs M' w (ρ ++ ρr) (h ++ hr) (ls.map (shiftL h.length)) vs := by
  refine ⟨by simpa using r.1, fun i l v hl' hv => ?_⟩
  simp only [List.getElem?_map, Option.map_eq_some_iff] at hl'
  obtain ⟨l0, h0, rfl⟩ := hl'
  exact (r.2 i l0 v h0 hv).shift hl mu ((List.all_eq_true.1 ht) l0 (List.mem_of_getElem? h0))
theorem VR.shift {h hr : List AObj} {ρr : List (Option Nat)} {M M' : Nat → Prop} (hl : ρ.length = h.length) (mu : ∀ b, M' b → M b) {x : V} {v : Value} (ht : (match x with | .one l => l.tame | .agg ls => ls.all L.tame | .tup xs => xs.all fun x => x.2.all L.tame) = true) (r : VR M w ρr hr x v) : VR M' w (ρ ++ ρr) (h ++ hr) (shiftV h.length x) v := by
  cases x with
  | one l => exact LR.shift hl mu ht r
  | agg ls => obtain ⟨cs, rfl, hr'⟩ := r; exact ⟨cs, rfl, hr'.shift hl mu ht⟩
  | tup xs =>
    obtain ⟨vs, rfl, h1, h2⟩ := r
    refine ⟨vs, rfl, by simpa using h1, fun i x u hx hu => ?_⟩
    simp only [List.getElem?_map, Option.map_eq_some_iff] at hx
    obtain ⟨x0, h0, rfl⟩ := hx
    have hth := (List.all_eq_true.1 ht) x0 (List.mem_of_getElem? h0)
    have := h2 i x0 u h0 hu
    obtain ⟨b, ls⟩ := x0
    cases b with
    | true => obtain ⟨cs, rfl, hr'⟩ := this; exact ⟨cs, rfl, hr'.shift hl mu hth⟩
    | false =>
      match ls, this, hth with
      | [l], this, hth => exact LR.shift hl mu (by simpa using hth) this
theorem thaw_tame (r : V) (hc : r.clean = true) : (match (thaw [] r).1 with | .one l => l.tame | .agg ls => ls.all L.tame | .tup xs => xs.all fun x => x.2.all L.tame) = true := by
  cases r with
  | one l =>
    obtain ⟨l', h', e'⟩ := thawL_one [] l
    have := thawL_tame [l] [] (by simpa [V.clean] using hc)
    simp only [thaw, e'] at this ⊢
    simpa using this
  | agg ls => exact thawL_tame ls [] (by simpa [V.clean] using hc)
  | tup xs => exact thawT_tame xs [] (by simpa [V.clean] using hc)

/-- what came back, as the caller's -/
theorem res_thaw {h : List AObj} {w' : World} {r : V} {v : Value} (k : HR M0 base w ρ h) (hb : Below w.heap.size w w') (hc : r.clean = true) (rr : ResR (Mu M0 ρ h) w.heap.size w' r v) :
    ∃ ρ', HR M0 base w' ρ' (thaw h r).2 ∧ Ch (Mu M0 ρ h) (Mu M0 ρ' (thaw h r).2) w w' ρ ρ' h (thaw h r).2 ∧ VR (Mu M0 ρ' (thaw h r).2) w' ρ' (thaw h r).2 (thaw h r).1 v := by
  obtain ⟨ρr, kr, vr⟩ := rr
  obtain ⟨g1, g2, g3⟩ := k.join hb kr (thaw_arr r)
  rw [thaw_shift r h hc]
  exact ⟨ρ ++ ρr, g1, g2, vr.shift k.len g3 (thaw_tame r hc)⟩

end
end Gi
