/- The operations that leave the variables alone (but for calls): the model's run yields what the pure machine's does. -/
import Derived.Test.YtcjcgihohefldaaDoorGid
namespace Gi
open Go
set_option linter.unusedVariables false
set_option linter.unusedSimpArgs false
variable {KI : KF}

section
variable {Γ : Ctx} {P : Program} {M0 : Nat → Prop} {base : Nat} {σ : St} {a : Act} {w : World} {ρ : List (Option Nat)}

theorem opd_sound (s : SR Γ M0 base σ a w ρ) {x : Operand} {y : Opd} (h : cOpd x = some y) : VR (Mu M0 ρ σ.h) w ρ σ.h (y.ev σ) (a.eval x) := by
  unfold cOpd at h
  split at h <;> cases h
  · exact s.fr.eval _
  · simp [Opd.ev, VR, LR, Reads, Act.eval]
  · simp [Opd.ev, VR, LR, Reads, Act.eval]
  · simp [Opd.ev, VR, LR, Reads, Act.eval]
  · simp [Opd.ev, VR, LR, Act.eval]

theorem VR.int {M : Nat → Prop} {h : List AObj} {x : V} {u : Value} {k : IntKind} {n : Int} (r : VR M w ρ h x u) (e : isInt x = some (k, n)) : u = .int k n := by
  unfold isInt at e
  split at e <;> simp at e
  obtain ⟨rfl, rfl⟩ := e
  simpa [VR, LR, Reads] using r
theorem VR.bool {M : Nat → Prop} {h : List AObj} {x : V} {u : Value} {b : Bool} (r : VR M w ρ h x u) (e : isBool x = some b) : u = .bool b := by
  unfold isBool at e
  split at e <;> simp at e
  subst e
  simpa [VR, LR, Reads] using r
theorem VR.str {M : Nat → Prop} {h : List AObj} {x : V} {u : Value} {s : List UInt8} (r : VR M w ρ h x u) (e : isStr x = some s) : u = .string ⟨s.toArray⟩ := by
  unfold isStr at e
  split at e <;> simp at e
  subst e
  simpa [VR, LR, Reads] using r
theorem VR.mkInt {M : Nat → Prop} {h : List AObj} (k : IntKind) (n : Int) : VR M w ρ h (vint k n) (.int k n) := by simp [VR, LR, Reads]
theorem VR.mkBool {M : Nat → Prop} {h : List AObj} (b : Bool) : VR M w ρ h (vbool b) (.bool b) := by simp [VR, LR, Reads]
theorem VR.mkStr {M : Nat → Prop} {h : List AObj} (s : List UInt8) : VR M w ρ h (vstr s) (.string ⟨s.toArray⟩) := by simp [VR, LR, Reads]

theorem toList_mk (l : List UInt8) : (⟨l.toArray⟩ : ByteArray).toList = l := by
  have : (⟨l.toArray⟩ : ByteArray).toList = l := by simp [ByteArray.toList_eq]
  exact this

theorem eqGuard_int (op : BinOp) (t : TypeId) (x y : Operand) (k k' : IntKind) (m n : Int) : (eqGuard op t x y (.int k m) (.int k' n)).run P w = .ok () w := by
  unfold eqGuard; split <;> simp
theorem eqGuard_str (op : BinOp) (t : TypeId) (x y : Operand) (m n : ByteArray) : (eqGuard op t x y (.string m) (.string n)).run P w = .ok () w := by
  unfold eqGuard; split <;> simp
theorem eqGuard_bool (op : BinOp) (t : TypeId) (x y : Operand) (m n : Bool) : (eqGuard op t x y (.bool m) (.bool n)).run P w = .ok () w := by
  unfold eqGuard; split <;> simp

theorem bin_int_sound {op : BinOp} {k : IntKind} {m n : Int} {t : TypeId} {v : V} (h : binInt op k m n = some v) (hs : op ≠ .shl ∧ op ≠ .shr) : ∃ u, (binOp op t (.int k m) (.int k n)).run P w = .ok u w ∧ ∀ M h', VR M w ρ h' v u := by
  cases op <;> simp [binInt] at h hs <;> (try subst h)
  case quo =>
    obtain ⟨h0, rfl⟩ := h
    exact ⟨_, by simp [binOp, Op.intDiv, h0], fun _ _ => VR.mkInt _ _⟩
  case rem =>
    obtain ⟨h0, rfl⟩ := h
    exact ⟨_, by simp [binOp, Op.intDiv, h0], fun _ _ => VR.mkInt _ _⟩
  case and => exact ⟨_, by simp [binOp, Op.intBits], fun _ _ => VR.mkInt _ _⟩
  case or => exact ⟨_, by simp [binOp, Op.intBits], fun _ _ => VR.mkInt _ _⟩
  case add => exact ⟨_, by simp [binOp, Op.intArith], fun _ _ => VR.mkInt _ _⟩
  case sub => exact ⟨_, by simp [binOp, Op.intArith], fun _ _ => VR.mkInt _ _⟩
  case mul => exact ⟨_, by simp [binOp, Op.intArith], fun _ _ => VR.mkInt _ _⟩
  all_goals exact ⟨_, by simp [binOp, Op.intCmp], fun _ _ => VR.mkBool _⟩

theorem bin_shift_sound {op : BinOp} {k k' : IntKind} {m n : Int} {t : TypeId} {v : V} (h : binShift op k m n = some v) (hs : op = .shl ∨ op = .shr) : ∃ u, (binOp op t (.int k m) (.int k' n)).run P w = .ok u w ∧ ∀ M h', VR M w ρ h' v u := by
  unfold binShift at h
  split at h
  · cases h
  · rename_i hn
    rcases hs with rfl | rfl <;> simp at h <;> subst h
    · exact ⟨_, by simp [binOp, Op.shift, hn], fun _ _ => VR.mkInt _ _⟩
    · exact ⟨_, by simp [binOp, Op.shift, hn], fun _ _ => VR.mkInt _ _⟩

theorem bin_str_sound {op : BinOp} {x y : List UInt8} {t : TypeId} {v : V} (h : binStr op x y = some v) : ∃ u, (binOp op t (.string ⟨x.toArray⟩) (.string ⟨y.toArray⟩)).run P w = .ok u w ∧ ∀ M h', VR M w ρ h' v u := by
  have e1 := toList_mk x
  have e2 := toList_mk y
  cases op <;> simp [binStr] at h <;> (try subst h)
  case add =>
    obtain ⟨hl, rfl⟩ := h
    refine ⟨.string ⟨(x ++ y).toArray⟩, ?_, fun _ _ => VR.mkStr _⟩
    have h1 : ¬ (((⟨x.toArray⟩ : ByteArray).size + (⟨y.toArray⟩ : ByteArray).size : Nat) : Int) > IntKind.i64.max := by
      have a1 : (⟨x.toArray⟩ : ByteArray).size = x.length := by simp [ByteArray.size]
      have a2 : (⟨y.toArray⟩ : ByteArray).size = y.length := by simp [ByteArray.size]
      rw [a1, a2]
      have : IntKind.i64.max = 9223372036854775807 := by decide
      rw [this]
      omega
    have h2 : ((⟨x.toArray⟩ : ByteArray) ++ (⟨y.toArray⟩ : ByteArray)) = ⟨(x ++ y).toArray⟩ := by
      apply ByteArray.ext
      simp
    simp only [binOp, Op.stringOp, if_neg h1, h2]
    simp
  all_goals exact ⟨_, by simp [binOp, Op.stringOp, e1, e2], fun _ _ => VR.mkBool _⟩

theorem bin_sound {op : BinOp} {x y v : V} {u1 u2 : Value} {t : TypeId} {ox oy : Operand} {M : Nat → Prop} {h : List AObj} (hb : bin op x y = some v) (r1 : VR M w ρ h x u1) (r2 : VR M w ρ h y u2) :
    ∃ u, (do eqGuard op t ox oy u1 u2; binOp op t u1 u2 : Sem Value).run P w = .ok u w ∧ VR M w ρ h v u := by
  unfold bin at hb
  split at hb
  · rename_i k m k' n
    obtain rfl : u1 = .int k m := by simpa [VR, LR, Reads] using r1
    obtain rfl : u2 = .int k' n := by simpa [VR, LR, Reads] using r2
    have step : ∀ {v' : V}, (∃ u, (binOp op t (.int k m) (.int k' n)).run P w = .ok u w ∧ ∀ M h', VR M w ρ h' v' u) → ∃ u, (do eqGuard op t ox oy (.int k m) (.int k' n); binOp op t (.int k m) (.int k' n) : Sem Value).run P w = .ok u w ∧ VR M w ρ h v' u := by
      rintro v' ⟨u, hu, hr⟩
      exact ⟨u, by rw [Sem.run_bind, eqGuard_int, Result.andThen_ok]; exact hu, hr _ _⟩
    split at hb
    · exact step (bin_shift_sound hb (.inl rfl))
    · exact step (bin_shift_sound hb (.inr rfl))
    · rename_i h1 h2
      split at hb
      · rename_i e
        subst e
        exact step (bin_int_sound hb ⟨h1, h2⟩)
      · cases hb
  · rename_i m n
    obtain rfl : u1 = .string ⟨m.toArray⟩ := by simpa [VR, LR, Reads] using r1
    obtain rfl : u2 = .string ⟨n.toArray⟩ := by simpa [VR, LR, Reads] using r2
    obtain ⟨u, hu, hr⟩ := bin_str_sound (P := P) (w := w) (ρ := ρ) (t := t) hb
    exact ⟨u, by rw [Sem.run_bind, eqGuard_str, Result.andThen_ok]; exact hu, hr _ _⟩
  · cases hb

theorem un_sound {op : UnOp} {x v : V} {u1 : Value} {M : Nat → Prop} {h : List AObj} (hb : un op x = some v) (r1 : VR M w ρ h x u1) : ∃ u, (Op.unary op u1).run P w = .ok u w ∧ VR M w ρ h v u := by
  unfold un at hb
  split at hb
  · rename_i b
    obtain rfl : u1 = .bool b := by simpa [VR, LR, Reads] using r1
    cases hb
    exact ⟨_, by simp [Op.unary], VR.mkBool _⟩
  · rename_i k n
    obtain rfl : u1 = .int k n := by simpa [VR, LR, Reads] using r1
    cases hb
    exact ⟨_, by simp [Op.unary, Op.intArith], VR.mkInt _ _⟩
  · cases hb

/-- A value's cells. -/
theorem V.not_tup {x : V} (h : x.cells.all plain = true) : ∀ xs, x ≠ .tup xs := by
  rintro xs rfl
  simp [V.cells, plain] at h
theorem VR.cells {M : Nat → Prop} {h : List AObj} {x : V} {u : Value} (r : VR M w ρ h x u) (hx : ∀ xs, x ≠ .tup xs) : LRs M w ρ h x.cells u.cells.toList := by
  cases x with
  | one l =>
    have h1 : u.oneCell' = true := LR.one r
    have : u.cells = #[u] := by cases u <;> first | rfl | cases h1
    rw [this]
    exact ⟨rfl, fun i l' v hl hv => by
      cases i with
      | zero => simp [V.cells] at hl hv; subst hl; subst hv; exact r
      | succ i => simp [V.cells] at hl⟩
  | agg ls => obtain ⟨cs, rfl, hl⟩ := r; exact hl
  | tup xs => exact absurd rfl (hx xs)

/-- n cells from j on of cells that are there -/
theorem cut_sound {g : Bool} {n j : Nat} {cs : List L} {v : V} {us : List Value} {M : Nat → Prop} {h : List AObj} (hc : cut g n j cs = some v) (r : LRs M w ρ h cs us) :
    (g = true ∧ j + n ≤ us.length ∧ VR M w ρ h v (.agg ((us.drop j).take n).toArray)) ∨ (g = false ∧ n = 1 ∧ ∃ u, us[j]? = some u ∧ VR M w ρ h v u) := by
  unfold cut at hc
  split at hc
  · rename_i hle
    split at hc
    · rename_i hg
      cases hc
      refine .inl ⟨hg, by rw [← r.1]; exact hle, _, rfl, ?_, fun i l u hl hu => ?_⟩
      · simp [r.1]
      · simp only [List.getElem?_take, List.getElem?_drop] at hl hu
        split at hl
        · rename_i hi
          simp only [hi, if_true] at hu
          exact r.2 _ l u hl hu
        · cases hl
    · rename_i hg
      split at hc
      · rename_i hn
        split at hc
        · rename_i l hl
          cases hc
          have hj : j < us.length := by rw [← r.1]; omega
          exact .inr ⟨by simpa using hg, hn, us[j], by simp [hj], r.2 j l _ hl (by simp [hj])⟩
        · cases hc
      · cases hc
  · cases hc

/-- the cells behind a pointer -/
theorem load_cells {h : List AObj} {g : Bool} {n : Nat} {x v : V} {u : Value} (k : HR M0 base w ρ h) (hl : loadV h g n x = some v) (r : VR (Mu M0 ρ h) w ρ h x u) :
    ∃ b o, u = .pointer (some ⟨b, o, none⟩) ∧
      ((g = true ∧ ∃ us : List Value, us.length = n ∧ w.rangeAt b o us ∧ VR (Mu M0 ρ h) w ρ h v (.agg us.toArray)) ∨ (g = false ∧ n = 1 ∧ ∃ u', w.cell? ⟨b, o, none⟩ = some u' ∧ VR (Mu M0 ρ h) w ρ h v u')) := by
  have fin : ∀ {cs : List L} {us : List Value} {j b o0 : Nat}, cut g n j cs = some v → LRs (Mu M0 ρ h) w ρ h cs us → (∀ i u', us[i]? = some u' → w.cell? ⟨b, o0 + i, none⟩ = some u') → u = .pointer (some ⟨b, o0 + j, none⟩) →
      ∃ b o, u = .pointer (some ⟨b, o, none⟩) ∧
      ((g = true ∧ ∃ us : List Value, us.length = n ∧ w.rangeAt b o us ∧ VR (Mu M0 ρ h) w ρ h v (.agg us.toArray)) ∨ (g = false ∧ n = 1 ∧ ∃ u', w.cell? ⟨b, o, none⟩ = some u' ∧ VR (Mu M0 ρ h) w ρ h v u')) := by
    intro cs us j b o0 hc hls hcell hu
    refine ⟨b, o0 + j, hu, ?_⟩
    rcases cut_sound hc hls with ⟨hg, hle, hv⟩ | ⟨hg, hn, u', hu', hv⟩
    · refine .inl ⟨hg, (us.drop j).take n, by simp; omega, fun i u' hi => ?_, hv⟩
      simp only [List.getElem?_take, List.getElem?_drop] at hi
      split at hi
      · have := hcell _ u' hi
        rwa [show o0 + j + i = o0 + (j + i) by omega]
      · cases hi
    · exact .inr ⟨hg, hn, u', hcell j u' hu', hv⟩
  have rowcase : ∀ {z : Nat} {es : List (List PV)} {e : List PV} {i j b : Nat} {cur : Array Value}, es[i]? = some e → (∀ e ∈ es, e.length = z) → Row w b cur →
      (∀ (i : Nat) (e : List PV) (j : Nat) (p : PV), es[i]? = some e → e[j]? = some p → ∃ v, cur[i * z + j]? = some v ∧ Reads (Mu M0 ρ h) w p v) → cut g n j (e.map .pv) = some v → u = .pointer (some ⟨b, i * z + j, none⟩) →
      ∃ b o, u = .pointer (some ⟨b, o, none⟩) ∧
      ((g = true ∧ ∃ us : List Value, us.length = n ∧ w.rangeAt b o us ∧ VR (Mu M0 ρ h) w ρ h v (.agg us.toArray)) ∨ (g = false ∧ n = 1 ∧ ∃ u', w.cell? ⟨b, o, none⟩ = some u' ∧ VR (Mu M0 ρ h) w ρ h v u')) := by
    intro z es e i j b cur he hz hrow hcells hc hu
    have hlen : ∀ j', j' < e.length → ∃ v, cur[i * z + j']? = some v ∧ Reads (Mu M0 ρ h) w (e[j']?.getD (.bool false)) v := fun j' hj' => by
      obtain ⟨v, hv, hr⟩ := hcells i e j' (e[j']) he (by simp [hj'])
      exact ⟨v, hv, by simpa [hj'] using hr⟩
    have us : ∃ us : List Value, us.length = e.length ∧ ∀ i' u', us[i']? = some u' → cur[i * z + i']? = some u' := by
      refine ⟨(List.range e.length).map fun i' => cur[i * z + i']?.getD undef, by simp, fun i' u' hu' => ?_⟩
      simp only [List.getElem?_map, Option.map_eq_some_iff] at hu'
      obtain ⟨x, hx, rfl⟩ := hu'
      obtain ⟨h1, h2⟩ := List.getElem?_eq_some_iff.1 hx
      simp at h1 h2
      subst h2
      obtain ⟨v, hv, _⟩ := hlen i' h1
      simp [hv]
    obtain ⟨us, hl1, hl2⟩ := us
    refine fin (us := us) (o0 := i * z) (b := b) hc ⟨by simp [hl1], fun i' l u' hl hu' => ?_⟩ (fun i' u' hu' => by rw [hrow.cell]; exact hl2 i' u' hu') hu
    simp only [List.getElem?_map, Option.map_eq_some_iff] at hl
    obtain ⟨p, hp, rfl⟩ := hl
    obtain ⟨v', hv', hr⟩ := hcells i e i' p he hp
    have := hl2 i' u' hu'
    rw [hv'] at this
    cases this
    exact hr
  unfold loadV at hl
  split at hl
  · rename_i o i j
    obtain ⟨r0, ob, hr0, hob, hpt⟩ := r
    split at hl
    · rename_i cs hcs
      rw [hcs] at hob; cases hob
      split at hl
      · rename_i hi
        subst hi
        obtain ⟨b, cur, e, hbase, hrow, hls⟩ := k.objs o _ r0 hcs hr0
        obtain ⟨b', e', hu⟩ := hpt
        rw [e] at e'; cases e'
        simp [AObj.z] at hu
        exact fin (o0 := 0) (b := b) hl hls (fun i u' hi => by rw [hrow.cell]; simpa using hi) (by simpa using hu)
      · cases hl
    · rename_i z es hcs
      rw [hcs] at hob; cases hob
      obtain ⟨hz, hes, kx⟩ := k.objs o _ r0 hcs hr0
      obtain ⟨b', e', hu⟩ := hpt
      subst e'
      obtain ⟨_, cur, cap, hrow, h1, h2, h3, h4⟩ := kx
      split at hl
      · rename_i e he
        exact rowcase he hes hrow h4 hl (by simpa [AObj.z] using hu)
      · cases hl
    · rename_i z es hcs
      rw [hcs] at hob; cases hob
      obtain ⟨hz, hes, kx⟩ := k.objs o _ r0 hcs hr0
      obtain ⟨b', e', hu⟩ := hpt
      subst e'
      obtain ⟨_, cur, cap, hrow, h1, h2, h3, h4⟩ := kx
      split at hl
      · rename_i e he
        exact rowcase he hes hrow h4 hl (by simpa [AObj.z] using hu)
      · cases hl
    · rename_i z es hcs
      rw [hcs] at hob; cases hob
      obtain ⟨hz, hes, kx⟩ := k.objs o _ r0 hcs hr0
      obtain ⟨b', e', hu⟩ := hpt
      subst e'
      obtain ⟨_, cur, cap, hrow, h1, h2, h3, h4⟩ := kx
      split at hl
      · rename_i e he
        exact rowcase he hes hrow h4 hl (by simpa [AObj.z] using hu)
      · cases hl
    · rename_i ps hcs
      rw [hcs] at hob; cases hob
      split at hl
      · rename_i hi
        subst hi
        obtain ⟨b, cur, e, hm, hrow, hlen, hrd⟩ := k.objs o _ r0 hcs hr0
        obtain ⟨b', e', hu⟩ := hpt
        rw [e] at e'; cases e'
        simp [AObj.z] at hu
        refine fin (us := cur.toList) (o0 := 0) (b := b) hl ⟨by simp [hlen], fun i' l u' hl' hu' => ?_⟩ (fun i u' hi => by rw [hrow.cell]; simpa using hi) (by simpa using hu)
        simp only [List.getElem?_map, Option.map_eq_some_iff] at hl'
        obtain ⟨p, hp, rfl⟩ := hl'
        obtain ⟨v', hv', hr⟩ := hrd i' p hp
        have : cur[i']? = some u' := by simpa using hu'
        rw [hv'] at this
        cases this
        exact hr
      · cases hl
    · cases hl
  · rename_i e j
    obtain ⟨b, o, hu, hb, hlt, hrd⟩ := r
    have us : ∃ us : List Value, us.length = e.length ∧ ∀ i' u', us[i']? = some u' → w.cell? ⟨b, o + i', none⟩ = some u' := by
      refine ⟨(List.range e.length).map fun i' => (w.cell? ⟨b, o + i', none⟩).getD undef, by simp, fun i' u' hu' => ?_⟩
      simp only [List.getElem?_map, Option.map_eq_some_iff] at hu'
      obtain ⟨x, hx, rfl⟩ := hu'
      obtain ⟨h1, h2⟩ := List.getElem?_eq_some_iff.1 hx
      simp at h1 h2
      subst h2
      obtain ⟨v, hv, _⟩ := hrd.at (j := i') (p := e[i']) (by simp [h1])
      simp [hv]
    obtain ⟨us, hl1, hl2⟩ := us
    refine fin (us := us) (o0 := o) (b := b) hl ⟨by simp [hl1], fun i' l u' hl hu' => ?_⟩ hl2 hu
    simp only [List.getElem?_map, Option.map_eq_some_iff] at hl
    obtain ⟨p, hp, rfl⟩ := hl
    obtain ⟨v', hv', hr⟩ := hrd.at hp
    have := hl2 i' u' hu'
    rw [hv'] at this
    cases this
    exact hr
  · cases hl

end
end Gi
