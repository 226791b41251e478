/- Of this proof. -/
import Derived.Test.YthklhahdgbbbhaaGreatGma
import Derived.Laws.Tables
import Derived.Laws.MakeOwn
import Derived.Laws.AppendOwn
set_option linter.unusedSimpArgs false
namespace Gi
open Go
variable {KI : KF}
section
variable {Γ : Ctx} {P : Program} {M0 : Nat → Prop} {base : Nat} {σ : St} {a : Act} {w : World} {ρ : List (Option Nat)}
theorem bc (s : SR Γ M0 base σ a w ρ) {x : Operand} {y : Opd} (h : iu x = some y) : VR (Mu M0 ρ σ.h) w ρ σ.h (y.ev σ) (a.eval x) := by
 unfold iu at h
 split at h <;> cases h
 ·exact s.fr.eval _
 ·simp [Opd.ev, VR, LR, aV, Act.eval]
 ·simp [Opd.ev, VR, LR, aV, Act.eval]
 ·simp [Opd.ev, VR, LR, aV, Act.eval]
 ·simp [Opd.ev, VR, LR, Act.eval]
theorem VR.int {M : Nat → Prop} {h : List AObj} {x : V} {u : Value} {k : IntKind} {n : Int} (r : VR M w ρ h x u) (e : isInt x = some (k, n)) : u = .int k n := by
 unfold isInt at e
 split at e <;> simp at e
 obtain ⟨rfl, rfl⟩ := e
 simpa [VR, LR, aV] using r
theorem VR.bool {M : Nat → Prop} {h : List AObj} {x : V} {u : Value} {b : Bool} (r : VR M w ρ h x u) (e : isBool x = some b) : u = .bool b := by
 unfold isBool at e
 split at e <;> simp at e
 subst e
 simpa [VR, LR, aV] using r
theorem VR.str {M : Nat → Prop} {h : List AObj} {x : V} {u : Value} {s : List UInt8} (r : VR M w ρ h x u) (e : isStr x = some s) : u = .string ⟨s.toArray⟩ := by
 unfold isStr at e
 split at e <;> simp at e
 subst e
 simpa [VR, LR, aV] using r
theorem VR.mkInt {M : Nat → Prop} {h : List AObj} (k : IntKind) (n : Int) : VR M w ρ h (ae k n) (.int k n) := by simp [VR, LR, aV]
theorem VR.mkBool {M : Nat → Prop} {h : List AObj} (b : Bool) : VR M w ρ h (aj b) (.bool b) := by simp [VR, LR, aV]
theorem VR.mkStr {M : Nat → Prop} {h : List AObj} (s : List UInt8) : VR M w ρ h (eX s) (.string ⟨s.toArray⟩) := by simp [VR, LR, aV]
theorem uC (l : List UInt8) : (⟨l.toArray⟩ : ByteArray).toList = l := by
 have : (⟨l.toArray⟩ : ByteArray).toList = l := by simp [ByteArray.toList_eq]
 exact this
theorem GM (op : BinOp) (t : TypeId) (x y : Operand) (k k' : IntKind) (m n : Int) : (eqGuard op t x y (.int k m) (.int k' n)).run P w = .ok () w := by
 unfold eqGuard; split <;> simp
theorem GN (op : BinOp) (t : TypeId) (x y : Operand) (m n : ByteArray) : (eqGuard op t x y (.string m) (.string n)).run P w = .ok () w := by
 unfold eqGuard; split <;> simp
theorem wz (op : BinOp) (t : TypeId) (x y : Operand) (m n : Bool) : (eqGuard op t x y (.bool m) (.bool n)).run P w = .ok () w := by
 unfold eqGuard; split <;> simp
theorem Db {op : BinOp} {k : IntKind} {m n : Int} {t : TypeId} {v : V} (h : bf op k m n = some v) (hs : op ≠ .shl ∧ op ≠ .shr) : ∃ u, (binOp op t (.int k m) (.int k n)).run P w = .ok u w ∧ ∀ M h', VR M w ρ h' v u := by
 cases op <;> simp [bf] at h hs <;> (try subst h)
 case quo =>
  obtain ⟨h0, rfl⟩ := h
  exact ⟨_, by simp [binOp, Op.intDiv, h0], fun _ _ => VR.mkInt _ _⟩
 case rem =>
  obtain ⟨h0, rfl⟩ := h
  exact ⟨_, by simp [binOp, Op.intDiv, h0], fun _ _ => VR.mkInt _ _⟩
 case and => exact ⟨_, by simp [binOp, Op.intBits], fun _ _ => VR.mkInt _ _⟩
 case or => exact ⟨_, by simp [binOp, Op.intBits], fun _ _ => VR.mkInt _ _⟩
 case add => exact ⟨_, by simp [binOp, Op.intArith], fun _ _ => VR.mkInt _ _⟩
 case sub => exact ⟨_, by simp [binOp, Op.intArith], fun _ _ => VR.mkInt _ _⟩
 case mul => exact ⟨_, by simp [binOp, Op.intArith], fun _ _ => VR.mkInt _ _⟩
 all_goals exact ⟨_, by simp [binOp, Op.intCmp], fun _ _ => VR.mkBool _⟩
theorem sM {op : BinOp} {k k' : IntKind} {m n : Int} {t : TypeId} {v : V} (h : ie op k m n = some v) (hs : op = .shl ∨ op = .shr) : ∃ u, (binOp op t (.int k m) (.int k' n)).run P w = .ok u w ∧ ∀ M h', VR M w ρ h' v u := by
 unfold ie at h
 split at h
 ·cases h
 ·rename_i hn
  rcases hs with rfl | rfl <;> simp at h <;> subst h
  ·exact ⟨_, by simp [binOp, Op.shift, hn], fun _ _ => VR.mkInt _ _⟩
  ·exact ⟨_, by simp [binOp, Op.shift, hn], fun _ _ => VR.mkInt _ _⟩
theorem Dc {op : BinOp} {x y : List UInt8} {t : TypeId} {v : V} (h : fE op x y = some v) : ∃ u, (binOp op t (.string ⟨x.toArray⟩) (.string ⟨y.toArray⟩)).run P w = .ok u w ∧ ∀ M h', VR M w ρ h' v u := by
 have e1 := uC x
 have e2 := uC y
 cases op <;> simp [fE] at h <;> (try subst h)
 case add =>
  obtain ⟨hl, rfl⟩ := h
  refine ⟨.string ⟨(x ++ y).toArray⟩, ?_, fun _ _ => VR.mkStr _⟩
  have h1 : ¬ (((⟨x.toArray⟩ : ByteArray).size + (⟨y.toArray⟩ : ByteArray).size : Nat) : Int) > IntKind.i64.max := by
   have a1 : (⟨x.toArray⟩ : ByteArray).size = x.length := by simp [ByteArray.size]
   have a2 : (⟨y.toArray⟩ : ByteArray).size = y.length := by simp [ByteArray.size]
   rw [a1, a2]
   have : IntKind.i64.max = 9223372036854775807 := by decide
   rw [this]
   omega
  have h2 : ((⟨x.toArray⟩ : ByteArray) ++ (⟨y.toArray⟩ : ByteArray)) = ⟨(x ++ y).toArray⟩ := by
   apply ByteArray.ext
   simp
  simp only [binOp, Op.stringOp, if_neg h1, h2]
  simp
 all_goals exact ⟨_, by simp [binOp, Op.stringOp, e1, e2], fun _ _ => VR.mkBool _⟩
theorem D1 {op : BinOp} {x y v : V} {u1 u2 : Value} {t : TypeId} {ox oy : Operand} {M : Nat → Prop} {h : List AObj} (hb : bin op x y = some v) (r1 : VR M w ρ h x u1) (r2 : VR M w ρ h y u2) :
 ∃ u, (do eqGuard op t ox oy u1 u2; binOp op t u1 u2 : Sem Value).run P w = .ok u w ∧ VR M w ρ h v u := by
 unfold bin at hb
 split at hb
 ·rename_i k m k' n
  obtain rfl : u1 = .int k m := by simpa [VR, LR, aV] using r1
  obtain rfl : u2 = .int k' n := by simpa [VR, LR, aV] using r2
  have step : ∀ {v' : V}, (∃ u, (binOp op t (.int k m) (.int k' n)).run P w = .ok u w ∧ ∀ M h', VR M w ρ h' v' u) → ∃ u, (do eqGuard op t ox oy (.int k m) (.int k' n); binOp op t (.int k m) (.int k' n) : Sem Value).run P w = .ok u w ∧ VR M w ρ h v' u := by
   rintro v' ⟨u, hu, hr⟩
   exact ⟨u, by rw [Sem.run_bind, GM, Result.andThen_ok]; exact hu, hr _ _⟩
  split at hb
  ·exact step (sM hb (.inl rfl))
  ·exact step (sM hb (.inr rfl))
  ·rename_i h1 h2
   split at hb
   ·rename_i e
    subst e
    exact step (Db hb ⟨h1, h2⟩)
   ·cases hb
 ·rename_i m n
  obtain rfl : u1 = .string ⟨m.toArray⟩ := by simpa [VR, LR, aV] using r1
  obtain rfl : u2 = .string ⟨n.toArray⟩ := by simpa [VR, LR, aV] using r2
  obtain ⟨u, hu, hr⟩ := Dc (P := P) (w := w) (ρ := ρ) (t := t) hb
  exact ⟨u, by rw [Sem.run_bind, GN, Result.andThen_ok]; exact hu, hr _ _⟩
 ·cases hb
theorem M4 {op : UnOp} {x v : V} {u1 : Value} {M : Nat → Prop} {h : List AObj} (hb : un op x = some v) (r1 : VR M w ρ h x u1) : ∃ u, (Op.unary op u1).run P w = .ok u w ∧ VR M w ρ h v u := by
 unfold un at hb
 split at hb
 ·rename_i b
  obtain rfl : u1 = .bool b := by simpa [VR, LR, aV] using r1
  cases hb
  exact ⟨_, by simp [Op.unary], VR.mkBool _⟩
 ·rename_i k n
  obtain rfl : u1 = .int k n := by simpa [VR, LR, aV] using r1
  cases hb
  exact ⟨_, by simp [Op.unary, Op.intArith], VR.mkInt _ _⟩
 ·cases hb
theorem V.not_tup {x : V} (h : x.cells.all plain = true) : ∀ xs, x ≠ .tup xs := by
 rintro xs rfl
 simp [V.cells, plain] at h
theorem VR.cells {M : Nat → Prop} {h : List AObj} {x : V} {u : Value} (r : VR M w ρ h x u) (hx : ∀ xs, x ≠ .tup xs) : uW M w ρ h x.cells u.cells.toList := by
 cases x with
 | one l =>
  have h1 : u.oneCell' = true := LR.one r
  have : u.cells = #[u] := by cases u <;> first | rfl | cases h1
  rw [this]
  exact ⟨rfl, fun i l' v hl hv => by
   cases i with
   | zero => simp [V.cells] at hl hv; subst hl; subst hv; exact r
   | succ i => simp [V.cells] at hl⟩
 | agg ls => obtain ⟨cs, rfl, hl⟩ := r; exact hl
 | tup xs => exact absurd rfl (hx xs)
theorem D6 {g : Bool} {n j : Nat} {cs : List L} {v : V} {us : List Value} {M : Nat → Prop} {h : List AObj} (hc : hJ g n j cs = some v) (r : uW M w ρ h cs us) :
 (g = true ∧ j + n ≤ us.length ∧ VR M w ρ h v (.agg ((us.drop j).take n).toArray)) ∨ (g = false ∧ n = 1 ∧ ∃ u, us[j]? = some u ∧ VR M w ρ h v u) := by
 unfold hJ at hc
 split at hc
 ·rename_i hle
  split at hc
  ·rename_i hg
   cases hc
   refine .inl ⟨hg, by rw [← r.1]; exact hle, _, rfl, ?_, fun i l u hl hu => ?_⟩
   ·simp [r.1]
   ·simp only [List.getElem?_take, List.getElem?_drop] at hl hu
    split at hl
    ·rename_i hi
     simp only [hi, if_true] at hu
     exact r.2 _ l u hl hu
    ·cases hl
  ·rename_i hg
   split at hc
   ·rename_i hn
    split at hc
    ·rename_i l hl
     cases hc
     have hj : j < us.length := by rw [← r.1]; omega
     exact .inr ⟨by simpa using hg, hn, us[j], by simp [hj], r.2 j l _ hl (by simp [hj])⟩
    ·cases hc
   ·cases hc
 ·cases hc
theorem Iu {h : List AObj} {g : Bool} {n : Nat} {x v : V} {u : Value} (k : HR M0 base w ρ h) (hl : bz h g n x = some v) (r : VR (Mu M0 ρ h) w ρ h x u) :
 ∃ b o, u = .pointer (some ⟨b, o, none⟩) ∧
  ((g = true ∧ ∃ us : List Value, us.length = n ∧ w.rangeAt b o us ∧ VR (Mu M0 ρ h) w ρ h v (.agg us.toArray)) ∨ (g = false ∧ n = 1 ∧ ∃ u', w.cell? ⟨b, o, none⟩ = some u' ∧ VR (Mu M0 ρ h) w ρ h v u')) := by
 have fin : ∀ {cs : List L} {us : List Value} {j b o0 : Nat}, hJ g n j cs = some v → uW (Mu M0 ρ h) w ρ h cs us → (∀ i u', us[i]? = some u' → w.cell? ⟨b, o0 + i, none⟩ = some u') → u = .pointer (some ⟨b, o0 + j, none⟩) →
  ∃ b o, u = .pointer (some ⟨b, o, none⟩) ∧
  ((g = true ∧ ∃ us : List Value, us.length = n ∧ w.rangeAt b o us ∧ VR (Mu M0 ρ h) w ρ h v (.agg us.toArray)) ∨ (g = false ∧ n = 1 ∧ ∃ u', w.cell? ⟨b, o, none⟩ = some u' ∧ VR (Mu M0 ρ h) w ρ h v u')) := by
  intro cs us j b o0 hc hls hcell hu
  refine ⟨b, o0 + j, hu, ?_⟩
  rcases D6 hc hls with ⟨hg, hle, hv⟩ | ⟨hg, hn, u', hu', hv⟩
  ·refine .inl ⟨hg, (us.drop j).take n, by simp; omega, fun i u' hi => ?_, hv⟩
   simp only [List.getElem?_take, List.getElem?_drop] at hi
   split at hi
   ·have := hcell _ u' hi
    rwa [show o0 + j + i = o0 + (j + i) by omega]
   ·cases hi
  ·exact .inr ⟨hg, hn, u', hcell j u' hu', hv⟩
 have rowcase : ∀ {z : Nat} {es : List (List PV)} {e : List PV} {i j b : Nat} {cur : Array Value}, es[i]? = some e → (∀ e ∈ es, e.length = z) → jS w b cur →
  (∀ (i : Nat) (e : List PV) (j : Nat) (p : PV), es[i]? = some e → e[j]? = some p → ∃ v, cur[i * z + j]? = some v ∧ aV (Mu M0 ρ h) w p v) → hJ g n j (e.map .pv) = some v → u = .pointer (some ⟨b, i * z + j, none⟩) →
  ∃ b o, u = .pointer (some ⟨b, o, none⟩) ∧
  ((g = true ∧ ∃ us : List Value, us.length = n ∧ w.rangeAt b o us ∧ VR (Mu M0 ρ h) w ρ h v (.agg us.toArray)) ∨ (g = false ∧ n = 1 ∧ ∃ u', w.cell? ⟨b, o, none⟩ = some u' ∧ VR (Mu M0 ρ h) w ρ h v u')) := by
  intro z es e i j b cur he hz hrow hcells hc hu
  have hlen : ∀ j', j' < e.length → ∃ v, cur[i * z + j']? = some v ∧ aV (Mu M0 ρ h) w (e[j']?.getD (.bool false)) v := fun j' hj' => by
   obtain ⟨v, hv, hr⟩ := hcells i e j' (e[j']) he (by simp [hj'])
   exact ⟨v, hv, by simpa [hj'] using hr⟩
  have us : ∃ us : List Value, us.length = e.length ∧ ∀ i' u', us[i']? = some u' → cur[i * z + i']? = some u' := by
   refine ⟨(List.range e.length).map fun i' => cur[i * z + i']?.getD undef, by simp, fun i' u' hu' => ?_⟩
   simp only [List.getElem?_map, Option.map_eq_some_iff] at hu'
   obtain ⟨x, hx, rfl⟩ := hu'
   obtain ⟨h1, h2⟩ := List.getElem?_eq_some_iff.1 hx
   simp at h1 h2
   subst h2
   obtain ⟨v, hv, _⟩ := hlen i' h1
   simp [hv]
  obtain ⟨us, hl1, hl2⟩ := us
  refine fin (us := us) (o0 := i * z) (b := b) hc ⟨by simp [hl1], fun i' l u' hl hu' => ?_⟩ (fun i' u' hu' => by rw [hrow.cell]; exact hl2 i' u' hu') hu
  simp only [List.getElem?_map, Option.map_eq_some_iff] at hl
  obtain ⟨p, hp, rfl⟩ := hl
  obtain ⟨v', hv', hr⟩ := hcells i e i' p he hp
  have := hl2 i' u' hu'
  rw [hv'] at this
  cases this
  exact hr
 unfold bz at hl
 split at hl
 ·rename_i o i j
  obtain ⟨r0, ob, hr0, hob, hpt⟩ := r
  split at hl
  ·rename_i cs hcs
   rw [hcs] at hob; cases hob
   split at hl
   ·rename_i hi
    subst hi
    obtain ⟨b, cur, e, hbase, hrow, hls⟩ := k.objs o _ r0 hcs hr0
    obtain ⟨b', e', hu⟩ := hpt
    rw [e] at e'; cases e'
    simp [AObj.z] at hu
    exact fin (o0 := 0) (b := b) hl hls (fun i u' hi => by rw [hrow.cell]; simpa using hi) (by simpa using hu)
   ·cases hl
  ·rename_i z es hcs
   rw [hcs] at hob; cases hob
   obtain ⟨hz, hes, kx⟩ := k.objs o _ r0 hcs hr0
   obtain ⟨b', e', hu⟩ := hpt
   subst e'
   obtain ⟨_, cur, cap, hrow, h1, h2, h3, h4⟩ := kx
   split at hl
   ·rename_i e he
    exact rowcase he hes hrow h4 hl (by simpa [AObj.z] using hu)
   ·cases hl
  ·rename_i z es hcs
   rw [hcs] at hob; cases hob
   obtain ⟨hz, hes, kx⟩ := k.objs o _ r0 hcs hr0
   obtain ⟨b', e', hu⟩ := hpt
   subst e'
   obtain ⟨_, cur, cap, hrow, h1, h2, h3, h4⟩ := kx
   split at hl
   ·rename_i e he
    exact rowcase he hes hrow h4 hl (by simpa [AObj.z] using hu)
   ·cases hl
  ·rename_i ps hcs
   rw [hcs] at hob; cases hob
   split at hl
   ·rename_i hi
    subst hi
    obtain ⟨b, cur, e, hm, hrow, hlen, hrd⟩ := k.objs o _ r0 hcs hr0
    obtain ⟨b', e', hu⟩ := hpt
    rw [e] at e'; cases e'
    simp [AObj.z] at hu
    refine fin (us := cur.toList) (o0 := 0) (b := b) hl ⟨by simp [hlen], fun i' l u' hl' hu' => ?_⟩ (fun i u' hi => by rw [hrow.cell]; simpa using hi) (by simpa using hu)
    simp only [List.getElem?_map, Option.map_eq_some_iff] at hl'
    obtain ⟨p, hp, rfl⟩ := hl'
    obtain ⟨v', hv', hr⟩ := hrd i' p hp
    have : cur[i']? = some u' := by simpa using hu'
    rw [hv'] at this
    cases this
    exact hr
   ·cases hl
  ·cases hl
 ·rename_i e j
  obtain ⟨b, o, hu, hb, hlt, hrd⟩ := r
  have us : ∃ us : List Value, us.length = e.length ∧ ∀ i' u', us[i']? = some u' → w.cell? ⟨b, o + i', none⟩ = some u' := by
   refine ⟨(List.range e.length).map fun i' => (w.cell? ⟨b, o + i', none⟩).getD undef, by simp, fun i' u' hu' => ?_⟩
   simp only [List.getElem?_map, Option.map_eq_some_iff] at hu'
   obtain ⟨x, hx, rfl⟩ := hu'
   obtain ⟨h1, h2⟩ := List.getElem?_eq_some_iff.1 hx
   simp at h1 h2
   subst h2
   obtain ⟨v, hv, _⟩ := hrd.at (j := i') (p := e[i']) (by simp [h1])
   simp [hv]
  obtain ⟨us, hl1, hl2⟩ := us
  refine fin (us := us) (o0 := o) (b := b) hl ⟨by simp [hl1], fun i' l u' hl hu' => ?_⟩ hl2 hu
  simp only [List.getElem?_map, Option.map_eq_some_iff] at hl
  obtain ⟨p, hp, rfl⟩ := hl
  obtain ⟨v', hv', hr⟩ := hrd.at hp
  have := hl2 i' u' hu'
  rw [hv'] at this
  cases this
  exact hr
 ·cases hl
end
end Gi
namespace Gi
open Go
variable {KI : KF}
section
variable {Γ : Ctx} {P : Program} {M0 : Nat → Prop} {base : Nat} {σ : St} {a : Act} {w : World} {ρ : List (Option Nat)}
theorem v5 {M : Nat → Prop} {b z cap : Nat} {cur : Array Value} {es : List (List PV)} (hrow : jS w b cur) (hes : ∀ e ∈ es, e.length = z) (hm : ¬ M b) (hcap : es.length ≤ cap)
 (hc : ∀ (i : Nat) (e : List PV) (j : Nat) (p : PV), es[i]? = some e → e[j]? = some p → ∃ v, cur[i * z + j]? = some v ∧ aV M w p v) : aV M w (.lst es) (.slice (some ⟨b, 0, none⟩) es.length cap) := by
 simp only [aV]
 refine .inr ⟨b, 0, cap, z, rfl, hm, hrow.lt, ep.of fun i e he => ⟨hes e (List.mem_of_getElem? he), fQ.of fun j p hp => ?_⟩, hcap⟩
 obtain ⟨v, hv, hr⟩ := hc i e j p he hp
 exact ⟨v, by rw [hrow.cell]; simpa using hv, hr⟩
theorem aV.weak {M M' : Nat → Prop} (h : ∀ b, M' b → M b) {p : PV} {v : Value} (r : aV M w p v) : aV M' w p v :=
 aV.go ⟨Nat.le_refl _, fun b _ => h b, fun _ _ _ => rfl⟩ p v r
theorem qj {h : List AObj} (k : HR M0 base w ρ h) {l : L} {p : PV} {v : Value} (r : LR (Mu M0 ρ h) w ρ h l v) (e : l.view h = some p) (hm : L.mut h l = false) : aV (Mu M0 ρ h) w p v := by
 cases l with
 | pv q => simp only [L.view] at e; cases e; exact r
 | nil =>
  simp only [L.view] at e; cases e
  simp only [LR] at r; subst r
  simp only [aV]
  exact .inl ⟨by trivial, _, _, rfl⟩
 | arr o =>
  obtain ⟨r0, ob, hr0, hob, hs⟩ := r
  simp only [L.view, hob] at e
  simp only [L.mut, hob] at hm
  cases ob with
  | froz z es =>
   cases e
   obtain ⟨hz, hes, kx⟩ := k.objs o _ r0 hob hr0
   cases r0 with
   | none =>
    obtain rfl : es = [] := kx
    simp only [sL] at hs; subst hs
    simp only [aV]
    exact .inl ⟨by trivial, _, _, rfl⟩
   | some b =>
    obtain ⟨hnm, cur, cap, hrow, h1, h2, h3, h4⟩ := kx
    obtain ⟨cur', cap', hrow', _, hc', _, rfl⟩ := hs
    exact v5 hrow hes hnm hc' h4
  | arr z es => simp at hm
  | box cs => cases e
  | fbox ps => cases e
  | imap kvs => cases e
  | tbox n => cases e
  | dead => cases e
 | _ => cases e
theorem wo {h : List AObj} (k : HR M0 base w ρ h) {l : L} {p : PV} {v : Value} (r : LR (Mu M0 ρ h) w ρ h l v) (e : l.view h = some p) : aV (fun _ => False) w p v := by
 by_cases hm : L.mut h l = true
 ·cases l with
  | arr o =>
   obtain ⟨r0, ob, hr0, hob, hs⟩ := r
   simp only [L.view, hob] at e
   simp only [L.mut, hob] at hm
   cases ob with
   | arr z es =>
    cases e
    obtain ⟨hz, hes, kx⟩ := k.objs o _ r0 hob hr0
    cases r0 with
    | none =>
     obtain rfl : es = [] := kx
     simp only [sL] at hs; subst hs
     simp only [aV]
     exact .inl ⟨by trivial, _, _, rfl⟩
    | some b =>
     obtain ⟨_, cur, cap, hrow, h1, h2, h3, h4⟩ := kx
     obtain ⟨cur', cap', hrow', _, hc', _, rfl⟩ := hs
     exact v5 hrow hes (fun h => h) hc' (fun i e j p he hp => by
      obtain ⟨v, hv, hr⟩ := h4 i e j p he hp
      exact ⟨v, hv, hr.weak (fun _ h => h.elim)⟩)
   | _ => simp at hm
  | _ => simp [L.mut] at hm
 ·exact (qj k r e (by simpa using hm)).weak (fun _ h => h.elim)
theorem rJ (s : SR Γ M0 base σ a w ρ) {x : V} {u : Value} {es : List (List PV)} (r : VR (Mu M0 ρ σ.h) w ρ σ.h x u) (e : asList σ.h x = some es) : aV (fun _ => False) w (.lst es) u := by
 unfold asList at e
 split at e
 ·rename_i l
  split at e
  ·rename_i es' he
   cases e
   exact wo s.hr r he
  ·cases e
 ·cases e
theorem aV.slice {M : Nat → Prop} {es : List (List PV)} {u : Value} (r : aV M w (.lst es) u) : ∃ ad c, u = .slice ad es.length c := by
 simp only [aV] at r
 rcases r with ⟨rfl, a, c, rfl⟩ | ⟨b, o, c, z, rfl, _⟩
 ·exact ⟨a, c, rfl⟩
 ·exact ⟨_, _, rfl⟩
theorem aV.cells {M : Nat → Prop} {es : List (List PV)} {u : Value} (r : aV M w (.lst es) u) {z : Nat} (hz : ∀ e ∈ es, e.length = z) (hne : es ≠ []) :
 ∃ b o c, u = .slice (some ⟨b, o, none⟩) es.length c ∧ ¬ M b ∧ b < w.heap.size ∧ ∀ (i : Nat) (e : List PV) (j : Nat) (p : PV), es[i]? = some e → e[j]? = some p → ∃ v, w.cell? ⟨b, o + i * z + j, none⟩ = some v ∧ aV M w p v := by
 simp only [aV] at r
 rcases r with ⟨rfl, _⟩ | ⟨b, o, c, z', rfl, hm, hlt, hr, _⟩
 ·exact absurd rfl hne
 ·obtain ⟨e0, es', rfl⟩ := List.exists_cons_of_ne_nil hne
  have h1 : z' = z := by
   have h1 := (ep.at hr (i := 0) (e := e0) rfl).1
   rw [← h1]; exact hz e0 (by simp)
  subst h1
  refine ⟨b, o, c, rfl, hm, hlt, fun i e j p he hp => (ep.at hr he).2.at hp⟩
theorem ww : ∀ {es : List (List PV)} {s : List UInt8}, oN es = some s → ∃ ns : List Int, es = ns.map (fun n => [PV.int .u8 n]) ∧ s = ns.map (fun n => UInt8.ofNat n.toNat)
 | [], s, h => by simp [oN] at h; subst h; exact ⟨[], rfl, rfl⟩
 | e :: es, s, h => by
  unfold oN at h
  split at h
  ·rename_i heq; cases heq
  ·rename_i n r heq
   cases heq
   split at h
   ·rename_i l hl
    cases h
    obtain ⟨ns, rfl, rfl⟩ := ww hl
    exact ⟨n :: ns, rfl, rfl⟩
   ·cases h
  ·cases h
theorem In (ns : List Int) (s : ByteArray) : ns.foldl (fun r n => r.push (UInt8.ofNat n.toNat)) s = ⟨(s.data.toList ++ ns.map (fun n => UInt8.ofNat n.toNat)).toArray⟩ := by
 induction ns generalizing s with
 | nil => simp
 | cons n ns ih =>
  rw [List.foldl_cons, ih]
  simp [ByteArray.push]
theorem JW {M : Nat → Prop} {es : List (List PV)} {u : Value} {s : List UInt8} (r : aV M w (.lst es) u) (h : oN es = some s) : (Conv.bytesToString u).run P w = .ok (.string ⟨s.toArray⟩) w := by
 obtain ⟨ns, rfl, rfl⟩ := ww h
 by_cases hne : ns = []
 ·subst hne
  obtain ⟨ad, c, rfl⟩ := r.slice
  cases ad with
  | none => simp [Conv.bytesToString]; rfl
  | some ad =>
   have := run_bytesToString (P := P) w ad 0 c [] (by simp [loadCells, loadCellsFrom])
   exact this
 ·obtain ⟨b, o, c, rfl, _, _, hc⟩ := r.cells (z := 1) (by simp) (by simpa using hne)
  have hl : (loadCells ⟨b, o, none⟩ ns.length).run P w = .ok (ns.map (Value.int .u8)).toArray w := by
   have := run_loadCells_list (P := P) w ⟨b, o, none⟩ (ns.map (Value.int .u8)) (fun j v hv => by
    simp only [List.getElem?_map, Option.map_eq_some_iff] at hv
    obtain ⟨n, hn, rfl⟩ := hv
    obtain ⟨v, hv, hr⟩ := hc j [.int .u8 n] 0 (.int .u8 n) (by simp [hn]) rfl
    simp only [aV] at hr; subst hr
    rw [Addr.add_mid]
    simpa using hv)
   simpa using this
  have := run_bytesToString (P := P) w ⟨b, o, none⟩ ns.length c ns hl
  rw [In] at this
  simpa using this
theorem nU (t : TypeId) {n : Nat} (h : t9 P t = some n) : (Go.sizeOf t).run P w = .ok n w := by
 unfold t9 at h
 cases hi : P.info? t with
 | none => simp [hi] at h
 | some i => simp [hi] at h; subst h; simp [Go.sizeOf, typeInfo, hi]
theorem Dd (s : SR Γ M0 base σ a w ρ) {z : Nat} {x v : V} {u : Value} {n : Nat} {t e : TypeId} {k : IntKind} (ht : m8 P t = some e) (hz : t9 P e = some z) (r : VR (Mu M0 ρ σ.h) w ρ σ.h x u) (hp : bm σ.h z x n = some v) :
 ∃ u', (Instr.indexAt t u (.int k (n : Int))).run P w = .ok u' w ∧ VR (Mu M0 ρ σ.h) w ρ σ.h v u' := by
 have hu : P.underlying t = some (.slice e) := by
  unfold m8 at ht
  split at ht <;> cases ht
  assumption
 have go : ∀ {b o len cap : Nat}, n < len → (Instr.indexAt t (.slice (some ⟨b, o, none⟩) len cap) (.int k (n : Int))).run P w = .ok (.pointer (some ⟨b, o + n * z, none⟩)) w := by
  intro b o len cap hlt
  have h1 : (0 : Int) ≤ (n : Int) ∧ (n : Int) < (len : Int) := ⟨by omega, by omega⟩
  simp [Instr.indexAt, asIntOf, run_underlying hu, nU e hz, hlt, Addr.add_mid]
 unfold bm at hp
 split at hp
 ·rename_i o
  obtain ⟨r0, ob, hr0, hob, hs⟩ := r
  simp only [hob] at hp
  cases ob with
  | arr z' es =>
   simp only at hp
   split at hp
   ·rename_i hlt
    obtain ⟨hlt, rfl⟩ := hlt
    cases hp
    cases r0 with
    | none =>
     obtain ⟨_, _, kx⟩ := s.hr.objs o _ _ hob hr0
     obtain rfl : es = [] := kx
     simp at hlt
    | some b =>
     obtain ⟨cur, cap, hrow, _, _, _, rfl⟩ := hs
     refine ⟨_, go hlt, some b, _, hr0, hob, b, rfl, ?_⟩
     simp [AObj.z]
   ·cases hp
  | froz z' es =>
   simp only at hp
   split at hp
   ·rename_i hlt
    obtain ⟨hlt, rfl⟩ := hlt
    cases hp
    cases r0 with
    | none =>
     obtain ⟨_, _, kx⟩ := s.hr.objs o _ _ hob hr0
     obtain rfl : es = [] := kx
     simp at hlt
    | some b =>
     obtain ⟨cur, cap, hrow, _, _, _, rfl⟩ := hs
     refine ⟨_, go hlt, some b, _, hr0, hob, b, rfl, ?_⟩
     simp [AObj.z]
   ·cases hp
  | box cs => cases hp
  | fbox ps => cases hp
  | imap kvs => cases hp
  | tbox n => cases hp
  | dead => cases hp
 ·rename_i es
  split at hp
  ·rename_i e0 he
   split at hp
   ·rename_i hez
    cases hp
    have hlt : n < es.length := (List.getElem?_eq_some_iff.1 he).1
    simp only [VR, LR, aV] at r
    rcases r with ⟨rfl, _⟩ | ⟨b, o, c, z', rfl, hm, hb, hr, _⟩
    ·simp at hlt
    ·obtain ⟨h1, h2⟩ := ep.at hr he
     rw [hez] at h1; subst h1
     exact ⟨_, go hlt, b, o + n * z, by simp, hm, hb, h2⟩
   ·cases hp
  ·cases hp
 ·cases hp
end
end Gi
namespace Gi
open Go
variable {KI : KF}
section
variable {Γ : Ctx} {P : Program} {M0 : Nat → Prop} {base : Nat} {σ : St} {a : Act} {w : World} {ρ : List (Option Nat)}
theorem ja {α β : Type} {f : α → Option β} : ∀ {xs : List α} {ys : List β}, iO f xs = some ys → ys.length = xs.length
 | [], ys, h => by simp [iO] at h; subst h; rfl
 | x :: xs, ys, h => by
  unfold iO at h
  split at h
  ·rename_i y ys' h1 h2
   cases h
   simp [ja h2]
  ·cases h
theorem lu {α β : Type} {f : α → Option β} : ∀ {xs : List α} {ys : List β}, iO f xs = some ys → ∀ (i : Nat) (x : α), xs[i]? = some x → ∃ y, ys[i]? = some y ∧ f x = some y
 | [], ys, h, i, x, hx => by simp at hx
 | x0 :: xs, ys, h, i, x, hx => by
  unfold iO at h
  split at h
  ·rename_i y ys' h1 h2
   cases h
   cases i with
   | zero => simp at hx; subst hx; exact ⟨y, rfl, h1⟩
   | succ i => simpa using lu h2 i x (by simpa using hx)
  ·cases h
theorem NH {α β : Type} {f : α → Option β} {xs : List α} {ys : List β} (h : iO f xs = some ys) (i : Nat) (y : β) (hy : ys[i]? = some y) : ∃ x, xs[i]? = some x ∧ f x = some y := by
 have hl := ja h
 have hi : i < xs.length := by rw [← hl]; exact (List.getElem?_eq_some_iff.1 hy).1
 obtain ⟨y', h1, h2⟩ := lu h i xs[i] (by simp [hi])
 rw [hy] at h1; cases h1
 exact ⟨_, by simp [hi], h2⟩
theorem Kb {M : Nat → Prop} {h : List AObj} {v : Value} {l : L} (e : O8 v = some l) : LR M w ρ h l v := by
 unfold O8 at e
 split at e <;> cases e
 ·simp [LR, aV]
 ·simp [LR, aV]
 ·simp [LR, aV]
 ·simp [LR]
theorem vq {M : Nat → Prop} {h : List AObj} {vs : List Value} {ls : List L} (e : iO O8 vs = some ls) : uW M w ρ h ls vs :=
 ⟨ja e, fun i l v hl hv => by
  obtain ⟨l', h1, h2⟩ := lu e i v hv
  rw [hl] at h1; cases h1
  exact Kb h2⟩
theorem zj {α : Type} (cs : List α) (j : Nat) (ls : List α) (h : j + ls.length ≤ cs.length) : (putAt cs j ls).length = cs.length := by
 simp [putAt]; omega
theorem zh {α : Type} (cs : List α) (j : Nat) (ls : List α) (h : j + ls.length ≤ cs.length) (i : Nat) : (putAt cs j ls)[i]? = if j ≤ i ∧ i < j + ls.length then ls[i - j]? else cs[i]? := by
 unfold putAt
 by_cases h1 : i < j
 ·rw [if_neg (by omega), List.append_assoc, List.getElem?_append_left (by simp; omega)]
  simp [h1]
 ·by_cases h2 : i < j + ls.length
  ·rw [if_pos ⟨by omega, h2⟩, List.append_assoc, List.getElem?_append_right (by simp; omega), List.getElem?_append_left (by simp; omega)]
   congr 1
   simp; omega
  ·rw [if_neg (by omega), List.getElem?_append_right (by simp; omega), List.getElem?_drop]
   congr 1
   simp; omega
theorem CH (vs : List Value) : ∀ (off k : Nat) (cs : Array Value), off + k + vs.length ≤ cs.size →
 ∀ i, ((vs.zipIdx k).foldl (fun cs (x : Value × Nat) => cs.setIfInBounds (off + x.2) x.1) cs)[i]? = if off + k ≤ i ∧ i < off + k + vs.length then vs[i - (off + k)]? else cs[i]? := by
 induction vs with
 | nil => intro off k cs _ i; simp; omega
 | cons v vs ih =>
  intro off k cs h i
  simp only [List.zipIdx_cons, List.foldl_cons]
  rw [ih off (k + 1) _ (by simp at h ⊢; omega)]
  simp only [List.length_cons] at h ⊢
  by_cases h1 : off + (k + 1) ≤ i ∧ i < off + (k + 1) + vs.length
  ·rw [if_pos h1, if_pos (by omega)]
   rw [show i - (off + k) = (i - (off + (k + 1))) + 1 by omega]
   simp
  ·rw [if_neg h1]
   by_cases h2 : i = off + k
   ·subst h2
    rw [if_pos (by omega)]
    simp [Array.getElem?_setIfInBounds_self_of_lt (show off + k < cs.size by omega)]
   ·rw [if_neg (by omega), Array.getElem?_setIfInBounds_ne (by omega)]
theorem zp (vs : List Value) : ∀ (off k : Nat) (cs : Array Value), ((vs.zipIdx k).foldl (fun cs (x : Value × Nat) => cs.setIfInBounds (off + x.2) x.1) cs).size = cs.size := by
 induction vs with
 | nil => intro off k cs; rfl
 | cons v vs ih => intro off k cs; simp only [List.zipIdx_cons, List.foldl_cons]; rw [ih]; simp
theorem Cf {M : Nat → Prop} {h : List AObj} {place : Nat → Option (Nat × Nat)} : ∀ {parts : List (Nat × Value)} {ps : List (Nat × Nat × V)} {cells : Array Value} {cs cs' : List L},
 parts.length = ps.length → (∀ (i : Nat) x p, parts[i]? = some x → ps[i]? = some p → place x.1 = some (p.1, p.2.1) ∧ VR M w ρ h p.2.2 x.2) → uW M w ρ h cs cells.toList → bB cs ps = some cs' →
 ∃ cells', Instr.fill place cells parts = some cells' ∧ uW M w ρ h cs' cells'.toList
 | [], [], cells, cs, cs', _, _, hl, hf => by simp [bB] at hf; subst hf; exact ⟨cells, rfl, hl⟩
 | [], p :: ps, _, _, _, e, _, _, _ => by simp at e
 | x :: parts, [], _, _, _, e, _, _, _ => by simp at e
 | x :: parts, p :: ps, cells, cs, cs', e, hp, hl, hf => by
  obtain ⟨off, n, v⟩ := p
  obtain ⟨i, u⟩ := x
  unfold bB at hf
  split at hf
  ·rename_i hc
   obtain ⟨hn, hle, hpl⟩ := hc
   obtain ⟨hpos, hv⟩ := hp 0 _ _ rfl rfl
   simp only at hpos hv
   have hcells := hv.cells (V.not_tup hpl)
   have hsz : u.cells.size = n := by rw [← hn, hcells.1]; simp
   have hlen : cs.length = cells.size := by rw [hl.1]; simp
   have hcond : ¬ (u.cells.size ≠ n || decide (off + u.cells.size > cells.size)) = true := by simp [hsz]; omega
   have hnew : uW M w ρ h (putAt cs off v.cells) (u.cells.zipIdx.foldl (fun cs (x : Value × Nat) => cs.setIfInBounds (off + x.2) x.1) cells).toList := by
    have hfold : u.cells.zipIdx.foldl (fun cs (x : Value × Nat) => cs.setIfInBounds (off + x.2) x.1) cells = (u.cells.toList.zipIdx 0).foldl (fun cs (x : Value × Nat) => cs.setIfInBounds (off + x.2) x.1) cells := by
     rw [← Array.foldl_toList]; simp
    rw [hfold]
    refine ⟨by rw [zj _ _ _ (by omega)]; simp only [Array.length_toList, zp]; exact hlen, fun i' l u' hl' hu' => ?_⟩
    rw [zh _ _ _ (by omega)] at hl'
    rw [Array.getElem?_toList, CH _ off 0 cells (by simp [hsz]; omega)] at hu'
    simp only [Array.length_toList, hsz, Nat.add_zero] at hu'
    rw [hn] at hl'
    split at hl'
    ·rename_i hin
     rw [if_pos hin] at hu'
     exact hcells.2 _ l u' hl' hu'
    ·rename_i hin
     rw [if_neg hin] at hu'
     exact hl.2 _ l u' hl' (by simpa using hu')
   obtain ⟨cells', hf', hl'⟩ := Cf (by simpa using e) (fun i' x' p' hx' hp' => hp (i' + 1) x' p' (by simpa using hx') (by simpa using hp')) hnew hf
   refine ⟨cells', ?_, hl'⟩
   simp only [Instr.fill, hpos]
   rw [if_neg hcond]
   exact hf'
  ·cases hf
theorem Gz (s : SR Γ M0 base σ a w ρ) {t : TypeId} {parts : Array (Nat × Operand)} {d : Md} {ao : AOp} {v : V} {call : Nat → List V → Option V}
 (hc : iS P kf d (.build t parts) = some ao) (hf : cF call σ ao = some v) :
 ∃ u, (Instr.build t (parts.map fun x => (x.1, a.eval x.2))).run P w = .ok u w ∧ VR (Mu M0 ρ σ.h) w ρ σ.h v u := by
 simp only [iS] at hc
 split at hc
 ·rename_i fs v0 ps hu hz hps
  split at hc
  ·rename_i cs hcs
   split at hc
   ·rename_i hall
    cases hc
    simp only [cF] at hf
    split at hf
    ·rename_i cs' hfill
     cases hf
     obtain ⟨i, hi, hz'⟩ : ∃ i, P.info? t = some i ∧ i.zero = some v0 := by
      unfold oM at hz
      cases hi : P.info? t with
      | none => simp [hi] at hz
      | some i => simp [hi] at hz; exact ⟨i, rfl, hz⟩
     have hplaces : ∃ places : List (Nat × Nat), fs.toList.mapM (fun f => (P.info? f.type).map fun i => (f.offset, i.size)) = some places ∧ ∀ (j : Nat) f, fs.toList[j]? = some f → ∃ n, t9 P f.type = some n ∧ places[j]? = some (f.offset, n) := by
      clear hps hfill hu
      revert hall
      generalize fs.toList = fl
      intro hall
      induction fl with
      | nil => exact ⟨[], rfl, fun j f hj => by simp at hj⟩
      | cons f fl ih =>
       simp only [List.all_cons, Bool.and_eq_true] at hall
       obtain ⟨pl, h1, h2⟩ := ih hall.2
       obtain ⟨n, hn⟩ := Option.isSome_iff_exists.1 hall.1
       obtain ⟨i', hi', hs'⟩ : ∃ i', P.info? f.type = some i' ∧ i'.size = n := by
        unfold t9 at hn
        cases hi' : P.info? f.type with
        | none => simp [hi'] at hn
        | some i' => simp [hi'] at hn; exact ⟨i', rfl, hn⟩
       refine ⟨(f.offset, n) :: pl, by simp [List.mapM_cons, hi', hs', h1], fun j f' hj => ?_⟩
       cases j with
       | zero => simp at hj; subst hj; exact ⟨n, hn, rfl⟩
       | succ j => simpa using h2 j f' (by simpa using hj)
     obtain ⟨places, hpl1, hpl2⟩ := hplaces
     obtain ⟨cells', hfl, hls⟩ := Cf (w := w) (ρ := ρ) (M := Mu M0 ρ σ.h) (h := σ.h) (place := (places.toArray[·]?)) (parts := parts.toList.map fun x => (x.1, a.eval x.2)) (cells := v0.cells) (cs := cs)
      (by simp [ja hps]) (fun i' x p hx hp => by
       simp only [List.getElem?_map, Option.map_eq_some_iff] at hx hp
       obtain ⟨x0, hx0, rfl⟩ := hx
       obtain ⟨p0, hp0, rfl⟩ := hp
       obtain ⟨p1, hp1, hp2⟩ := lu hps i' x0 hx0
       rw [hp0] at hp1; cases hp1
       split at hp2
       ·rename_i f y hfd hy
        simp only [Option.map_eq_some_iff] at hp2
        obtain ⟨n, hn, rfl⟩ := hp2
        simp only
        have hfs : fs.toList[x0.1]? = some f := by
         unfold yP at hfd
         rw [hu] at hfd
         simpa using hfd
        obtain ⟨n', hn', hp⟩ := hpl2 _ _ hfs
        rw [hn] at hn'; cases hn'
        exact ⟨by simpa using hp, bc s hy⟩
       ·cases hp2) (vq hcs) hfill
     refine ⟨.agg cells', run_build w t _ _ ?_, ⟨cells', rfl, hls⟩⟩
     unfold Program.built
     simp only [hi, hu, hz', hpl1]
     simpa using hfl
    ·cases hf
   ·cases hc
  ·cases hc
 ·cases hc
theorem OT (b : Bool) : isBool (aj b) = some b := rfl
theorem tW (k : IntKind) {i : Int} {y : Nat} (code : BoundsCode) (h0 : 0 ≤ i) (h1 : i ≤ y) : (Instr.sliceBound (.int k i) y code).run P w = .ok i.toNat w := by
 simp [Instr.sliceBound, asIntOf, h0, h1]
theorem IH (s : SR Γ M0 base σ a w ρ) {t : TypeId} {x : Operand} {lo hi mx : Option Operand} {d : Md} {ao : AOp} {v : V} {call : Nat → List V → Option V}
 (hc : iS P kf d (.slice t x lo hi mx) = some ao) (hn : ∀ z x lo hi, ao ≠ .slcF z x lo hi) (hf : cF call σ ao = some v) :
 ∃ u, (Instr.sliceAt t (a.eval x) (lo.map a.eval) (hi.map a.eval) (mx.map a.eval)).run P w = .ok u w ∧ VR (Mu M0 ρ σ.h) w ρ σ.h v u := by
 simp only [iS] at hc
 split at hc
 ·rename_i y lo' hi' hu hx hlo hhi
  cases hc
  simp only [cF] at hf
  split at hf
  ·rename_i st hst
   obtain hxu := (bc s hx).str hst
   have hsz : (⟨st.toArray⟩ : ByteArray).size = st.length := by simp [ByteArray.size]
   have bnd : ∀ {o : Option Operand} {os : List Opd} {n : Int} (def' : Int), iO iu o.toList = some os →
    bA σ def' os.head? = some n → (o = none ∧ n = def') ∨ ∃ oo k, o = some oo ∧ a.eval oo = .int k n := by
    intro o os n def' ho hn
    cases o with
    | none =>
     simp [iO] at ho; subst ho
     simp [bA] at hn
     exact .inl ⟨rfl, hn.symm⟩
    | some oo =>
     simp only [Option.toList, iO] at ho
     split at ho
     ·rename_i y' ys' h1 h2
      cases h2; cases ho
      simp only [List.head?_cons, bA] at hn
      split at hn
      ·rename_i k n' heq
       cases hn
       exact .inr ⟨oo, k, rfl, (bc s h1).int heq⟩
      ·cases hn
     ·cases ho
   split at hf
   ·rename_i l r hl hr
    split at hf
    ·rename_i hb
     obtain ⟨h0, h1, h2⟩ := hb
     cases hf
     have hL := bnd 0 hlo hl
     have hR := bnd (st.length : Int) hhi hr
     refine ⟨.string ⟨((st.drop l.toNat).take (r.toNat - l.toNat)).toArray⟩, ?_, VR.mkStr _⟩
     have hex : (⟨st.toArray⟩ : ByteArray).extract l.toNat r.toNat = ⟨((st.drop l.toNat).take (r.toNat - l.toNat)).toArray⟩ := by
      apply ByteArray.ext
      simp [ByteArray.data_extract, List.extract_eq_take_drop]
     have e1 : (Instr.sliceBounds false st.length st.length (lo.map a.eval) (hi.map a.eval) none).run P w = .ok (l.toNat, r.toNat, st.length) w := by
      simp only [Instr.sliceBounds, Sem.run_bind, Sem.run_pure, Result.andThen_ok, Bool.false_eq_true, if_false, Option.isSome_none]
      rcases hR with ⟨rfl, rfl⟩ | ⟨oo, k, rfl, ho⟩
      ·rcases hL with ⟨rfl, rfl⟩ | ⟨oo, k, rfl, ho⟩
       ·simp
       ·simp [ho, tW k _ h0 (show l ≤ (st.length : Int) by omega)]
      ·rcases hL with ⟨rfl, rfl⟩ | ⟨oo', k', rfl, ho'⟩
       ·simp [ho, tW k _ (show (0 : Int) ≤ r by omega) h2]
       ·simp [ho, ho', tW k _ (show (0 : Int) ≤ r by omega) h2, tW k' _ h0 (show l ≤ (r.toNat : Int) by omega)]
     rw [hxu]
     simp only [Instr.sliceAt, Sem.run_bind, run_underlying hu, Result.andThen_ok, Instr.slice, Option.map_none, Option.isSome_none, Bool.false_eq_true, if_false, hsz, e1, Sem.run_pure, hex]
    ·cases hf
   ·cases hf
  ·cases hf
 ·split at hc
  ·split at hc
   ·cases hc
   ·cases hc
    by_cases q : d.st = true
    ·exact absurd (by rw [if_pos q]) (hn _ _ _ _)
    ·rw [if_neg q] at hf; cases hf
  ·cases hc
 ·cases hc
end
end Gi
namespace Gi
open Go
variable {KI : KF}
section
variable {Γ : Ctx} {P : Program} {M0 : Nat → Prop} {base : Nat} {σ : St} {a : Act} {w : World} {ρ : List (Option Nat)}
def AOp.isCall : AOp → Bool
 | .call _ _ _ _ => true
 | .callV _ _ => true
 | .callD _ _ => true
 | .s2b _ => true
 | .insert _ _ _ _ _ _ => true
 | .slcF _ _ _ _ => true
 | .buildF _ _ => true
 | _ => false
theorem ur {t : TypeId} {g : Bool} (h : jZ P t = some g) : (isAgg t).run P w = .ok g w := by
 unfold jZ at h
 split at h
 ·rename_i fs hu; cases h; simp [isAgg, run_underlying hu]
 ·rename_i n e hu; cases h; simp [isAgg, run_underlying hu]
 ·rename_i d h1 h2 hu
  cases h
  simp only [isAgg, Sem.run_bind, run_underlying hu, Result.andThen_ok]
  cases d <;> first | rfl | exact absurd hu (h1 _) | exact absurd hu (h2 _ _)
 ·cases h
theorem xl (s : SR Γ M0 base σ a w ρ) {t : TypeId} {x v : V} {u : Value} {g : Bool} {n : Nat} (hg : jZ P t = some g) (hn : t9 P t = some n) (r : VR (Mu M0 ρ σ.h) w ρ σ.h x u) (hl : bz σ.h g n x = some v) :
 ∃ u', (loadVar t (match u with | .pointer (some a) => a | _ => ⟨0, 0, none⟩)).run P w = .ok u' w ∧ (∃ b o, u = .pointer (some ⟨b, o, none⟩)) ∧ VR (Mu M0 ρ σ.h) w ρ σ.h v u' := by
 obtain ⟨b, o, rfl, h⟩ := Iu s.hr hl r
 rcases h with ⟨rfl, us, hlen, hr, hv⟩ | ⟨rfl, hn1, u', hc, hv⟩
 ·refine ⟨.agg us.toArray, ?_, ⟨b, o, rfl⟩, hv⟩
  have hcl : (loadCells ⟨b, o, none⟩ n).run P w = .ok us.toArray w := by
   have := run_loadCells_list (P := P) w ⟨b, o, none⟩ us (fun j v hv => by rw [Addr.add_mid]; exact hr j v hv)
   rwa [hlen] at this
  simp [loadVar, Sem.run_bind, ur hg, nU t hn, hcl]
 ·refine ⟨u', ?_, ⟨b, o, rfl⟩, hv⟩
  have : (load ⟨b, o, none⟩).run P w = .ok u' w := by simp [load, Sem.run, hc]
  simp only [loadVar, Sem.run_bind, ur hg, Result.andThen_ok, Bool.false_eq_true, if_false, this]
theorem vY {M : Nat → Prop} {h : List AObj} {t : TypeId} {g : Bool} {n off : Nat} {ls : List L} {v : V} {cs : Array Value} (hg : jZ P t = some g) (hn : t9 P t = some n) (r : uW M w ρ h ls cs.toList) (hc : hJ g n off ls = some v) :
 ∃ u, (part t cs off).run P w = .ok u w ∧ VR M w ρ h v u := by
 rcases D6 hc r with ⟨rfl, hle, hv⟩ | ⟨rfl, hn1, u, hu, hv⟩
 ·refine ⟨_, ?_, hv⟩
  have e : cs.extract off (off + n) = ((cs.toList.drop off).take n).toArray := by
   apply Array.ext'
   simp [List.extract_eq_take_drop]
  simp only [part, Sem.run_bind, ur hg, Result.andThen_ok, if_true, nU t hn, Sem.run_pure, e]
 ·refine ⟨u, ?_, hv⟩
  have : cs[off]? = some u := by simpa using hu
  simp [part, Sem.run_bind, ur hg, this]
theorem GR : ∀ (ks ks' : List EK) (ls ls' : List L) (b : Bool), kF (ks ++ ks') ls ls' = some b → ks.length ≤ ls.length ∧ ks.length ≤ ls'.length ∧ ∃ b1 b2, kF ks (ls.take ks.length) (ls'.take ks.length) = some b1 ∧ kF ks' (ls.drop ks.length) (ls'.drop ks.length) = some b2 ∧ b = (b1 && b2)
 | [], ks', ls, ls', b, h => ⟨by simp, by simp, true, b, rfl, by simpa using h, by simp⟩
 | k :: ks, ks', [], _, b, h => by simp [kF] at h
 | k :: ks, ks', _ :: _, [], b, h => by simp [kF] at h
 | k :: ks, ks', l :: ls, l' :: ls', b, h => by
  simp only [List.cons_append, kF] at h
  split at h
  ·rename_i x y hx hy
   cases h
   obtain ⟨h1, h2, b1, b2, h3, h4, rfl⟩ := GR ks ks' ls ls' y hy
   refine ⟨by simpa using h1, by simpa using h2, x && b1, b2, ?_, by simpa using h4, by rw [Bool.and_assoc]⟩
   simp [kF, hx, h3]
  ·cases h
theorem O9 {l l' : L} {y : Bool} (h : GP .b l l' = some y) : ∃ a b, l = .pv (.bool a) ∧ l' = .pv (.bool b) ∧ y = (a == b) := by
 unfold GP at h
 split at h <;> simp_all
theorem Pb {l l' : L} {y : Bool} (h : GP .s l l' = some y) : ∃ a b, l = .pv (.str a) ∧ l' = .pv (.str b) ∧ y = (a == b) := by
 unfold GP at h
 split at h <;> simp_all
theorem Pa {l l' : L} {y : Bool} (h : GP .i l l' = some y) : ∃ k a b, l = .pv (.int k a) ∧ l' = .pv (.int k b) ∧ y = (a == b) := by
 unfold GP at h
 split at h <;> simp_all
 exact ⟨_, _, ⟨rfl, rfl⟩, _, ⟨rfl, rfl⟩, h.2.symm⟩
theorem Jl {n : Nat} {t : TypeId} {ks : List EK} (h : No P n t = some ks) : (jZ P t = some true ∧ ∃ m fs, n = m + 1 ∧ P.underlying t = some (.struct fs) ∧ P.stoodInHeld t = false ∧ Kl P (No P m) fs.toList 0 = some ks) ∨ (jZ P t = some false ∧ ((P.underlying t = some .bool ∧ ks = [.b]) ∨ (∃ k, P.underlying t = some (.int k) ∧ ks = [.i]) ∨ (P.underlying t = some .string ∧ ks = [.s]))) := by
 cases n with
 | zero => simp [No] at h
 | succ n =>
  unfold No at h
  split at h
  ·rename_i hu; cases h; exact .inr ⟨by simp [jZ, hu], .inl ⟨hu, rfl⟩⟩
  ·rename_i k hu; cases h; exact .inr ⟨by simp [jZ, hu], .inr (.inl ⟨k, hu, rfl⟩)⟩
  ·rename_i hu; cases h; exact .inr ⟨by simp [jZ, hu], .inr (.inr ⟨hu, rfl⟩)⟩
  ·rename_i fs hu
   split at h
   ·cases h
   ·rename_i hs
    exact .inl ⟨by simp [jZ, hu], n, fs, rfl, hu, by simpa using hs, h⟩
  ·cases h
theorem Ku {M : Nat → Prop} {h : List AObj} : ∀ (n d : Nat) (t : TypeId) (ks : List EK) (x x' : V) (u u' : Value) (b : Bool), n ≤ d → No P n t = some ks → kF ks x.cells x'.cells = some b → VR M w ρ h x u → VR M w ρ h x' u' →
 (jZ P t = some true → ∃ ls ls', x = .agg ls ∧ x' = .agg ls') → (jZ P t = some false → ∃ l l', x = .one l ∧ x' = .one l') → (Op.equalIn d t u u').run P w = .ok b w := by
 intro n
 induction n with
 | zero => intro d t ks x x' u u' b _ h; simp [No] at h
 | succ n ih =>
  intro d t ks x x' u u' b hd ht he r r' ha ho
  obtain ⟨d, rfl⟩ : ∃ d', d = d' + 1 := ⟨d - 1, by omega⟩
  rcases Jl ht with ⟨hag, m, fs, hm, hu, hst, hfs⟩ | ⟨hag, hk⟩
  ·obtain rfl : m = n := by omega
   obtain ⟨ls, ls', rfl, rfl⟩ := ha hag
   obtain ⟨cs, rfl, hl⟩ := r
   obtain ⟨cs', rfl, hl'⟩ := r'
   have hfo : P.fieldsOf t = fs := by simp [Program.fieldsOf, hu]
   rw [run_equalIn_struct w d t cs cs' (by rw [hfo]; exact hu) hst, hfo]
   simp only [V.cells] at he
   have key : ∀ (fl : List Field) (off : Nat) (ks : List EK) (b : Bool), Kl P (No P m) fl off = some ks → kF ks (ls.drop off) (ls'.drop off) = some b → (Op.eqFields d cs cs' fl).run P w = .ok b w := by
    intro fl
    induction fl with
    | nil =>
     intro off ks b h1 h2
     simp [Kl] at h1; subst h1
     simp [kF] at h2; subst h2
     simp [Op.eqFields]
    | cons f fl ihf =>
     intro off ks b h1 h2
     unfold Kl at h1
     split at h1
     ·rename_i hname
      obtain ⟨hname, rfl⟩ := hname
      split at h1
      ·rename_i k1 hk1
       split at h1
       ·rename_i hsz
        split at h1
        ·rename_i k2 hk2
         cases h1
         obtain ⟨g1, g2, b1, b2, g3, g4, rfl⟩ := GR _ _ _ _ _ h2
         rw [List.drop_drop, List.drop_drop] at g4
         simp only [List.length_drop] at g1 g2
         have i2 := ihf (f.offset + k1.length) k2 b2 hk2 g4
         have hag1 : ∃ g, jZ P f.type = some g ∧ (g = false → k1.length = 1) := by
          rcases Jl hk1 with ⟨h0, _⟩ | ⟨h0, ⟨_, rfl⟩ | ⟨_, _, rfl⟩ | ⟨_, rfl⟩⟩
          ·exact ⟨true, h0, by simp⟩
          all_goals exact ⟨false, h0, by simp⟩
         obtain ⟨g, hg, hg1⟩ := hag1
         have cutx : ∀ (ls0 : List L), k1.length ≤ ls0.length - f.offset → ∃ v, hJ g k1.length f.offset ls0 = some v ∧ v.cells = (ls0.drop f.offset).take k1.length ∧ (g = true → ∃ l, v = .agg l) ∧ (g = false → ∃ l, v = .one l) := by
          intro ls0 hle
          have hx : f.offset + k1.length ≤ ls0.length := by omega
          cases g with
          | true => exact ⟨.agg ((ls0.drop f.offset).take k1.length), by simp [hJ, hx], rfl, fun _ => ⟨_, rfl⟩, by simp⟩
          | false =>
           have h1 := hg1 rfl
           have hx' : f.offset < ls0.length := by omega
           refine ⟨.one ls0[f.offset], ?_, ?_, by simp, fun _ => ⟨_, rfl⟩⟩
           ·have hx1 : f.offset + 1 ≤ ls0.length := by omega
            simp only [hJ, h1, hx1, if_true, Bool.false_eq_true, if_false, List.getElem?_eq_getElem hx']
           ·rw [h1]
            simp only [V.cells]
            rw [List.drop_eq_getElem_cons hx']
            rfl
         obtain ⟨v, c1, c2, c3, c4⟩ := cutx ls g1
         obtain ⟨v', c1', c2', c3', c4'⟩ := cutx ls' g2
         obtain ⟨pu, p1, p2⟩ := vY (P := P) hg hsz.1 hl c1
         obtain ⟨pu', p1', p2'⟩ := vY (P := P) hg hsz.1 hl' c1'
         have i1 := ih d f.type k1 v v' pu pu' b1 (by omega) hk1 (by rw [c2, c2']; exact g3) p2 p2'
          (fun e => by rw [hg] at e; cases e; obtain ⟨l, rfl⟩ := c3 rfl; obtain ⟨l', rfl⟩ := c3' rfl; exact ⟨l, l', rfl, rfl⟩)
          (fun e => by rw [hg] at e; cases e; obtain ⟨l, rfl⟩ := c4 rfl; obtain ⟨l', rfl⟩ := c4' rfl; exact ⟨l, l', rfl, rfl⟩)
         simp only [Op.eqFields, if_pos hname, Sem.run_bind, p1, p1', Result.andThen_ok, i1]
         cases b1
         ·simp
         ·simpa using i2
        ·cases h1
       ·cases h1
      ·cases h1
     ·cases h1
   exact key fs.toList 0 ks b hfs (by simpa using he)
  ·obtain ⟨l, l', rfl, rfl⟩ := ho hag
   simp only [V.cells] at he
   rcases hk with ⟨hu, rfl⟩ | ⟨k, hu, rfl⟩ | ⟨hu, rfl⟩
   all_goals
    simp only [kF] at he
    split at he
    ·rename_i y z hy hz
     cases hz
     cases he
     simp only [Bool.and_true]
     first
      | (obtain ⟨a, b', rfl, rfl, rfl⟩ := O9 hy
         obtain rfl : u = .bool a := by simpa [VR, LR, aV] using r
         obtain rfl : u' = .bool b' := by simpa [VR, LR, aV] using r'
         exact run_equalIn_bool' w d t a b' hu)
      | (obtain ⟨kk, a, b', rfl, rfl, rfl⟩ := Pa hy
         obtain rfl : u = .int kk a := by simpa [VR, LR, aV] using r
         obtain rfl : u' = .int kk b' := by simpa [VR, LR, aV] using r'
         exact run_equalIn_int w d t kk _ a b' hu)
      | (obtain ⟨a, b', rfl, rfl, rfl⟩ := Pb hy
         obtain rfl : u = .string ⟨a.toArray⟩ := by simpa [VR, LR, aV] using r
         obtain rfl : u' = .string ⟨b'.toArray⟩ := by simpa [VR, LR, aV] using r'
         rw [run_equalIn_string w d t _ _ hu, uC, uC])
    ·cases he
theorem Kz (hP : KI.pr = P) (s : SR Γ M0 base σ a w ρ) {o : Oper} {d : Md} {ao : AOp} {v : V} {call : Nat → List V → Option V}
 (hc : iS P kf d o.op = some ao) (hn : ao.isCall = false) (hf : cF call σ ao = some v) :
 ∃ u, (execOp a.eval o).run P w = .ok (.value u) w ∧ VR (Mu M0 ρ σ.h) w ρ σ.h v u := by
 have val : ∀ {x : Sem Value} {u : Value}, x.run P w = .ok u w → (do pure (Next.value (← x)) : Sem Next).run P w = .ok (.value u) w := fun {x u} h => by simp [Sem.run_bind, h]
 cases hop : o.op with
 | move x =>
  simp only [execOp, hop]
  rw [hop] at hc; simp only [iS, Option.map_eq_some_iff] at hc
  obtain ⟨y, hy, rfl⟩ := hc
  cases hf
  exact ⟨_, by simp, bc s hy⟩
 | assign x =>
  simp only [execOp, hop]
  rw [hop] at hc; simp only [iS, Option.map_eq_some_iff] at hc
  obtain ⟨y, hy, rfl⟩ := hc
  cases hf
  exact ⟨_, by simp, bc s hy⟩
 | lookup t x i c =>
  simp only [execOp, hop]
  rw [hop] at hc; simp only [iS] at hc
  split at hc
  ·cases hc
  ·rename_i hcf
   split at hc
   ·rename_i x' i' k e h1 h2 h3
    split at hc
    ·rename_i hz
     split at hc
     ·rename_i ht
      cases hc
      simp only [cF] at hf
      split at hf
      ·rename_i o' n hx hk
       split at hf
       ·rename_i kvs hob
        split at hf
        ·rename_i hin
         cases hf
         subst hP
         have rx := bc s h1
         rw [hx] at rx
         obtain ⟨b, kvs', hr, ho, ev⟩ := rx
         rw [hob] at ho; cases ho
         have rk := bc s h2
         rw [hk] at rk
         have ek : a.eval i = .int .i64 n := by simpa [VR, LR, aV] using rk
         obtain ⟨b', e1, hbase, hM⟩ := s.hr.objs o' _ _ hob hr
         cases e1
         obtain ⟨t', k', e', D, q1, q2, q3, q4⟩ := hM
         rw [ht] at q1; cases q1
         rw [h3] at q2; cases q2
         obtain ⟨u1, u2, u3⟩ := ve h3
         obtain ⟨inf, hi, hz'⟩ : ∃ inf, KI.pr.info? e = some inf ∧ inf.zero = some (.int .i64 0) := by
          unfold oM at hz
          cases hi : KI.pr.info? e with
          | none => simp [hi] at hz
          | some inf => simp [hi] at hz; exact ⟨inf, rfl, hz⟩
         obtain ⟨c', hrun, hat, _⟩ := q3.lookup_int (Maps.int_keyed u2) u1 u3 (by simp [zeroValue, typeInfo, hi, hz']) (Maps.keyOf_int_mk u2 (Fy hin))
         rw [q4 n (Fy hin)] at hat
         have hcv : vV kvs n = c' := by simpa using hat
         have hcf' : c = false := by simpa using hcf
         refine ⟨.int .i64 (vV kvs n), ?_, by simp [VR, LR, aV]⟩
         rw [hcv]
         exact val (by rw [ev, ek, hcf']; exact hrun)
        ·cases hf
       ·cases hf
      ·cases hf
     ·cases hc
    ·cases hc
   ·cases hc
 | pick c x y =>
  simp only [execOp, hop]
  rw [hop] at hc; simp only [iS] at hc
  split at hc
  ·rename_i c' x' y' h1 h2 h3
   cases hc
   simp only [cF] at hf
   split at hf
   ·rename_i t ht
    cases hf
    have := (bc s h1).bool ht
    refine ⟨if t then a.eval x else a.eval y, by simp [asBool, this], ?_⟩
    split
    ·exact bc s h2
    ·exact bc s h3
   ·cases hf
  ·cases hc
 | load t x =>
  simp only [execOp, hop]
  rw [hop] at hc; simp only [iS] at hc
  split at hc
  ·rename_i g n y h1 h2 h3
   cases hc
   have hf' : bz σ.h g n (y.ev σ) = some v := by
    by_cases q : d.st = true
    ·rw [if_pos q] at hf
     simp only [cF] at hf
     split at hf
     ·exact hf
     ·cases hf
    ·rw [if_neg q] at hf
     exact hf
   obtain ⟨u', hu', ⟨b, off, e⟩, hv⟩ := xl s h1 h2 (bc s h3) hf'
   refine ⟨u', ?_, hv⟩
   rw [e] at hu' ⊢
   exact val (by simpa [Instr.loadAt, Instr.sureAddr] using hu')
  ·cases hc
 | build t parts =>
  simp only [execOp, hop]
  obtain ⟨u, hu, hv⟩ := Gz s (hop ▸ hc) hf
  exact ⟨u, val hu, hv⟩
 | binOp op t x y ty =>
  simp only [execOp, hop]
  rw [hop] at hc; simp only [iS] at hc
  split at hc
  ·rename_i x' y' hu hx hy
   split at hc
   ·cases hc
    simp only [cF] at hf
    split at hf
    ·rename_i p q hp hq
     cases hf
     have e1 := (bc s hx).bool hp
     have e2 := (bc s hy).bool hq
     refine ⟨.bool (p == q), val ?_, VR.mkBool _⟩
     rw [e1, e2, Sem.run_bind, wz, Result.andThen_ok]
     simp [binOp, run_equal_bool w t p q hu]
    ·cases hf
   ·cases hc
    simp only [cF] at hf
    split at hf
    ·rename_i p q hp hq
     cases hf
     have e1 := (bc s hx).bool hp
     have e2 := (bc s hy).bool hq
     refine ⟨.bool (!(p == q)), val ?_, VR.mkBool _⟩
     rw [e1, e2, Sem.run_bind, wz, Result.andThen_ok]
     simp [binOp, run_equal_bool w t p q hu]
    ·cases hf
   ·cases hc
  ·rename_i x' y' hu hx hy
   cases hc
   obtain ⟨u, hu', hv⟩ := D1 (P := P) (t := t) (ox := x) (oy := y) hf (bc s hx) (bc s hy)
   exact ⟨u, val hu', hv⟩
  ·rename_i x' y' hu hx hy
   cases hc
   obtain ⟨u, hu', hv⟩ := D1 (P := P) (t := t) (ox := x) (oy := y) hf (bc s hx) (bc s hy)
   exact ⟨u, val hu', hv⟩
  ·rename_i fs x' y' hu hx hy
   split at hc
   ·rename_i ks hks hgt
    have fin : ∀ (neg : Bool), ao = .eqS neg ks x' y' → op = (if neg then .neq else .eql) → ∃ u, (do pure (Next.value (← (do eqGuard op t x y (a.eval x) (a.eval y); binOp op t (a.eval x) (a.eval y)))) : Sem Next).run P w = .ok (.value u) w ∧ VR (Mu M0 ρ σ.h) w ρ σ.h v u := by
     rintro neg rfl hopn
     simp only [cF] at hf
     split at hf
     ·rename_i ls ls' hl hl'
      split at hf
      ·rename_i b hb
       cases hf
       have r1 := bc s hx
       have r2 := bc s hy
       rw [hl] at r1; rw [hl'] at r2
       have hag : jZ P t = some true := by simp [jZ, hu]
       have he := Ku (P := P) (w := w) (ρ := ρ) (M := Mu M0 ρ σ.h) (h := σ.h) 6 10000 t ks (.agg ls) (.agg ls') _ _ b (by omega) hks (by simpa [V.cells] using hb) r1 r2 (fun _ => ⟨ls, ls', rfl, rfl⟩) (fun e => by rw [hag] at e; cases e)
       obtain ⟨c1, e1, _⟩ := r1
       obtain ⟨c2, e2, _⟩ := r2
       rw [e1, e2] at he ⊢
       refine ⟨.bool (if neg then !b else b), val ?_, VR.mkBool _⟩
       rw [Sem.run_bind, run_eqGuard_agg w op t x y c1 c2 hgt, Result.andThen_ok, hopn]
       cases neg
       ·simp only [Bool.false_eq_true, if_false]
        rw [run_eql_struct w t c1 c2, he]; rfl
       ·simp only [if_true]
        rw [run_neq_struct w t c1 c2, he]; rfl
      ·cases hf
     ·cases hf
    split at hc
    ·cases hc; exact fin false rfl rfl
    ·cases hc; exact fin true rfl rfl
    ·cases hc
   ·cases hc
  ·cases hc
 | unOp op t x =>
  simp only [execOp, hop]
  rw [hop] at hc; simp only [iS, Option.map_eq_some_iff] at hc
  obtain ⟨y, hy, rfl⟩ := hc
  obtain ⟨u, hu', hv⟩ := M4 (P := P) hf (bc s hy)
  exact ⟨u, val hu', hv⟩
 | convert src dst x =>
  simp only [execOp, hop]
  rw [hop] at hc; simp only [iS] at hc
  split at hc
  ·rename_i k' k y h1 h2 h3
   cases hc
   simp only [cF] at hf
   split at hf
   ·rename_i k0 n hn
    cases hf
    have e1 := (bc s h3).int hn
    refine ⟨.int k (k.wrap n), val ?_, VR.mkInt _ _⟩
    rw [e1]
    simp [convert, run_underlying h1, run_underlying h2, Conv.intToInt]
   ·cases hf
  ·rename_i e y h1 h2 h3
   split at hc
   ·rename_i h4
    cases hc
    simp only [cF] at hf
    split at hf
    ·rename_i es hes
     split at hf
     ·rename_i st hst
      cases hf
      have rd := rJ s (bc s h3) hes
      have := JW (P := P) rd hst
      obtain ⟨ad, c, e⟩ := rd.slice
      refine ⟨.string ⟨st.toArray⟩, val ?_, VR.mkStr _⟩
      rw [e] at this ⊢
      simp [convert, run_underlying h1, run_underlying h2, run_underlying h4, this]
     ·cases hf
    ·cases hf
   ·cases hc
  ·split at hc
   ·cases hc; cases hn
   ·cases hc
  ·cases hc
 | slice t x lo hi mx =>
  simp only [execOp, hop]
  obtain ⟨u, hu, hv⟩ := IH s (hop ▸ hc) (fun z x lo hi e => by rw [e] at hn; cases hn) hf
  exact ⟨u, val hu, hv⟩
 | fieldAddr t x f =>
  simp only [execOp, hop]
  rw [hop] at hc; simp only [iS] at hc
  split at hc
  ·rename_i fd y h1 h2
   split at hc
   ·rename_i n h3
    split at hc
    ·cases hc
    ·rename_i hn0
     cases hc
     obtain ⟨fs, hu, hfd⟩ : ∃ fs, P.underlying t = some (.struct fs) ∧ fs[f]? = some fd := by
      unfold yP at h1
      split at h1
      ·rename_i fs hu; exact ⟨fs, hu, h1⟩
      ·cases h1
     have fin : ∀ {b off : Nat}, (Instr.fieldAt t (.pointer (some ⟨b, off, none⟩)) f).run P w = .ok (.pointer (some ⟨b, off + fd.offset, none⟩)) w := by
      intro b off
      simp [Instr.fieldAt, run_underlying hu, hfd, Instr.sureAddr, fieldPlace, nU _ h3, hn0, Addr.add_mid]
     have r := bc s h2
     simp only [cF] at hf
     split at hf
     ·rename_i o' i j hev
      cases hf
      rw [hev] at r
      obtain ⟨r0, ob, hr0, hob, hpt⟩ := r
      have hd0 : ob = .dead → ∃ u, (do pure (Next.value (← Instr.fieldAt t (a.eval x) f)) : Sem Next).run P w = .ok (.value u) w ∧ VR (Mu M0 ρ σ.h) w ρ σ.h (.one (.ptr o' i (j + fd.offset))) u := by
       rintro rfl
       obtain ⟨b, off, e⟩ := hpt
       exact ⟨_, val (by rw [e]; exact fin), r0, _, hr0, hob, b, _, rfl⟩
      have hnd : ob ≠ .dead → ∃ u, (do pure (Next.value (← Instr.fieldAt t (a.eval x) f)) : Sem Next).run P w = .ok (.value u) w ∧ VR (Mu M0 ρ σ.h) w ρ σ.h (.one (.ptr o' i (j + fd.offset))) u := by
       intro hd
       obtain ⟨b, rfl, e⟩ : ∃ b, r0 = some b ∧ a.eval x = .pointer (some ⟨b, i * ob.z + j, none⟩) := by
        unfold zC at hpt
        split at hpt
        ·exact absurd rfl hd
        ·exact hpt
       refine ⟨_, val (by rw [e]; exact fin), some b, ob, hr0, hob, ?_⟩
       unfold zC
       split
       ·exact absurd rfl hd
       ·exact ⟨b, rfl, by rw [Nat.add_assoc]⟩
      cases ob with
      | dead => exact hd0 rfl
      | box cs => exact hnd (by simp)
      | fbox ps => exact hnd (by simp)
      | imap kvs => exact hnd (by simp)
      | tbox n => exact hnd (by simp)
      | arr z es => exact hnd (by simp)
      | froz z es => exact hnd (by simp)
     ·rename_i e j hev
      cases hf
      rw [hev] at r
      obtain ⟨b, off, e', hm, hlt, hr⟩ := r
      exact ⟨_, val (by rw [e']; exact fin), b, off, by rw [Nat.add_assoc], hm, hlt, hr⟩
     ·cases hf
   ·cases hc
  ·cases hc
 | field t x f =>
  simp only [execOp, hop]
  rw [hop] at hc; simp only [iS] at hc
  split at hc
  ·rename_i fd y h1 h2
   split at hc
   ·rename_i g n h3 h4
    cases hc
    obtain ⟨fs, hu, hfd⟩ : ∃ fs, P.underlying t = some (.struct fs) ∧ fs[f]? = some fd := by
     unfold yP at h1
     split at h1
     ·rename_i fs hu; exact ⟨fs, hu, h1⟩
     ·cases h1
    have r := bc s h2
    simp only [cF] at hf
    split at hf
    ·rename_i ls hev
     rw [hev] at r
     obtain ⟨cs, e, hl⟩ := r
     obtain ⟨u, hu', hv⟩ := vY (P := P) h3 h4 hl hf
     exact ⟨u, val (by rw [e]; simp [Instr.field, run_underlying hu, hfd, asAgg, hu']), hv⟩
    ·cases hf
   ·cases hc
  ·cases hc
 | indexAddr t x i =>
  simp only [execOp, hop]
  rw [hop] at hc; simp only [iS] at hc
  split at hc
  ·rename_i e y j h1 h2 h3
   split at hc
   ·rename_i z h4
    cases hc
    simp only [cF] at hf
    split at hf
    ·rename_i k n hn
     split at hf
     ·rename_i h0
      have ei := (bc s h3).int hn
      obtain ⟨m, rfl⟩ := Int.eq_ofNat_of_zero_le h0
      obtain ⟨u, hu, hv⟩ := Dd (k := k) s h1 h4 (bc s h2) hf
      exact ⟨u, val (by rw [ei]; exact hu), hv⟩
     ·cases hf
    ·cases hf
   ·cases hc
  ·cases hc
 | index t x i =>
  simp only [execOp, hop]
  rw [hop] at hc; simp only [iS] at hc
  split at hc
  ·rename_i y j h1 h2 h3
   cases hc
   simp only [cF] at hf
   split at hf
   ·rename_i st k n hst hn
    split at hf
    ·rename_i h0
     split at hf
     ·rename_i b hb
      cases hf
      have e1 := (bc s h2).str hst
      have e2 := (bc s h3).int hn
      refine ⟨.int .u8 b.toNat, val ?_, VR.mkInt _ _⟩
      have hb' : (⟨st.toArray⟩ : ByteArray)[n.toNat]? = some b := by
       obtain ⟨hlt, hb'⟩ := List.getElem?_eq_some_iff.1 hb
       rw [getElem?_pos (⟨st.toArray⟩ : ByteArray) n.toNat (by simpa [ByteArray.size] using hlt)]
       simp [ByteArray.getElem_eq_getElem_data, hb']
      rw [e1, e2]
      simp [Instr.index, asIntOf, run_underlying h1, h0, hb']
     ·cases hf
    ·cases hf
   ·cases hf
  ·cases hc
 | extract x i =>
  simp only [execOp, hop]
  rw [hop] at hc; simp only [iS, Option.map_eq_some_iff] at hc
  obtain ⟨y, hy, rfl⟩ := hc
  have r := bc s hy
  simp only [cF] at hf
  split at hf
  ·rename_i xs hev
   rw [hev] at r
   obtain ⟨vs, e, hl, hr⟩ := r
   have hex : ∀ {u : Value}, vs[i]? = some u → (Instr.extract (.tuple vs) i).run P w = .ok u w := fun {u} hu => by simp [Instr.extract, hu]
   split at hf
   ·rename_i ls hx
    cases hf
    have hi : i < vs.size := by rw [← hl]; exact (List.getElem?_eq_some_iff.1 hx).1
    have hu : vs[i]? = some vs[i] := by simp [hi]
    exact ⟨vs[i], val (by rw [e]; exact hex hu), hr i _ _ hx hu⟩
   ·rename_i l hx
    cases hf
    have hi : i < vs.size := by rw [← hl]; exact (List.getElem?_eq_some_iff.1 hx).1
    have hu : vs[i]? = some vs[i] := by simp [hi]
    exact ⟨vs[i], val (by rw [e]; exact hex hu), hr i _ _ hx hu⟩
   ·cases hf
  ·cases hf
 | call c =>
  rw [hop] at hc; simp only [iS] at hc
  simp only [execOp, hop]
  have bl : ∀ (b : Builtin) (args : List Operand) (tys : List TypeId), c.callee = .builtin b → c.args.toList = args → c.argTypes.toList = tys →
   ∃ cst, (do let d ← resolve a.eval c o.type; invoke d.target d.args : Sem Next).run P w = (builtin b tys.toArray o.type cst (args.map a.eval).toArray).run P w := by
   intro b args tys h1 h2 h3
   have e2 : c.args.map a.eval = (args.map a.eval).toArray := Array.ext' (by rw [Array.toList_map, h2])
   have e3 : c.argTypes = tys.toArray := by rw [← h3]
   refine ⟨c.args.map fun | .const _ => true | _ => false, ?_⟩
   simp only [resolve, h1, Sem.run_bind, Sem.run_pure, Result.andThen_ok, invoke, e3, e2]
   rfl
  split at hc
  ·split at hc
   ·repeat' (split at hc)
    all_goals first | (cases hc; done) | (cases hc; cases hn; done)
   ·cases hc
  ·split at hc
   ·cases hc; cases hn
   ·cases hc
  ·rename_i hcal
   split at hc
   ·rename_i x t hargs htys
    obtain ⟨cst, hbl⟩ := bl _ _ _ hcal hargs htys
    rw [hbl]
    split at hc
    ·rename_i y hu hy
     cases hc
     simp only [cF] at hf
     split at hf
     ·rename_i st hst
      cases hf
      have e := (bc s hy).str hst
      have hsz : (⟨st.toArray⟩ : ByteArray).size = st.length := by simp [ByteArray.size]
      exact ⟨.int .i64 st.length, val (x := Builtin.len_ [t].toArray o.type ([x].map a.eval).toArray) (by simp [Builtin.len_, run_underlying hu, e, goInt, hsz]), VR.mkInt _ _⟩
     ·cases hf
    ·rename_i e0 y hu hy
     cases hc
     simp only [cF] at hf
     split at hf
     ·rename_i es hes
      cases hf
      obtain ⟨ad, cp, e⟩ := (rJ s (bc s hy) hes).slice
      exact ⟨.int .i64 es.length, val (x := Builtin.len_ [t].toArray o.type ([x].map a.eval).toArray) (by simp [Builtin.len_, run_underlying hu, e, goInt]), VR.mkInt _ _⟩
     ·cases hf
    ·cases hc
   ·cases hc
  ·split at hc
   ·split at hc
    ·split at hc
     ·split at hc
      ·cases hc; cases hf
      ·cases hc
     ·cases hc
    ·split at hc
     ·cases hc; cases hf
     ·cases hc
    ·cases hc
   ·cases hc
  ·rename_i hcal
   split at hc
   ·rename_i x y hargs
    obtain ⟨cst, hbl⟩ := bl _ _ _ hcal hargs rfl
    rw [hbl]
    split at hc
    ·rename_i x' y' hx hy
     cases hc
     simp only [cF] at hf
     split at hf
     ·rename_i k m k' n h1 h2
      split at hf
      ·rename_i hk
       subst hk
       cases hf
       have e1 := (bc s hx).int h1
       have e2 := (bc s hy).int h2
       exact ⟨.int k (if n < m then n else m), val (x := Builtin.min_ c.argTypes.toList.toArray o.type ([x, y].map a.eval).toArray) (by simp [Builtin.min_, Builtin.min2, e1, e2]), VR.mkInt _ _⟩
      ·cases hf
     ·cases hf
    ·cases hc
   ·cases hc
  ·rename_i hcal
   split at hc
   ·rename_i x y hargs
    obtain ⟨cst, hbl⟩ := bl _ _ _ hcal hargs rfl
    rw [hbl]
    split at hc
    ·rename_i x' y' hx hy
     cases hc
     simp only [cF] at hf
     split at hf
     ·rename_i k m k' n h1 h2
      split at hf
      ·rename_i hk
       subst hk
       cases hf
       have e1 := (bc s hx).int h1
       have e2 := (bc s hy).int h2
       exact ⟨.int k (if m < n then n else m), val (x := Builtin.max_ c.argTypes.toList.toArray o.type ([x, y].map a.eval).toArray) (by simp [Builtin.max_, Builtin.max2, e1, e2]), VR.mkInt _ _⟩
      ·cases hf
     ·cases hf
    ·cases hc
   ·cases hc
  ·cases hc
 | alloc t =>
  rw [hop] at hc; simp only [iS] at hc
  split at hc
  ·split at hc
   ·cases hc; cases hf
   ·cases hc
  ·cases hc
 | box t x =>
  rw [hop] at hc; simp only [iS, Option.map_eq_some_iff] at hc
  obtain ⟨y, hy, rfl⟩ := hc
  cases hf
 | buildSlice t n ps =>
  rw [hop] at hc; simp only [iS] at hc
  split at hc
  ·rename_i e1 ps1 _ _
   split at hc
   ·split at hc
    ·cases hc
     by_cases q : (d.st && !ps1.isEmpty) = true
     ·rw [if_pos q] at hn; cases hn
     ·rw [if_neg q] at hf; cases hf
    ·cases hc
   ·cases hc
  ·cases hc
 | store t x y =>
  rw [hop] at hc; simp only [iS] at hc
  split at hc
  ·cases hc; cases hf
  ·cases hc
 | makeSlice t x y =>
  rw [hop] at hc; simp only [iS] at hc
  split at hc
  ·split at hc
   ·split at hc
    ·split at hc
     ·split at hc
      ·cases hc; cases hf
      ·cases hc
     ·cases hc
    ·cases hc
   ·cases hc
  ·cases hc
 | makeFunc fn first caps =>
  rw [hop] at hc
  cases fn with
  | func f =>
   simp only [iS] at hc
   split at hc
   ·split at hc
    ·cases hc; cases hf
    ·cases hc
   ·cases hc
  | _ => simp [iS] at hc
 | makeMap t r =>
  rw [hop] at hc
  simp only [iS] at hc
  split at hc
  ·split at hc
   ·cases hc; cases hf
   ·cases hc
  ·cases hc
 | mapUpdate t m x y =>
  rw [hop] at hc
  simp only [iS] at hc
  split at hc
  ·split at hc
   ·cases hc; cases hf
   ·cases hc
  ·cases hc
 | _ =>
  rw [hop] at hc
  simp [iS] at hc
end
end Gi
