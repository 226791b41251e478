/- Of this proof. -/
import Derived.Test.YthklhahdgbbbhaaGreatGxa
import Derived.Test.YthklhahdgbbbhaaGreatGvg
import Derived.Test.YthklhahdgbbbhaaGreatGsp
set_option linter.unusedSimpArgs false
set_option linter.unusedVariables false
namespace Gi
open Go Go.RowKit
set_option maxHeartbeats 4000000
set_option maxRecDepth 4000
def uu (fs : List XField) (nm : List UInt8) : Nat := fs.findIdx fun f => !(Op.bytesLess f.name nm)
theorem IA (fs : List XField) (nm : List UInt8) : uu fs nm ≤ fs.length := List.findIdx_le_length
theorem Mt {fs : List XField} {nm : List UInt8} {k : Nat} (h : k < uu fs nm) (hk : k < fs.length) : Op.bytesLess fs[k].name nm = true := by
 have := List.not_of_lt_findIdx h
 simpa using this
theorem Ms {fs : List XField} {nm : List UInt8} (h : uu fs nm < fs.length) : Op.bytesLess fs[uu fs nm].name nm = false := by
 have := List.findIdx_getElem (w := h)
 unfold uu
 simpa using this
def jd (fs : List XField) (nm : List UInt8) (n : Int) : List XField := match fs[uu fs nm]? with
 | some f => if f.name = nm then fs.set (uu fs nm) ⟨nm, n⟩ else fs.take (uu fs nm) ++ (⟨nm, n⟩ :: fs.drop (uu fs nm))
 | none => fs.take (uu fs nm) ++ (⟨nm, n⟩ :: fs.drop (uu fs nm))
def setR (r : XRecord) (nm : List UInt8) (n : Int) : XRecord × Bool := if cG r = true ∧ cG ⟨jd r.fs nm n⟩ = true then (⟨jd r.fs nm n⟩, true) else (r, false)
def iP (x : XRecord × Bool) : V := .tup [(true, [.own 2 (x.1.fs.map XField.e)]), (false, [.pv (.bool x.2)])]
theorem Hv (fs : List XField) (nm : List UInt8) (n : Int) : (jd fs nm n).length ≤ fs.length + 1 := by
 have := IA fs nm
 unfold jd
 split
 ·split
  ·simp
  ·simp; omega
 ·simp; omega
theorem Hw {fs : List XField} {nm : List UInt8} {n : Int} {f : XField} (h : f ∈ jd fs nm n) : f ∈ fs ∨ f = ⟨nm, n⟩ := by
 have key : f ∈ fs.take (uu fs nm) ++ (⟨nm, n⟩ :: fs.drop (uu fs nm)) → f ∈ fs ∨ f = ⟨nm, n⟩ := fun h => by
  rw [List.mem_append, List.mem_cons] at h
  rcases h with h | h | h
  ·exact .inl (List.mem_of_mem_take h)
  ·exact .inr h
  ·exact .inl (List.mem_of_mem_drop h)
 unfold jd at h
 split at h
 ·split at h
  ·exact List.mem_or_eq_of_mem_set h
  ·exact key h
 ·exact key h
theorem JJ {B : Nat} {fs : List XField} (h : fs.length ≤ B ∧ ∀ f ∈ fs, f.Ok B) {nm : List UInt8} (hn : nm.length ≤ B) {n : Int} (hi : nb n) : (jd fs nm n).length ≤ B + 1 ∧ ∀ f ∈ jd fs nm n, f.Ok (B + 1) := by
 refine ⟨by have := Hv fs nm n; omega, fun f hf => ?_⟩
 rcases Hw hf with h1 | rfl
 ·exact XField.Ok.mono (by omega) (h.2 f h1)
 ·exact ⟨by simp only; omega, hi⟩
theorem kL {α : Type} {e : α → List PV} {z : Nat} (h : ∀ x, (e x).length = z) (xs : List α) : (xs.map e).all (fun r => r.length == z) = true := by
 rw [List.all_eq_true]
 intro r hr
 obtain ⟨x, _, rfl⟩ := List.mem_map.1 hr
 simp [h x]
theorem XField.len (x : XField) : x.e.length = 2 := rfl
theorem XItem.len (x : XItem) : x.e.length = 4 := rfl
theorem ju {B : Nat} (hB : B ≤ 1048576) {r : XRecord} (h : r.Ok B) : aa Ph al 242 [.agg [.pv (.lst (r.fs.map XField.e))]] = some (.agg [.own 2 (r.fs.map XField.e)]) :=
 pC (bY (fun _ q => XField.has (by unfold maxLen; omega) q) (by unfold maxLen; omega) h) (by rw [List.length_map]; have := h.1; omega)
theorem ro {B : Nat} (hB : B ≤ 1048576) {r : XRecord} (h : r.Ok B) : aa Ph al 239 [.agg [.pv (.lst (r.fs.map XField.e))]] = some (.agg [.own 2 (r.fs.map XField.e)]) :=
 t7 (bY (fun _ q => XField.has (by unfold maxLen; omega) q) (by unfold maxLen; omega) h) (by rw [List.length_map]; have := h.1; omega)
theorem pU {m z : Nat} (hm : m ≤ 4194304) (hz : z ≤ 4096) : m * z ≤ 140737488355328 ∧ m ≤ 9223372036854775807 ∧ m ≤ 9223372036854775806 ∧ m < 9223372036854775807 := by
 refine ⟨?_, by omega, by omega, by omega⟩
 calc m * z ≤ 4194304 * 4096 := Nat.mul_le_mul hm hz
  _ ≤ 140737488355328 := by decide
theorem vU : ∀ {a b c : List UInt8}, Op.bytesLess a b = true → Op.bytesLess b c = true → Op.bytesLess a c = true
 | [], [], _, h, _ => by cases h
 | [], _ :: _, [], _, h => by cases h
 | [], _ :: _, _ :: _, _, _ => rfl
 | _ :: _, [], _, h, _ => by cases h
 | _ :: _, _ :: _, [], _, h => by cases h
 | a :: x, b :: y, c :: z, h, k => by
  simp only [Op.bytesLess, Bool.or_eq_true, Bool.and_eq_true, decide_eq_true_eq, beq_iff_eq] at h k ⊢
  rcases h with h | ⟨rfl, h⟩
  ·rcases k with k | ⟨rfl, k⟩
   ·exact .inl (UInt8.lt_trans h k)
   ·exact .inl h
  ·rcases k with k | ⟨rfl, k⟩
   ·exact .inl k
   ·exact .inr ⟨rfl, vU h k⟩
theorem Cy : ∀ (a : List UInt8), Op.bytesLess a a = false
 | [] => rfl
 | a :: x => by simp [Op.bytesLess, UInt8.lt_irrefl, Cy x]
def Pz : List XField → Prop
 | [] => True
 | f :: t => (∀ g ∈ t, Op.bytesLess f.name g.name = true) ∧ Pz t
theorem MO : ∀ {fs : List XField}, (∀ j (h : j + 1 < fs.length), Op.bytesLess fs[j].name fs[j + 1].name = true) → Pz fs
 | [], _ => trivial
 | [f], _ => ⟨by simp, trivial⟩
 | f :: g :: t, h => by
  have ih := MO (fs := g :: t) (fun j hj => by have := h (j + 1) (by simpa using hj); simpa using this)
  refine ⟨fun x hx => ?_, ih⟩
  have h0 := h 0 (by simp)
  simp at h0
  rcases List.mem_cons.1 hx with rfl | hx
  ·exact h0
  ·exact vU h0 (ih.1 x hx)
theorem Bh {p : Nat → Bool} : ∀ {m k : Nat}, uG p m k = false → ∀ j, k ≤ j → j < k + m → p j = false
 | 0, k, _, j, h1, h2 => by omega
 | m + 1, k, h, j, h1, h2 => by
  simp only [uG, Bool.or_eq_false_iff] at h
  by_cases q : j = k
  ·subst q; exact h.1
  ·exact Bh h.2 j (by omega) (by omega)
theorem Eh (fs : List XField) {j : Nat} (hj : j < fs.length) : uX (fs.map XField.e)[j]? = fs[j].name := by simp [hj, XField.e, uX]
theorem NM {r : XRecord} (h : cG r = true) : Pz r.fs := by
 unfold cG pF at h
 simp only [Bool.and_eq_true, Bool.not_eq_true', List.length_map] at h
 refine MO fun j hj => ?_
 have := Bh h.1 (j + 1) (by omega) (by simpa using hj)
 simp only [tm, Bool.or_eq_false_iff, Bool.not_eq_false', Eh r.fs (show j < r.fs.length by omega), Eh r.fs hj] at this
 exact this.2
theorem NL {r : XRecord} (h : cG r = true) : r.fs.length ≤ 6 := by
 unfold cG pF at h
 simp only [Bool.and_eq_true, decide_eq_true_eq, List.length_map] at h
 omega
theorem G0 {nm : List UInt8} : ∀ {fs : List XField} (o : Nat), Pz fs → bN (tK nm) (fs.map XField.e) o = (match fs[uu fs nm]? with
 | some f => if f.name = nm then ((o + uu fs nm : Nat) : Int) else -1
 | none => -1)
 | [], o, _ => rfl
 | f :: t, o, h => by
  have ih := G0 (nm := nm) (fs := t) (o + 1) h.2
  have hd : tK nm (XField.e f) = (f.name == nm) := rfl
  simp only [List.map_cons, bN, hd]
  by_cases h1 : f.name = nm
  ·have hl : Op.bytesLess f.name nm = false := by rw [h1]; exact Cy nm
   have hp : uu (f :: t) nm = 0 := by simp [uu, List.findIdx_cons, hl]
   rw [hp]
   simp [h1]
  ·have hb : (f.name == nm) = false := by simpa using h1
   rw [hb]
   simp only [cond_false]
   cases hl : Op.bytesLess f.name nm with
   | true =>
    have hp : uu (f :: t) nm = uu t nm + 1 := by simp [uu, List.findIdx_cons, hl]
    rw [hp, ih]
    simp only [List.getElem?_cons_succ]
    cases t[uu t nm]? with
    | none => rfl
    | some g =>
     simp only
     split
     ·congr 1; omega
     ·rfl
   | false =>
    have hp : uu (f :: t) nm = 0 := by simp [uu, List.findIdx_cons, hl]
    rw [hp]
    simp only [List.getElem?_cons_zero, h1, if_false]
    have hgt : Op.bytesLess nm f.name = true := by
     have := nG f.name nm
     rw [hl, hb] at this
     simpa using this
    have : ∀ (l : List XField) (o : Nat), (∀ g ∈ l, Op.bytesLess f.name g.name = true) → bN (tK nm) (l.map XField.e) o = -1 := by
     intro l
     induction l with
     | nil => intro o _; rfl
     | cons g l ihl =>
      intro o hg
      have hne : (g.name == nm) = false := by
       have h2 := vU hgt (hg g (by simp))
       rw [beq_eq_false_iff_ne]
       intro e
       rw [e, Cy] at h2
       cases h2
      have hd : tK nm (XField.e g) = (g.name == nm) := rfl
      simp only [List.map_cons, bN, hd, hne, cond_false]
      exact ihl (o + 1) fun x hx => hg x (by simp [hx])
    exact this t (o + 1) h.1
end Gi
namespace Gi
open Go
section
variable {call : Nat → List V → Option V} {Q : Ex → St → Prop} {ks : List Fr} {σ τ : St}
theorem CR {id : Nat} {σ : St} (h : wp call Q ks (some (.exit id, σ))) : wp call Q (.sq qf :: ks) (some (.exit id, σ)) := by rw [cH]; exact h
theorem pS {c : ACode} : wp call Q ks (aq call ah (.loop c) σ) = wp call Q (.sq (.loop c) :: ks) (aq call ah c σ) := by
 simp only [aq]
 rw [tQ]
 cases h : aq call ah c σ with
 | none => simp only [qm]
 | some x =>
  obtain ⟨e, σ'⟩ := x
  cases e with
  | normal => simp only [cE, aq]
  | exit i => simp only [cH]
  | ret => simp only [cK]
theorem ql (hc : nS call) (hQ : Cl Q) {c : ACode} {t : List V} {h : List AObj} (n : Nat) (m : List Mk) (U : Nat → List (Nat × V)) (H : Nat → List AObj) (id : Nat) (hz : (c.zOk && kz ks) = true) (kn : Kn ⟨jG (fZ m t) (U 0), H 0⟩ ⟨t, h⟩)
 (st : ∀ k, k < n → wp call (fun e τ => e = .normal ∧ Kn ⟨jG (fZ m t) (U (k + 1)), H (k + 1)⟩ τ) [] (aq call ah c ⟨jG (fZ m t) (U k), H k⟩))
 (en : wp call (fun e τ => e = .exit id ∧ Kn ⟨jG (fZ m t) (U n), H n⟩ τ) [] (aq call ah c ⟨jG (fZ m t) (U n), H n⟩))
 (rest : wp call Q ks (some (.exit id, ⟨jG (fZ m t) (U n), H n⟩))) : wp call Q ks (aq call ah (.loop c) ⟨t, h⟩) := by
 refine ud hc hQ n m U H hz kn st ?_
 obtain ⟨τ, h1, k1⟩ := C7 en
 rw [h1]
 refine CR (JQ hc hQ ?_ k1 rest)
 simp only [Bool.and_eq_true] at hz
 exact hz.2
theorem Px (hc : nS call) (hQ : Cl Q) {c : ACode} {t : List V} {h : List AObj} (m : List Mk) (U : Nat → List (Nat × V)) (n : Nat) (p : Nat → Bool) (id : Nat) (hz : (c.zOk && kz ks) = true) (kn : Kn ⟨jG (fZ m t) (U 0), h⟩ ⟨t, h⟩)
 (st : ∀ k, k < n → p k = false → wp call (fun e τ => e = .normal ∧ Kn ⟨jG (fZ m t) (U (k + 1)), h⟩ τ) [] (aq call ah c ⟨jG (fZ m t) (U k), h⟩))
 (le : ∀ k, k < n → p k = true → (∀ j, j < k → p j = false) → wp call Q (.sq qf :: ks) (aq call ah c ⟨jG (fZ m t) (U k), h⟩))
 (en : wp call (fun e τ => e = .exit id ∧ Kn ⟨jG (fZ m t) (U n), h⟩ τ) [] (aq call ah c ⟨jG (fZ m t) (U n), h⟩))
 (rest : (∀ k, k < n → p k = false) → wp call Q ks (some (.exit id, ⟨jG (fZ m t) (U n), h⟩))) : wp call Q ks (aq call ah (.loop c) ⟨t, h⟩) := by
 refine bU hc hQ m U n p hz kn st le (fun hp => ?_)
 obtain ⟨τ, h1, k1⟩ := C7 en
 rw [h1]
 refine CR (JQ hc hQ ?_ k1 (rest hp))
 simp only [Bool.and_eq_true] at hz
 exact hz.2
end
end Gi
namespace Gi
open Go Go.RowKit
set_option maxHeartbeats 8000000
set_option maxRecDepth 4000
attribute [local simp] bW am bg bt cF dN Opd.ev put V.cells plain bz hJ isInt isStr isBool bin bf aS aR un asList L.view aB V.view viewL bC aC aT cj comp bq bZ bK a9 aK aI aJ aQ aE ba ar aM aA av aO aN aL aP thawT bB bw cd bG bA bz V.flat L.flat dX dJ bS putAt thaw thawL freezeVs freezeLs freezeL V.mut L.mut bm aZ wp_seq wp_block bE wp_cond wp_skip wp_exit wp_ret cN cE cK cH cS cT cR cq bj L.notArr aY aW aX bH bI
def AZ {α : Type} (q : α → α → Bool) (a b : List α) (k : Nat) : Bool := match a[k]?, b[k]? with
 | some x, some y => !(q x y)
 | _, _ => false
def pY {α : Type} (q : α → α → Bool) (a b : List α) : Bool := decide (a.length = b.length) && !((List.range a.length).any (AZ q a b))
theorem p8 {α : Type} {q : α → α → Bool} {a b : List α} {k : Nat} (h1 : k < a.length) (h2 : k < b.length) : AZ q a b k = !(q a[k] b[k]) := by simp [AZ, h1, h2]
theorem oY {α : Type} {q : α → α → Bool} {a b : List α} (h : ¬ a.length = b.length) : pY q a b = false := by simp [pY, h]
theorem wy {α : Type} {q : α → α → Bool} {a b : List α} {k : Nat} (hk : k < a.length) (h : AZ q a b k = true) : pY q a b = false := by unfold pY; rw [cI hk h]; simp
theorem uo {α : Type} {q : α → α → Bool} {a b : List α} (hl : a.length = b.length) (h : ∀ k, k < a.length → AZ q a b k = false) : pY q a b = true := by unfold pY; rw [dM h]; simp [hl]
theorem Bx {α : Type} {q : α → α → Bool} (hq : ∀ x y, q x y = q y x) (a b : List α) : pY q a b = pY q b a := by
 by_cases hl : a.length = b.length
 ·have e : (List.range a.length).any (AZ q a b) = (List.range b.length).any (AZ q b a) := by
   rw [hl]
   congr 1
   funext k
   unfold AZ
   cases a[k]? <;> cases b[k]? <;> simp [hq]
  unfold pY
  rw [e, hl]
 ·rw [oY hl, oY (fun h => hl h.symm)]
def Nn (a b : XField) : Bool := a.name == b.name && (a.n == b.n && true)
def Dj (a b : XRecord) : Bool := pY Nn a.fs b.fs
def Ia (a b : XKey) : Bool := a.kind == b.kind && (a.n == b.n && (a.text == b.text && true))
def Jk (a b : XItem) : Bool := Ia a.key b.key && Dj a.rcd b.rcd
def yc (a b : XStore) : Bool := a.name == b.name && (a.auto == b.auto && pY Jk a.items b.items)
theorem LJ (a b : XField) : Nn a b = Nn b a := by unfold Nn; rw [BEq.comm (a := a.name), BEq.comm (a := a.n)]
theorem LK (a b : XItem) : Jk a b = Jk b a := by
 unfold Jk Ia Dj
 rw [Bx LJ, BEq.comm (a := a.key.kind), BEq.comm (a := a.key.n), BEq.comm (a := a.key.text)]
theorem Ef (a b : XStore) : yc a b = yc b a := by
 unfold yc
 rw [Bx LK, BEq.comm (a := a.name), BEq.comm (a := a.auto)]
section
variable {a b : List XField}
theorem A0 (ha : a.length ≤ maxLen) (hb : b.length ≤ maxLen) : aa Ph al 352 [bJ (a.map XField.e), bJ (b.map XField.e)] = some (aj (pY Nn a b)) := by
 refine aw (fn := dW) rfl ?_
 by_cases hl : a.length = b.length
 ·have hlb : ((a.length : Int) != (b.length : Int)) = false := by simp [hl]
  simp [dW, hl, hlb]
  refine bU bh Cl.fin [.t,.t,.f,.f,.f,.f,.f,.f,.f,.f,.f,.f,.t,.t,.f,.f,.f,.f,.f,.f,.f,.f,.f,.f,.f,.f] (fun k => [(13, ae .i64 k)]) b.length (AZ Nn a b) rfl ?_ ?_ ?_ ?_
  ·exact Kn.q []
  ·intro k hk hp
   have hka : k < a.length := by omega
   have hw := ag (k := k) (by unfold maxLen at hb; omega)
   have hx := XField.e.eq_1 a[k]
   have hy := XField.e.eq_1 b[k]
   rw [p8 hka hk] at hp
   have hq : (a[k].name == b[k].name && (a[k].n == b[k].n && true)) = true := by simpa [Nn] using hp
   have hqs : kF [.s, .i] [.pv (.str a[k].name), .pv (.int .i64 a[k].n)] [.pv (.str b[k].name), .pv (.int .i64 b[k].n)] = some true := by simp only [kF, GP, if_true]; rw [hq]
   simp [cO, hk, hka, hl, hx, hy, hqs, hw]
   exact Kn.q []
  ·intro k hk hp _
   have hka : k < a.length := by omega
   have hx := XField.e.eq_1 a[k]
   have hy := XField.e.eq_1 b[k]
   rw [wy hka hp]
   rw [p8 hka hk] at hp
   have hq : (a[k].name == b[k].name && (a[k].n == b[k].n && true)) = false := (Bool.not_eq_true' _).mp hp
   have hqs : kF [.s, .i] [.pv (.str a[k].name), .pv (.int .i64 a[k].n)] [.pv (.str b[k].name), .pv (.int .i64 b[k].n)] = some false := by simp only [kF, GP, if_true]; rw [hq]
   simp [cO, hk, hka, hl, hx, hy, hqs]
  ·intro hp
   rw [uo hl (fun k hk => hp k (by omega))]
   simp [cO, hl]
 ·have hlb : ((a.length : Int) != (b.length : Int)) = true := by simp; omega
  rw [oY hl]
  simp [dW, hl, hlb]
end
section
variable {a b : XRecord}
theorem tE (ha : a.fs.length ≤ maxLen) (hb : b.fs.length ≤ maxLen) : aa Ph al 340 [.agg [.pv (.lst (a.fs.map XField.e))], .agg [.pv (.lst (b.fs.map XField.e))]] = some (aj (Dj a b)) := by
 have e1 := A0 ha hb
 unfold Dj
 refine aw (fn := kU) rfl ?_
 simp [kU, e1]
theorem tZ (ha : a.fs.length ≤ maxLen) (hb : b.fs.length ≤ maxLen) : aa Ph al 322 [.agg [.pv (.lst (a.fs.map XField.e))], .agg [.pv (.lst (b.fs.map XField.e))]] = some (aj (Dj a b)) := by
 obtain ⟨a⟩ := a
 obtain ⟨b⟩ := b
 unfold Dj
 simp only at ha hb ⊢
 refine aw (fn := ji) rfl ?_
 by_cases hl : a.length = b.length
 ·have hlb : ((a.length : Int) != (b.length : Int)) = false := by simp [hl]
  simp [ji, hl, hlb]
  refine bU bh Cl.fin [.f,.f,.t,.t,.f,.t,.f,.f,.f,.f,.f,.f,.f,.f,.f,.f,.f,.f,.f,.f,.f,.f,.f,.f,.f,.f,.f,.f,.f,.f,.f] (fun k => [(5, ae .i64 k)]) b.length (AZ Nn a b) rfl ?_ ?_ ?_ ?_
  ·exact Kn.q [0, 1]
  ·intro k hk hp
   have hka : k < a.length := by omega
   have hw := ag (k := k) (by unfold maxLen at hb; omega)
   have hx := XField.e.eq_1 a[k]
   have hy := XField.e.eq_1 b[k]
   rw [p8 hka hk] at hp
   have hq : (a[k].name == b[k].name && (a[k].n == b[k].n && true)) = true := by simpa [Nn] using hp
   have hqs : kF [.s, .i] [.pv (.str a[k].name), .pv (.int .i64 a[k].n)] [.pv (.str b[k].name), .pv (.int .i64 b[k].n)] = some true := by simp only [kF, GP, if_true]; rw [hq]
   simp [gJ, hk, hka, hl, hx, hy, hqs, hw]
   exact Kn.q [0, 1]
  ·intro k hk hp _
   have hka : k < a.length := by omega
   have hx := XField.e.eq_1 a[k]
   have hy := XField.e.eq_1 b[k]
   rw [wy hka hp]
   rw [p8 hka hk] at hp
   have hq : (a[k].name == b[k].name && (a[k].n == b[k].n && true)) = false := (Bool.not_eq_true' _).mp hp
   have hqs : kF [.s, .i] [.pv (.str a[k].name), .pv (.int .i64 a[k].n)] [.pv (.str b[k].name), .pv (.int .i64 b[k].n)] = some false := by simp only [kF, GP, if_true]; rw [hq]
   simp [gJ, hk, hka, hl, hx, hy, hqs]
  ·intro hp
   rw [uo hl (fun k hk => hp k (by omega))]
   simp [gJ, hl]
 ·have hlb : ((a.length : Int) != (b.length : Int)) = true := by simp; omega
  rw [oY hl]
  simp [ji, hl, hlb]
end
end Gi
