/- Of this proof. -/
import Derived.Test.YthklhahdgbbbhaaGreatGua1
set_option linter.unusedSimpArgs false
namespace Gi
open Go Go.RowKit
set_option maxHeartbeats 4000000
set_option maxRecDepth 4000
theorem nG : ∀ (a b : List UInt8), (Op.bytesLess a b || a == b) = !(Op.bytesLess b a)
 | [], [] => rfl
 | [], b :: y => rfl
 | a :: x, [] => rfl
 | a :: x, b :: y => by
  have ih := nG x y
  simp only [Op.bytesLess]
  by_cases h1 : a < b
  ·have h2 : ¬ b < a := fun h => absurd h (UInt8.lt_asymm h1)
   have h3 : ¬ b = a := fun h => by subst h; exact absurd h1 (UInt8.lt_irrefl _)
   simp [h1, h2, h3]
  ·by_cases h2 : b < a
   ·have h3 : ¬ a = b := fun h => by subst h; exact absurd h2 (UInt8.lt_irrefl _)
    simp [h1, h2, h3]
   ·have h3 : a = b := UInt8.le_antisymm (UInt8.not_lt.1 h2) (UInt8.not_lt.1 h1)
    subst h3
    have e : ((a :: x) == (a :: y)) = (x == y) := by simp [List.cons_beq_cons]
    simp [UInt8.lt_irrefl]
    simpa using ih
end Gi
namespace Gi
open Go Go.RowKit
set_option maxHeartbeats 4000000
set_option maxRecDepth 4000
attribute [local simp] bW eM aq am bg bt cF dN Opd.ev put V.cells plain bz hJ isInt isStr isBool bin bf aS aR un asList L.view aB V.view viewL done bC aC aT cj comp bq bZ a8 V.flat L.flat dX dJ bS putAt thaw thawL freezeVs freezeLs freezeL V.mut L.mut bm aZ
def uG (p : Nat → Bool) : Nat → Nat → Bool
 | 0, _ => false
 | m + 1, k => p k || uG p m (k + 1)
theorem qT {r : List PV} (h : be dx r) : ∃ a n, r = [.str a, .int .i64 n] ∧ a.length ≤ maxLen := by
 obtain ⟨⟨c0, c1, _⟩, rfl, g0, g1, _⟩ := cf h
 exact ⟨c0, c1, rfl, g0⟩
def uX : Option (List PV) → List UInt8
 | some [.str a, .int _ _] => a
 | _ => []
def Np : Option (List PV) → Int
 | some [.str _, .int _ n] => n
 | _ => 0
def tm (rows : List (List PV)) (k : Nat) : Bool :=
 (!(bF (uX rows[k]?)) || !(decide (0 ≤ Np rows[k]?) && decide (Np rows[k]? ≤ 1000000000))) || (match k with | 0 => false | j + 1 => !(Op.bytesLess (uX rows[j]?) (uX rows[j + 1]?)))
def pF (rows : List (List PV)) : Bool := !(uG (tm rows) rows.length 0) && decide ((rows.length : Int) ≤ 6)
theorem L5 {rows : List (List PV)} (hl : rows.length ≤ maxLen) (hr : ∀ r ∈ rows, be dx r) : ∀ (m k : Nat) (i : Int), i = k → k + m = rows.length → ∀ (x0 x2 x3 x4 x5 x9 x10 x11 x12 x13 x14 x15 x16 x17 x18 x19 x20 x21 x22 x23 x24 x25 x26 x27 x28 x29 x30 x31 x32 x33 x34 x35 x36 x37 x38 x39 x40 x41 x42 x43 : V) (h : List AObj) (σ : St), σ = ⟨(x0 :: .one (.ptr 0 0 0) :: x2 :: x3 :: x4 :: x5 :: bJ rows :: ae .i64 rows.length :: ae .i64 i :: x9 :: x10 :: x11 :: x12 :: x13 :: x14 :: x15 :: x16 :: x17 :: x18 :: x19 :: x20 :: x21 :: x22 :: x23 :: x24 :: x25 :: x26 :: x27 :: x28 :: x29 :: x30 :: x31 :: x32 :: x33 :: x34 :: x35 :: x36 :: x37 :: x38 :: x39 :: x40 :: x41 :: x42 :: x43 :: []), .box [.pv (.lst rows)] :: h⟩ →
 jm (ah (aq (aa Ph al) ah eu) σ) fun e σ' => (e = .exit 0 ∧ uG (tm rows) m k = false ∧ ∃ (x0 x2 x3 x4 x5 x9 x10 x11 x12 x13 x14 x15 x16 x17 x18 x19 x20 x21 x22 x23 x24 x25 x26 x27 x28 x29 x30 x31 x32 x33 x34 x35 x36 x37 x38 x39 x40 x41 x42 x43 : V) (h' : List AObj), σ' = ⟨(x0 :: .one (.ptr 0 0 0) :: x2 :: x3 :: x4 :: x5 :: bJ rows :: ae .i64 rows.length :: ae .i64 (rows.length : Nat) :: x9 :: x10 :: x11 :: x12 :: x13 :: x14 :: x15 :: x16 :: x17 :: x18 :: x19 :: x20 :: x21 :: x22 :: x23 :: x24 :: x25 :: x26 :: x27 :: x28 :: x29 :: x30 :: x31 :: x32 :: x33 :: x34 :: x35 :: x36 :: x37 :: x38 :: x39 :: x40 :: x41 :: x42 :: x43 :: []), .box [.pv (.lst rows)] :: h'⟩) ∨ (e = .ret ∧ uG (tm rows) m k = true ∧ σ'.t.length = 44 ∧ σ'.t[2]? = some (aj false)) := by
 generalize hF : aq (aa Ph al) ah eu = F
 intro m
 induction m with
 | zero =>
  intro k i hi hk x0 x2 x3 x4 x5 x9 x10 x11 x12 x13 x14 x15 x16 x17 x18 x19 x20 x21 x22 x23 x24 x25 x26 x27 x28 x29 x30 x31 x32 x33 x34 x35 x36 x37 x38 x39 x40 x41 x42 x43 h σ hσ
  subst hi hσ
  have hk' : k = rows.length := by omega
  subst hk'
  rw [aG hF]
  simp (maxSteps := 4000000) [eu, uG, bD]
 | succ m ih =>
  intro k i hi hk x0 x2 x3 x4 x5 x9 x10 x11 x12 x13 x14 x15 x16 x17 x18 x19 x20 x21 x22 x23 x24 x25 x26 x27 x28 x29 x30 x31 x32 x33 x34 x35 x36 x37 x38 x39 x40 x41 x42 x43 h σ hσ
  subst hi hσ
  have hlt : k < rows.length := by omega
  have hw := ag (k := k) (by unfold maxLen at hl; omega)
  obtain ⟨a, n, hrk, ha⟩ := qT (hr _ (List.getElem_mem hlt))
  have e1 := cQ ha
  have e2 := dz n 0 1000000000
  have g1 : uX rows[k]? = a := by rw [List.getElem?_eq_getElem hlt, hrk]; rfl
  have g2 : Np rows[k]? = n := by rw [List.getElem?_eq_getElem hlt, hrk]; rfl
  have key := ih (k + 1) ((k : Int) + 1) (by omega) (by omega)
  clear ih
  simp only [uG]
  generalize uG (tm rows) m (k + 1) = B at key ⊢
  rw [aG hF]
  rcases Nat.eq_zero_or_pos k with rfl | hpos
  ·have hp : tm rows 0 = (!(bF a) || !(decide (0 ≤ n) && decide (n ≤ 1000000000))) := by simp only [tm, g1, g2, Bool.or_false]
   rw [hp]
   cases c1 : bF a <;> cases c2 : (decide (0 ≤ n) && decide (n ≤ 1000000000)) <;> rw [c1] at e1 <;> rw [c2] at e2 <;>
    first
    | (simp [eu, hlt, hw, hrk, e1, e2]
       exact key _ _ _ _ _ _ _ _ _ _ _ _ _ _ _ _ _ _ _ _ _ _ _ _ _ _ _ _ _ _ _ _ _ _ _ _ _ _ _ _ _ _ rfl)
    | (simp [eu, hlt, hw, hrk, e1, e2, bD]; done)
  ·obtain ⟨j, hjk⟩ : ∃ j, k = j + 1 := ⟨k - 1, by omega⟩
   have hj : j < rows.length := by omega
   obtain ⟨b, n', hrj, hb⟩ := qT (hr _ (List.getElem_mem hj))
   have g3 : uX rows[j]? = b := by rw [List.getElem?_eq_getElem hj, hrj]; rfl
   have hp : tm rows k = ((!(bF a) || !(decide (0 ≤ n) && decide (n ≤ 1000000000))) || !(Op.bytesLess b a)) := by subst hjk; simp only [tm, g1, g2, g3]
   have lt : fE .leq a b = some (aj (!(Op.bytesLess b a))) := by simp only [fE]; rw [nG]
   have hw2 : IntKind.i64.wrap ((k : Int) - 1) = (j : Int) := by unfold maxLen at hl; rw [IntKind.wrap_i64]; omega
   have hpos' : (0 : Int) < (k : Int) := by omega
   clear hjk
   rw [hp]
   cases c1 : bF a <;> cases c2 : (decide (0 ≤ n) && decide (n ≤ 1000000000)) <;> cases c3 : Op.bytesLess b a <;> rw [c1] at e1 <;> rw [c2] at e2 <;> rw [c3] at lt <;>
    first
    | (simp [eu, hlt, hrk, hrj, hj, e1, e2, ↓lt, hw, hw2, hpos, hpos']
       exact key _ _ _ _ _ _ _ _ _ _ _ _ _ _ _ _ _ _ _ _ _ _ _ _ _ _ _ _ _ _ _ _ _ _ _ _ _ _ _ _ _ _ rfl)
    | (simp [eu, hlt, hrk, hrj, hj, e1, e2, ↓lt, hw, hw2, hpos, hpos', bD]; done)
theorem qV {rows : List (List PV)} (h : bR (.lst dx) (.lst rows)) : aa Ph al 246 [.agg [.pv (.lst rows)]] = some (aj (pF rows)) := by
 obtain ⟨hl, hr⟩ := aD h
 refine aH (fn := ol) rfl ?_
 have LP := L5 hl hr rows.length 0 0 rfl (by omega)
 generalize hF : aq (aa Ph al) ah eu = F at LP
 simp [ol, hF]
 generalize hσ : St.mk _ _ = σ0
 obtain ⟨e, σ', q1, q3⟩ := (LP _ _ _ _ _ _ _ _ _ _ _ _ _ _ _ _ _ _ _ _ _ _ _ _ _ _ _ _ _ _ _ _ _ _ _ _ _ _ _ _ _ σ0 hσ.symm).get
 rcases q3 with ⟨rfl, q4, x0, x2, x3, x4, x5, x9, x10, x11, x12, x13, x14, x15, x16, x17, x18, x19, x20, x21, x22, x23, x24, x25, x26, x27, x28, x29, x30, x31, x32, x33, x34, x35, x36, x37, x38, x39, x40, x41, x42, x43, h', rfl⟩ | ⟨rfl, q4, q5, q7⟩
 ·rw [q1]
  simp [pF, q4]
 ·obtain ⟨_, q8⟩ := List.getElem?_eq_some_iff.1 q7
  rw [q1]
  simp [pF, q4, q5, q8]
theorem ML {rows : List (List PV)} (hl : rows.length ≤ maxLen) (hr : ∀ r ∈ rows, be dx r) : ∀ (m k : Nat) (i : Int), i = k → k + m = rows.length → ∀ (x0 x2 x4 x5 x6 x7 x8 x9 x10 x11 x12 x13 x14 x15 x16 x17 x18 x19 x20 x21 x22 x23 x24 x25 x26 x27 x28 x29 x30 x31 x32 x33 x34 x35 x36 x37 x38 x39 x40 x41 x42 x43 x44 x45 x46 x47 x48 x49 x50 x51 x52 : V) (σ : St), σ = ⟨(x0 :: .one (.ptr 0 0 0) :: x2 :: ae .i64 i :: x4 :: x5 :: x6 :: x7 :: x8 :: x9 :: x10 :: x11 :: x12 :: x13 :: x14 :: x15 :: x16 :: x17 :: x18 :: x19 :: x20 :: x21 :: x22 :: x23 :: x24 :: x25 :: x26 :: x27 :: x28 :: x29 :: x30 :: x31 :: x32 :: x33 :: x34 :: x35 :: x36 :: x37 :: x38 :: x39 :: x40 :: x41 :: x42 :: x43 :: x44 :: x45 :: x46 :: x47 :: x48 :: x49 :: x50 :: x51 :: x52 :: []), [.box [.pv (.lst rows)]]⟩ →
 jm (ah (aq (aa Ph al) ah ew) σ) fun e σ' => (e = .exit 0 ∧ uG (tm rows) m k = false ∧ ∃ (x0 x2 x4 x5 x6 x7 x8 x9 x10 x11 x12 x13 x14 x15 x16 x17 x18 x19 x20 x21 x22 x23 x24 x25 x26 x27 x28 x29 x30 x31 x32 x33 x34 x35 x36 x37 x38 x39 x40 x41 x42 x43 x44 x45 x46 x47 x48 x49 x50 x51 x52 : V), σ' = ⟨(x0 :: .one (.ptr 0 0 0) :: x2 :: ae .i64 (rows.length : Nat) :: x4 :: x5 :: x6 :: x7 :: x8 :: x9 :: x10 :: x11 :: x12 :: x13 :: x14 :: x15 :: x16 :: x17 :: x18 :: x19 :: x20 :: x21 :: x22 :: x23 :: x24 :: x25 :: x26 :: x27 :: x28 :: x29 :: x30 :: x31 :: x32 :: x33 :: x34 :: x35 :: x36 :: x37 :: x38 :: x39 :: x40 :: x41 :: x42 :: x43 :: x44 :: x45 :: x46 :: x47 :: x48 :: x49 :: x50 :: x51 :: x52 :: []), [.box [.pv (.lst rows)]]⟩) ∨ (e = .ret ∧ uG (tm rows) m k = true ∧ σ'.t.length = 53 ∧ σ'.t[2]? = some (aj false)) := by
 generalize hF : aq (aa Ph al) ah ew = F
 intro m
 induction m with
 | zero =>
  intro k i hi hk x0 x2 x4 x5 x6 x7 x8 x9 x10 x11 x12 x13 x14 x15 x16 x17 x18 x19 x20 x21 x22 x23 x24 x25 x26 x27 x28 x29 x30 x31 x32 x33 x34 x35 x36 x37 x38 x39 x40 x41 x42 x43 x44 x45 x46 x47 x48 x49 x50 x51 x52 σ hσ
  subst hi hσ
  have hk' : k = rows.length := by omega
  subst hk'
  rw [aG hF]
  simp (maxSteps := 4000000) [ew, uG, bD]
 | succ m ih =>
  intro k i hi hk x0 x2 x4 x5 x6 x7 x8 x9 x10 x11 x12 x13 x14 x15 x16 x17 x18 x19 x20 x21 x22 x23 x24 x25 x26 x27 x28 x29 x30 x31 x32 x33 x34 x35 x36 x37 x38 x39 x40 x41 x42 x43 x44 x45 x46 x47 x48 x49 x50 x51 x52 σ hσ
  subst hi hσ
  have hlt : k < rows.length := by omega
  have hw := ag (k := k) (by unfold maxLen at hl; omega)
  obtain ⟨a, n, hrk, ha⟩ := qT (hr _ (List.getElem_mem hlt))
  have e1 := di ha
  have e2 := fv n 0 1000000000
  have g1 : uX rows[k]? = a := by rw [List.getElem?_eq_getElem hlt, hrk]; rfl
  have g2 : Np rows[k]? = n := by rw [List.getElem?_eq_getElem hlt, hrk]; rfl
  have key := ih (k + 1) ((k : Int) + 1) (by omega) (by omega)
  clear ih
  simp only [uG]
  generalize uG (tm rows) m (k + 1) = B at key ⊢
  rw [aG hF]
  rcases Nat.eq_zero_or_pos k with rfl | hpos
  ·have hp : tm rows 0 = (!(bF a) || !(decide (0 ≤ n) && decide (n ≤ 1000000000))) := by simp only [tm, g1, g2, Bool.or_false]
   rw [hp]
   cases c1 : bF a <;> cases c2 : (decide (0 ≤ n) && decide (n ≤ 1000000000)) <;> rw [c1] at e1 <;> rw [c2] at e2 <;>
    first
    | (simp [ew, hlt, hw, hrk, e1, e2]
       exact key _ _ _ _ _ _ _ _ _ _ _ _ _ _ _ _ _ _ _ _ _ _ _ _ _ _ _ _ _ _ _ _ _ _ _ _ _ _ _ _ _ _ _ _ _ _ _ _ _ _ _ _ rfl)
    | (simp [ew, hlt, hw, hrk, e1, e2, bD]; done)
  ·obtain ⟨j, hjk⟩ : ∃ j, k = j + 1 := ⟨k - 1, by omega⟩
   have hj : j < rows.length := by omega
   obtain ⟨b, n', hrj, hb⟩ := qT (hr _ (List.getElem_mem hj))
   have g3 : uX rows[j]? = b := by rw [List.getElem?_eq_getElem hj, hrj]; rfl
   have hp : tm rows k = ((!(bF a) || !(decide (0 ≤ n) && decide (n ≤ 1000000000))) || !(Op.bytesLess b a)) := by subst hjk; simp only [tm, g1, g2, g3]
   have lt : fE .geq b a = some (aj (!(Op.bytesLess b a))) := rfl
   have hw2 : IntKind.i64.wrap ((k : Int) - 1) = (j : Int) := by unfold maxLen at hl; rw [IntKind.wrap_i64]; omega
   have hpos' : (0 : Int) < (k : Int) := by omega
   clear hjk
   rw [hp]
   cases c1 : bF a <;> cases c2 : (decide (0 ≤ n) && decide (n ≤ 1000000000)) <;> cases c3 : Op.bytesLess b a <;> rw [c1] at e1 <;> rw [c2] at e2 <;> rw [c3] at lt <;>
    first
    | (simp [ew, hlt, hrk, hrj, hj, e1, e2, ↓lt, hw, hw2, hpos, hpos']
       exact key _ _ _ _ _ _ _ _ _ _ _ _ _ _ _ _ _ _ _ _ _ _ _ _ _ _ _ _ _ _ _ _ _ _ _ _ _ _ _ _ _ _ _ _ _ _ _ _ _ _ _ _ rfl)
    | (simp [ew, hlt, hrk, hrj, hj, e1, e2, ↓lt, hw, hw2, hpos, hpos', bD]; done)
theorem rl {rows : List (List PV)} (h : bR (.lst dx) (.lst rows)) : aa Ph al 243 [.agg [.pv (.lst rows)]] = some (aj (pF rows)) := by
 obtain ⟨hl, hr⟩ := aD h
 refine aH (fn := oA) rfl ?_
 have LP := ML hl hr rows.length 0 0 rfl (by omega)
 generalize hF : aq (aa Ph al) ah ew = F at LP
 simp [oA, hF]
 generalize hσ : St.mk _ _ = σ0
 obtain ⟨e, σ', q1, q3⟩ := (LP _ _ _ _ _ _ _ _ _ _ _ _ _ _ _ _ _ _ _ _ _ _ _ _ _ _ _ _ _ _ _ _ _ _ _ _ _ _ _ _ _ _ _ _ _ _ _ _ _ _ _ σ0 hσ.symm).get
 rcases q3 with ⟨rfl, q4, x0, x2, x4, x5, x6, x7, x8, x9, x10, x11, x12, x13, x14, x15, x16, x17, x18, x19, x20, x21, x22, x23, x24, x25, x26, x27, x28, x29, x30, x31, x32, x33, x34, x35, x36, x37, x38, x39, x40, x41, x42, x43, x44, x45, x46, x47, x48, x49, x50, x51, x52, rfl⟩ | ⟨rfl, q4, q5, q7⟩
 ·rw [q1]
  simp [pF, q4]
 ·obtain ⟨_, q8⟩ := List.getElem?_eq_some_iff.1 q7
  rw [q1]
  simp [pF, q4, q5, q8]
end Gi
