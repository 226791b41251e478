/- Records: are they valid? -/
import Derived.Test.YtldmjoillnhebaaGreatGum
namespace Gi
open Go Go.RowKit
set_option linter.unusedSimpArgs false
set_option linter.unusedVariables false
set_option maxHeartbeats 4000000
set_option maxRecDepth 4000
attribute [local simp] start execL exec execOps stepO wants fop eop Opd.ev put V.cells plain loadV cut isInt isStr isBool bin binInt binStr_neq binStr_eql un asList L.view viewArgs V.view viewL done finish resultsOf resultOf comps comp giveLs giveL arrsOf V.flat L.flat setV setL storeV putAt thaw thawL freezeVs freezeLs freezeL V.mut L.mut elemPtr viewRows

def anyK (p : Nat → Bool) : Nat → Nat → Bool
  | 0, _ => false
  | m + 1, k => p k || anyK p m (k + 1)
theorem field_row {r : List PV} (h : HasL t_FieldS r) : ∃ a n, r = [.str a, .int .i64 n] ∧ a.length ≤ maxLen := by
  obtain ⟨p0, r1, rfl, g0, k1⟩ := HasL_cons h
  obtain ⟨p1, r2, rfl, g1, k2⟩ := HasL_cons k1
  obtain rfl := HasL_nil k2
  obtain ⟨c0, rfl⟩ := Has_str g0
  obtain ⟨c1, rfl⟩ := Has_int g1
  exact ⟨c0, c1, rfl, g0⟩
def fName : Option (List PV) → List UInt8
  | some [.str a, .int _ _] => a
  | _ => []
def fNum : Option (List PV) → Int
  | some [.str _, .int _ n] => n
  | _ => 0
def badR (rows : List (List PV)) (k : Nat) : Bool :=
  (!(isName (fName rows[k]?)) || !(decide (0 ≤ fNum rows[k]?) && decide (fNum rows[k]? ≤ 1000000000))) || (match k with | 0 => false | j + 1 => !(Op.bytesLess (fName rows[j]?) (fName rows[j + 1]?)))
def isRec (rows : List (List PV)) : Bool := !(anyK (badR rows) rows.length 0) && decide ((rows.length : Int) ≤ 6)
theorem iir_loop {rows : List (List PV)} (hl : rows.length ≤ maxLen) (hr : ∀ r ∈ rows, HasL t_FieldS r) : ∀ (m k : Nat) (i : Int), i = k → k + m = rows.length → ∀ (x0 x2 x3 x4 x5 x9 x10 x11 x12 x13 x14 x15 x16 x17 x18 x19 x20 x21 x22 x23 x24 x25 x26 x27 x28 x29 x30 x31 x32 x33 x34 x35 x36 x37 x38 x39 x40 x41 x42 x43 : V) (h : List AObj) (σ : St), σ = ⟨(x0 :: .one (.ptr 0 0 0) :: x2 :: x3 :: x4 :: x5 :: vlst rows :: vint .i64 rows.length :: vint .i64 i :: x9 :: x10 :: x11 :: x12 :: x13 :: x14 :: x15 :: x16 :: x17 :: x18 :: x19 :: x20 :: x21 :: x22 :: x23 :: x24 :: x25 :: x26 :: x27 :: x28 :: x29 :: x30 :: x31 :: x32 :: x33 :: x34 :: x35 :: x36 :: x37 :: x38 :: x39 :: x40 :: x41 :: x42 :: x43 :: []), .box [.pv (.lst rows)] :: h⟩ →
    Runs (loopL (exec (callL Ph extF) loopL b_impl_IsRecord_0) σ) fun e σ' => (e = .exit 0 ∧ anyK (badR rows) m k = false ∧ ∃ (x0 x2 x3 x4 x5 x9 x10 x11 x12 x13 x14 x15 x16 x17 x18 x19 x20 x21 x22 x23 x24 x25 x26 x27 x28 x29 x30 x31 x32 x33 x34 x35 x36 x37 x38 x39 x40 x41 x42 x43 : V) (h' : List AObj), σ' = ⟨(x0 :: .one (.ptr 0 0 0) :: x2 :: x3 :: x4 :: x5 :: vlst rows :: vint .i64 rows.length :: vint .i64 (rows.length : Nat) :: x9 :: x10 :: x11 :: x12 :: x13 :: x14 :: x15 :: x16 :: x17 :: x18 :: x19 :: x20 :: x21 :: x22 :: x23 :: x24 :: x25 :: x26 :: x27 :: x28 :: x29 :: x30 :: x31 :: x32 :: x33 :: x34 :: x35 :: x36 :: x37 :: x38 :: x39 :: x40 :: x41 :: x42 :: x43 :: []), .box [.pv (.lst rows)] :: h'⟩) ∨ (e = .ret ∧ anyK (badR rows) m k = true ∧ σ'.t.length = 44 ∧ σ'.t[2]? = some (vbool false)) := by
  generalize hF : exec (callL Ph extF) loopL b_impl_IsRecord_0 = F
  intro m
  induction m with
  | zero =>
    intro k i hi hk x0 x2 x3 x4 x5 x9 x10 x11 x12 x13 x14 x15 x16 x17 x18 x19 x20 x21 x22 x23 x24 x25 x26 x27 x28 x29 x30 x31 x32 x33 x34 x35 x36 x37 x38 x39 x40 x41 x42 x43 h σ hσ
    subst hi hσ
    have hk' : k = rows.length := by omega
    subst hk'
    rw [loopL_go0 hF]
    simp (maxSteps := 4000000) [b_impl_IsRecord_0, anyK, Runs_some]
  | succ m ih =>
    intro k i hi hk x0 x2 x3 x4 x5 x9 x10 x11 x12 x13 x14 x15 x16 x17 x18 x19 x20 x21 x22 x23 x24 x25 x26 x27 x28 x29 x30 x31 x32 x33 x34 x35 x36 x37 x38 x39 x40 x41 x42 x43 h σ hσ
    subst hi hσ
    have hlt : k < rows.length := by omega
    have hw := wrap_small (k := k) (by unfold maxLen at hl; omega)
    obtain ⟨a, n, hrk, ha⟩ := field_row (hr _ (List.getElem_mem hlt))
    have e1 := impl_IsName_ok ha
    have e2 := impl_InRange_ok n 0 1000000000
    have g1 : fName rows[k]? = a := by rw [List.getElem?_eq_getElem hlt, hrk]; rfl
    have g2 : fNum rows[k]? = n := by rw [List.getElem?_eq_getElem hlt, hrk]; rfl
    have key := ih (k + 1) ((k : Int) + 1) (by omega) (by omega)
    clear ih
    simp only [anyK]
    generalize anyK (badR rows) m (k + 1) = B at key ⊢
    rw [loopL_go0 hF]
    rcases Nat.eq_zero_or_pos k with rfl | hpos
    · have hp : badR rows 0 = (!(isName a) || !(decide (0 ≤ n) && decide (n ≤ 1000000000))) := by simp only [badR, g1, g2, Bool.or_false]
      rw [hp]
      cases c1 : isName a <;> cases c2 : (decide (0 ≤ n) && decide (n ≤ 1000000000)) <;> rw [c1] at e1 <;> rw [c2] at e2 <;>
        first
        | (simp [b_impl_IsRecord_0, hlt, hw, hrk, e1, e2]
           exact key _ _ _ _ _ _ _ _ _ _ _ _ _ _ _ _ _ _ _ _ _ _ _ _ _ _ _ _ _ _ _ _ _ _ _ _ _ _ _ _ _ _ rfl)
        | (simp [b_impl_IsRecord_0, hlt, hw, hrk, e1, e2, Runs_some]; done)
    · obtain ⟨j, hjk⟩ : ∃ j, k = j + 1 := ⟨k - 1, by omega⟩
      have hj : j < rows.length := by omega
      obtain ⟨b, n', hrj, hb⟩ := field_row (hr _ (List.getElem_mem hj))
      have g3 : fName rows[j]? = b := by rw [List.getElem?_eq_getElem hj, hrj]; rfl
      have hp : badR rows k = ((!(isName a) || !(decide (0 ≤ n) && decide (n ≤ 1000000000))) || !(Op.bytesLess b a)) := by subst hjk; simp only [badR, g1, g2, g3]
      have lt : binStr .leq a b = some (vbool (!(Op.bytesLess b a))) := by simp only [binStr]; rw [less_total]
      have hw2 : IntKind.i64.wrap ((k : Int) - 1) = (j : Int) := by unfold maxLen at hl; rw [IntKind.wrap_i64]; omega
      have hpos' : (0 : Int) < (k : Int) := by omega
      clear hjk
      rw [hp]
      cases c1 : isName a <;> cases c2 : (decide (0 ≤ n) && decide (n ≤ 1000000000)) <;> cases c3 : Op.bytesLess b a <;> rw [c1] at e1 <;> rw [c2] at e2 <;> rw [c3] at lt <;>
        first
        | (simp [b_impl_IsRecord_0, hlt, hrk, hrj, hj, e1, e2, ↓lt, hw, hw2, hpos, hpos']
           exact key _ _ _ _ _ _ _ _ _ _ _ _ _ _ _ _ _ _ _ _ _ _ _ _ _ _ _ _ _ _ _ _ _ _ _ _ _ _ _ _ _ _ rfl)
        | (simp [b_impl_IsRecord_0, hlt, hrk, hrj, hj, e1, e2, ↓lt, hw, hw2, hpos, hpos', Runs_some]; done)
theorem impl_IsRecord_ok {rows : List (List PV)} (h : Has (.lst t_FieldS) (.lst rows)) : callL Ph extF 246 [.agg [.pv (.lst rows)]] = some (vbool (isRec rows)) := by
  obtain ⟨hl, hr⟩ := Has_rows h
  refine callL_fn (fn := f_impl_IsRecord) rfl ?_
  have LP := iir_loop hl hr rows.length 0 0 rfl (by omega)
  generalize hF : exec (callL Ph extF) loopL b_impl_IsRecord_0 = F at LP
  simp [f_impl_IsRecord, hF]
  generalize hσ : St.mk _ _ = σ0
  obtain ⟨e, σ', q1, q3⟩ := (LP _ _ _ _ _ _ _ _ _ _ _ _ _ _ _ _ _ _ _ _ _ _ _ _ _ _ _ _ _ _ _ _ _ _ _ _ _ _ _ _ _ σ0 hσ.symm).get
  rcases q3 with ⟨rfl, q4, x0, x2, x3, x4, x5, x9, x10, x11, x12, x13, x14, x15, x16, x17, x18, x19, x20, x21, x22, x23, x24, x25, x26, x27, x28, x29, x30, x31, x32, x33, x34, x35, x36, x37, x38, x39, x40, x41, x42, x43, h', rfl⟩ | ⟨rfl, q4, q5, q7⟩
  · rw [q1]
    simp [isRec, q4]
  · obtain ⟨_, q8⟩ := List.getElem?_eq_some_iff.1 q7
    rw [q1]
    simp [isRec, q4, q5, q8]
end Gi
