/- Of this proof. -/
import Derived.Test.YthklhahdgbbbhaaGreatGta
import Derived.Lib.ItoaLen
import Derived.Lib.ItoaNum
import Derived.Lib.Join
import Derived.Lib.Bytealg
set_option linter.unusedSimpArgs false
namespace Gi
open Go Go.RowKit
attribute [local simp] bW eM aq am bg bt cF dN Opd.ev put V.cells plain bz hJ isInt isStr isBool bin bf un asList L.view aB V.view viewL done bC aC aT cj comp bq bZ a8 V.flat L.flat dX dJ bS putAt thaw thawL freezeVs freezeLs freezeL V.mut L.mut bm aZ
theorem aG {f g : St → Option (Ex × St)} (h : g = f) (σ : St) : ah f σ = (match g σ with
 | some (.normal, σ') => ah f σ'
 | r => r) := by rw [h]; exact tQ f σ
theorem MU : gO [] = 0 := by simp only [gO]
theorem uw (p : PV) (ps : List PV) : gO (p :: ps) = sz p + gO ps := by simp only [gO]
theorem PC (k : IntKind) (n : Int) : sz (.int k n) = 0 := by simp only [sz]
theorem Pu (b : Bool) : sz (.bool b) = 0 := by simp only [sz]
theorem fW (s : List UInt8) : sz (.str s) = s.length := by simp only [sz]
theorem FU : ∀ (l m : List PV), gO (l ++ m) = gO l + gO m
 | [], m => by rw [List.nil_append, MU, Nat.zero_add]
 | p :: l, m => by rw [List.cons_append, uw, uw, FU l m, Nat.add_assoc]
theorem PA (l : List PV) (o n : Nat) : gO ((l.drop o).take n) ≤ gO l := by
 have h1 := FU (l.take o) (l.drop o)
 rw [List.take_append_drop] at h1
 have h2 := FU ((l.drop o).take n) ((l.drop o).drop n)
 rw [List.take_append_drop] at h2
 rw [h1, h2]
 exact Nat.le_trans (Nat.le_add_right _ _) (Nat.le_add_left _ _)
theorem cA : ∀ {l : List PV} {i : Nat} {p : PV}, l[i]? = some p → sz p ≤ gO l
 | [], _, _, h => by simp at h
 | q :: l, 0, p, h => by simp at h; subst h; rw [uw]; exact Nat.le_add_right _ _
 | q :: l, i + 1, p, h => by rw [uw]; exact Nat.le_trans (cA (l := l) (i := i) (by simpa using h)) (Nat.le_add_left _ _)
def jm (x : Option (Ex × St)) (Q : Ex → St → Prop) : Prop :=
 match x with
 | some (e, σ) => Q e σ
 | none => False
theorem jm.get {x : Option (Ex × St)} {Q : Ex → St → Prop} (h : jm x Q) : ∃ e σ, x = some (e, σ) ∧ Q e σ := by
 unfold jm at h
 split at h
 ·exact ⟨_, _, rfl, h⟩
 ·exact h.elim
theorem bD {e : Ex} {σ : St} {Q : Ex → St → Prop} : jm (some (e, σ)) Q = Q e σ := rfl
section
variable {ext : Nat → List V → Option V}
theorem IU {rows : List (List PV)} (hl : rows.length ≤ maxLen) (hr : ∀ r ∈ rows, ∃ s : List UInt8, r = [.str s] ∧ s.length ≤ maxLen) : ∀ (m k : Nat) (i : Int), i = k → k + m = rows.length → ∀ (left : Int), 0 ≤ left → left ≤ 1048576 → ∀ (x2 x3 x4 x6 x7 x8 x9 x10 x11 x12 x13 x14 x15 x16 x17 x18 x19 x20 x21 x22 x23 x24 x25 x26 x27 : V) (h : List AObj),
 jm (ah (aq (aa Ph ext) ah fA) ⟨(bJ rows :: ae .i64 left :: x2 :: x3 :: x4 :: ae .i64 i :: x6 :: x7 :: x8 :: x9 :: x10 :: x11 :: x12 :: x13 :: x14 :: x15 :: x16 :: x17 :: x18 :: x19 :: x20 :: x21 :: x22 :: x23 :: x24 :: x25 :: x26 :: x27 :: []), h⟩) fun e σ' => σ'.h = h ∧ σ'.t.length = 28 ∧ ((e = .exit 0 ∧ 0 ≤ eI left (ej (rows.drop k)) ∧ σ'.t[1]? = some (ae .i64 (eI left (ej (rows.drop k))))) ∨ (e = .ret ∧ eI left (ej (rows.drop k)) = -1 ∧ σ'.t[4]? = some (ae .i64 (-1)))) := by
 generalize hF : aq (aa Ph ext) ah fA = F
 intro m
 induction m with
 | zero =>
  intro k i hi hk left h0 h1 x2 x3 x4 x6 x7 x8 x9 x10 x11 x12 x13 x14 x15 x16 x17 x18 x19 x20 x21 x22 x23 x24 x25 x26 x27 h
  subst hi
  have hk' : k = rows.length := by omega
  subst hk'
  have hl0 : eI left (ej (rows.drop rows.length)) = left := by simp [ej, eI]; omega
  rw [hl0, aG hF]
  simp [fA, fE, h0, bD]
 | succ m ih =>
  intro k i hi hk left h0 h1 x2 x3 x4 x6 x7 x8 x9 x10 x11 x12 x13 x14 x15 x16 x17 x18 x19 x20 x21 x22 x23 x24 x25 x26 x27 h
  subst hi
  have hlt : k < rows.length := by omega
  have hw := ag (k := k) (by unfold maxLen at hl; omega)
  obtain ⟨s, hrk, hs⟩ := hr _ (List.getElem_mem hlt)
  unfold maxLen at hs
  have hw2 : IntKind.i64.wrap (left - (s.length : Int)) = left - (s.length : Int) := by rw [IntKind.wrap_i64]; omega
  rw [Ac hlt, hrk]
  have hsz : gO [PV.str s] = s.length := by simp [gO, sz]
  rw [hsz]
  by_cases hneg : left < (s.length : Int)
  ·have e1 : eI left (s.length + ej (rows.drop (k + 1))) = -1 := by unfold eI; rw [if_pos (by omega)]
   rw [e1, aG hF]
   have hn : left - (s.length : Int) < 0 := by omega
   simp [fA, fE, hlt, hrk, hw, hw2, hn, bD]
  ·have hn : ¬ left - (s.length : Int) < 0 := by omega
   have key := ih (k + 1) ((k : Int) + 1) (by omega) (by omega) (left - s.length) (by omega) (by omega)
   have e1 : eI (left - s.length) (ej (rows.drop (k + 1))) = eI left (s.length + ej (rows.drop (k + 1))) := by
    have : left - (s.length : Int) = eI left s.length := by unfold eI; rw [if_neg hneg]
    rw [this]; exact rc (by rw [← this]; omega)
   rw [e1] at key
   clear ih
   rw [aG hF]
   simp [fA, fE, hlt, hrk, hw, hw2, hn]
   exact key _ _ _ _ _ _ _ _ _ _ _ _ _ _ _ _ _ _ _ _ _ _ _ _ _ _
theorem F1 {rows : List (List PV)} (hl : rows.length ≤ maxLen) (hr : ∀ r ∈ rows, ∃ s : List UInt8, r = [.str s] ∧ s.length ≤ maxLen) {left : Int} (h0 : 0 ≤ left) (h1 : left ≤ 1048576) : aa Ph ext 200 [bJ rows, ae .i64 left] = some (ae .i64 (eI left (sz (.lst rows)))) := by
 refine aH (fn := jr) rfl ?_
 have hw : IntKind.i64.wrap (left - rows.length) = left - rows.length := by unfold maxLen at hl; rw [IntKind.wrap_i64]; omega
 rw [jH]
 by_cases hn : left < rows.length
 ·have hn' : left - (rows.length : Int) < 0 := by omega
  have e : eI left (rows.length + ej rows) = -1 := by unfold eI; rw [if_pos (by omega)]
  rw [e]
  generalize hF : aq (aa Ph ext) ah fA = F
  simp [jr, fE, hF, hw, hn']
 ·have hn' : ¬ left - (rows.length : Int) < 0 := by omega
  have hle : left - (rows.length : Int) = eI left rows.length := by unfold eI; rw [if_neg hn]
  obtain ⟨e, ⟨t', h'⟩, q1, q2, q5, q3⟩ := (IU (ext := ext) hl hr rows.length 0 0 rfl (by omega) (left - rows.length) (by omega) (by omega) (.tup []) (.tup []) (ae .i64 0) (ae .i64 left) (bJ rows) (ae .i64 rows.length) (ae .i64 (left - rows.length)) (ae .i64 (left - rows.length)) (aj false) (.tup []) (.tup []) (.tup []) (.tup []) (.tup []) (.tup []) (.tup []) (.tup []) (.tup []) (.tup []) (.tup []) (.tup []) (.tup []) (.tup []) (.tup []) (.tup []) []).get
  simp only [List.drop_zero] at q3
  have hls : eI (left - rows.length) (ej rows) = eI left (rows.length + ej rows) := by rw [hle]; exact rc (by rw [← hle]; omega)
  rw [hls] at q3
  simp at q5
  rcases q3 with ⟨rfl, _, q4⟩ | ⟨rfl, q6, q4⟩
  ·obtain ⟨_, q7⟩ := List.getElem?_eq_some_iff.1 q4
   simp [jr, fE, hw, hn', q1, q5, q7]
  ·obtain ⟨_, q7⟩ := List.getElem?_eq_some_iff.1 q4
   simp [jr, fE, hw, hn', q1, q5, q7, q6]
end
end Gi
namespace Gi
open Go Go.RowKit
attribute [local simp] bW eM aq am bg bt cF Opd.ev put bin bf isBool V.cells done bC aC aT cj comp bq bZ a8
theorem xo {f g : St → Option (Ex × St)} (h : g = f) (σ : St) : ah f σ = (match g σ with
 | some (.normal, σ') => ah f σ'
 | r => r) := by rw [h]; exact tQ f σ
def MR : List (List PV) → Option (List (List UInt8))
 | [] => some []
 | [.str s] :: r => match MR r with
  | some xs => some (s :: xs)
  | none => none
 | _ => none
def al (k : Nat) (xz : List V) : Option V :=
 match k, xz with
 | 68, [.one (.pv (.int .i64 n))] => if -9223372036854775808 ≤ n ∧ n ≤ 9223372036854775807 then some (eX (Lib.itoa n)) else none
 | 54, [.one (.pv (.lst es)), .one (.pv (.str sep))] => match MR es with
  | some xs => if xs.length ≤ 140737488355328 ∧ (Lib.join xs sep).length ≤ 140737488355328 then some (eX (Lib.join xs sep)) else none
  | none => none
 | 363, [.one (.pv (.str a)), .one (.pv (.str b))] => some (ae .i64 (Lib.compareBytes a b))
 | _, _ => none
theorem Em {n : Int} (h : bR (.int .i64) (.int .i64 n)) : -9223372036854775808 ≤ n ∧ n ≤ 9223372036854775807 := by
 have := (h.2 : (Lit.int .i64 n).wf = true)
 simp [Lit.wf, IntKind.min, IntKind.max, IntKind.signed, IntKind.bits] at this
 omega
theorem aS {a b : List UInt8} : fE .neq a b = some (aj (!(a == b))) := rfl
theorem aR {a b : List UInt8} : fE .eql a b = some (aj (a == b)) := rfl
theorem dz (a b c : Int) : aa Ph al 61 [ae .i64 a, ae .i64 b, ae .i64 c] = some (aj (decide (b ≤ a) && decide (a ≤ c))) := by
 refine aH (fn := pa) rfl ?_
 by_cases h : b ≤ a <;> simp [pa, h]
theorem fv (a b c : Int) : aa Ph al 58 [ae .i64 a, ae .i64 b, ae .i64 c] = some (aj (decide (b ≤ a) && decide (a ≤ c))) := by
 refine aH (fn := tx) rfl ?_
 by_cases h : b ≤ a <;> simp [tx, h]
def DM (b : UInt8) : Bool := (decide ((97 : Int) ≤ b.toNat) && decide ((b.toNat : Int) ≤ 122)) || (decide ((48 : Int) ≤ b.toNat) && decide ((b.toNat : Int) ≤ 57))
theorem L6 {s : List UInt8} (hl : s.length ≤ maxLen) : ∀ (m k : Nat) (i : Int), i = k → k + m = s.length → ∀ (x1 x2 x4 x5 x6 x7 x8 x9 x10 x11 x12 x13 x14 x15 x16 x17 x18 x19 x20 x21 x22 x23 x24 x25 x26 x27 x28 x29 x30 x31 x32 x33 x34 x35 : V) (h : List AObj), ∃ e t', ah (aq (aa Ph al) ah f6) ⟨(eX s :: x1 :: x2 :: ae .i64 i :: x4 :: x5 :: x6 :: x7 :: x8 :: x9 :: x10 :: x11 :: x12 :: x13 :: x14 :: x15 :: x16 :: x17 :: x18 :: x19 :: x20 :: x21 :: x22 :: x23 :: x24 :: x25 :: x26 :: x27 :: x28 :: x29 :: x30 :: x31 :: x32 :: x33 :: x34 :: x35 :: []), h⟩ = some (e, ⟨t', h⟩) ∧ t'.length = 36 ∧ ((e = .exit 0 ∧ (s.drop k).all DM = true ∧ t'[0]? = some (eX s)) ∨ (e = .ret ∧ (s.drop k).all DM = false ∧ t'[2]? = some (aj false))) := by
 generalize hF : aq (aa Ph al) ah f6 = F
 intro m
 induction m with
 | zero =>
  intro k i hi hk x1 x2 x4 x5 x6 x7 x8 x9 x10 x11 x12 x13 x14 x15 x16 x17 x18 x19 x20 x21 x22 x23 x24 x25 x26 x27 x28 x29 x30 x31 x32 x33 x34 x35 h
  subst hi
  have hk' : k = s.length := by omega
  subst hk'
  rw [xo hF]
  simp [f6, aq, am, bg, bt, cF, Opd.ev, put, bin, bf, isBool, isStr]
  exact ⟨_, _, ⟨rfl, rfl⟩, rfl, rfl, rfl⟩
 | succ m ih =>
  intro k i hi hk x1 x2 x4 x5 x6 x7 x8 x9 x10 x11 x12 x13 x14 x15 x16 x17 x18 x19 x20 x21 x22 x23 x24 x25 x26 x27 x28 x29 x30 x31 x32 x33 x34 x35 h
  subst hi
  have hlt : k < s.length := by omega
  have hw := ag (k := k) (by unfold maxLen at hl; omega)
  have hd : (s.drop k).all DM = (DM s[k] && (s.drop (k + 1)).all DM) := by rw [List.drop_eq_getElem_cons hlt, List.all_cons]
  have key := ih (k + 1) ((k : Int) + 1) (by omega) (by omega)
  rw [hd, xo hF]
  generalize (s.drop (k + 1)).all DM = B at key ⊢
  clear ih hd
  by_cases c1 : (97 : Int) ≤ s[k].toNat <;> by_cases c2 : (s[k].toNat : Int) ≤ 122 <;> by_cases c3 : (48 : Int) ≤ s[k].toNat <;> by_cases c4 : (s[k].toNat : Int) ≤ 57 <;>
   first
   | omega
   | (have ho : DM s[k] = true := by simp [DM, c1, c2, c3, c4]
      simp only [ho, Bool.true_and]
      simp [f6, aq, am, bg, bt, cF, Opd.ev, put, bin, bf, isBool, isStr, isInt, un, hlt, hw, c1, c2, c3, c4]
      exact key _ _ _ _ _ _ _ _ _ _ _ _ _ _ _ _ _ _ _ _ _ _ _ _ _ _ _ _ _ _ _ _ _ _ _)
   | (have ho : DM s[k] = false := by simp [DM, c1, c2, c3, c4]
      simp only [ho, Bool.false_and]
      simp [f6, aq, am, bg, bt, cF, Opd.ev, put, bin, bf, isBool, isStr, isInt, un, hlt, hw, c1, c2, c3, c4]
      exact ⟨_, _, ⟨rfl, rfl⟩, rfl, rfl, rfl⟩)
def p7 (s : List UInt8) : Bool := s.all DM && decide (s.length ≤ 12)
theorem xi {s : List UInt8} (hl : s.length ≤ maxLen) : aa Ph al 90 [eX s] = some (aj (p7 s)) := by
 refine aH (fn := ny) rfl ?_
 obtain ⟨e, t', e1, e2, e3⟩ := L6 hl s.length 0 0 rfl (by omega) (.tup []) (aj false) (.tup []) (.tup []) (.tup []) (.tup []) (.tup []) (.tup []) (.tup []) (.tup []) (.tup []) (.tup []) (.tup []) (.tup []) (.tup []) (.tup []) (.tup []) (.tup []) (.tup []) (.tup []) (.tup []) (.tup []) (.tup []) (.tup []) (.tup []) (.tup []) (.tup []) (.tup []) (.tup []) (.tup []) (.tup []) (.tup []) (.tup []) (.tup []) []
 rw [List.drop_zero] at e3
 have hc : (decide ((s.length : Int) ≤ 12)) = decide (s.length ≤ 12) := by congr 1; simp; omega
 rcases e3 with ⟨rfl, e4, e5⟩ | ⟨rfl, e4, e5⟩ <;> obtain ⟨_, e6⟩ := List.getElem?_eq_some_iff.1 e5 <;>
  simp [ny, isStr, e1, e2, e6, p7, e4, hc]
theorem Mg {s : List UInt8} (hl : s.length ≤ maxLen) : ∀ (m k : Nat) (i : Int), i = k → k + m = s.length → ∀ (x1 x2 x4 x5 x6 x7 x8 x9 x10 x11 x12 x13 x14 x15 x16 x17 x18 x19 x20 x21 x22 x23 x24 x25 x26 x27 x28 x29 x30 x31 x32 x33 x34 : V) (h : List AObj), ∃ e t', ah (aq (aa Ph al) ah it) ⟨(eX s :: x1 :: x2 :: ae .i64 i :: x4 :: x5 :: x6 :: x7 :: x8 :: x9 :: x10 :: x11 :: x12 :: x13 :: x14 :: x15 :: x16 :: x17 :: x18 :: x19 :: x20 :: x21 :: x22 :: x23 :: x24 :: x25 :: x26 :: x27 :: x28 :: x29 :: x30 :: x31 :: x32 :: x33 :: x34 :: []), h⟩ = some (e, ⟨t', h⟩) ∧ t'.length = 35 ∧ ((e = .exit 0 ∧ (s.drop k).all DM = true ∧ t'[0]? = some (eX s)) ∨ (e = .ret ∧ (s.drop k).all DM = false ∧ t'[2]? = some (aj false))) := by
 generalize hF : aq (aa Ph al) ah it = F
 intro m
 induction m with
 | zero =>
  intro k i hi hk x1 x2 x4 x5 x6 x7 x8 x9 x10 x11 x12 x13 x14 x15 x16 x17 x18 x19 x20 x21 x22 x23 x24 x25 x26 x27 x28 x29 x30 x31 x32 x33 x34 h
  subst hi
  have hk' : k = s.length := by omega
  subst hk'
  rw [xo hF]
  simp [it, aq, am, bg, bt, cF, Opd.ev, put, bin, bf, isBool, isStr]
  exact ⟨_, _, ⟨rfl, rfl⟩, rfl, rfl, rfl⟩
 | succ m ih =>
  intro k i hi hk x1 x2 x4 x5 x6 x7 x8 x9 x10 x11 x12 x13 x14 x15 x16 x17 x18 x19 x20 x21 x22 x23 x24 x25 x26 x27 x28 x29 x30 x31 x32 x33 x34 h
  subst hi
  have hlt : k < s.length := by omega
  have hw := ag (k := k) (by unfold maxLen at hl; omega)
  have hd : (s.drop k).all DM = (DM s[k] && (s.drop (k + 1)).all DM) := by rw [List.drop_eq_getElem_cons hlt, List.all_cons]
  have key := ih (k + 1) ((k : Int) + 1) (by omega) (by omega)
  rw [hd, xo hF]
  generalize (s.drop (k + 1)).all DM = B at key ⊢
  clear ih hd
  by_cases c1 : (s[k].toNat : Int) < 97 <;> by_cases c2 : 122 < (s[k].toNat : Int) <;> by_cases c3 : (s[k].toNat : Int) < 48 <;> by_cases c4 : 57 < (s[k].toNat : Int) <;>
   first
   | omega
   | (have ho : DM s[k] = true := by simp [DM]; omega
      simp only [ho, Bool.true_and]
      simp [it, aq, am, bg, bt, cF, Opd.ev, put, bin, bf, isBool, isStr, isInt, un, hlt, hw, c1, c2, c3, c4]
      exact key _ _ _ _ _ _ _ _ _ _ _ _ _ _ _ _ _ _ _ _ _ _ _ _ _ _ _ _ _ _ _ _ _ _)
   | (have ho : DM s[k] = false := by simp [DM]; omega
      simp only [ho, Bool.false_and]
      simp [it, aq, am, bg, bt, cF, Opd.ev, put, bin, bf, isBool, isStr, isInt, un, hlt, hw, c1, c2, c3, c4]
      exact ⟨_, _, ⟨rfl, rfl⟩, rfl, rfl, rfl⟩)
theorem CO {s : List UInt8} (hl : s.length ≤ maxLen) : aa Ph al 88 [eX s] = some (aj (p7 s)) := by
 refine aH (fn := qz) rfl ?_
 obtain ⟨e, t', e1, e2, e3⟩ := Mg hl s.length 0 0 rfl (by omega) (.tup []) (aj false) (.tup []) (.tup []) (.tup []) (.tup []) (.tup []) (.tup []) (.tup []) (.tup []) (.tup []) (.tup []) (.tup []) (.tup []) (.tup []) (.tup []) (.tup []) (.tup []) (.tup []) (.tup []) (.tup []) (.tup []) (.tup []) (.tup []) (.tup []) (.tup []) (.tup []) (.tup []) (.tup []) (.tup []) (.tup []) (.tup []) (.tup []) []
 rw [List.drop_zero] at e3
 have hc : (decide ((s.length : Int) ≤ 12)) = decide (s.length ≤ 12) := by congr 1; simp; omega
 rcases e3 with ⟨rfl, e4, e5⟩ | ⟨rfl, e4, e5⟩ <;> obtain ⟨_, e6⟩ := List.getElem?_eq_some_iff.1 e5 <;>
  simp [qz, isStr, e1, e2, e6, p7, e4, hc]
end Gi
