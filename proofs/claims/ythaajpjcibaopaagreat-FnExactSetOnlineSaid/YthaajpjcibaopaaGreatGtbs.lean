/- Of this proof. -/
import Derived.Test.YthaajpjcibaopaaGreatGta
namespace Gi
open Go Go.RowKit
set_option linter.unusedSimpArgs false
set_option linter.unusedVariables false
attribute [local simp] start execL exec execOps stepO wants fop eop Opd.ev put V.cells plain loadV cut isInt isStr isBool bin binInt un asList L.view viewArgs V.view viewL done finish resultsOf resultOf comps comp giveLs giveL arrsOf V.flat L.flat setV setL storeV putAt thaw thawL freezeVs freezeLs freezeL V.mut L.mut elemPtr viewRows
theorem loopL_go0 {f g : St → Option (Ex × St)} (h : g = f) (σ : St) : loopL f σ = (match g σ with
 | some (.normal, σ') => loopL f σ'
 | r => r) := by rw [h]; exact loopL_eq f σ
theorem szL_nil0 : szL [] = 0 := by simp only [szL]
theorem szL_cons0 (p : PV) (ps : List PV) : szL (p :: ps) = sz p + szL ps := by simp only [szL]
theorem sz_int0 (k : IntKind) (n : Int) : sz (.int k n) = 0 := by simp only [sz]
theorem sz_bool0 (b : Bool) : sz (.bool b) = 0 := by simp only [sz]
theorem sz_str0 (s : List UInt8) : sz (.str s) = s.length := by simp only [sz]
theorem szL_app : ∀ (l m : List PV), szL (l ++ m) = szL l + szL m
 | [], m => by rw [List.nil_append, szL_nil0, Nat.zero_add]
 | p :: l, m => by rw [List.cons_append, szL_cons0, szL_cons0, szL_app l m, Nat.add_assoc]
theorem szL_sub (l : List PV) (o n : Nat) : szL ((l.drop o).take n) ≤ szL l := by
 have h1 := szL_app (l.take o) (l.drop o)
 rw [List.take_append_drop] at h1
 have h2 := szL_app ((l.drop o).take n) ((l.drop o).drop n)
 rw [List.take_append_drop] at h2
 rw [h1, h2]
 exact Nat.le_trans (Nat.le_add_right _ _) (Nat.le_add_left _ _)
theorem szL_at : ∀ {l : List PV} {i : Nat} {p : PV}, l[i]? = some p → sz p ≤ szL l
 | [], _, _, h => by simp at h
 | q :: l, 0, p, h => by simp at h; subst h; rw [szL_cons0]; exact Nat.le_add_right _ _
 | q :: l, i + 1, p, h => by rw [szL_cons0]; exact Nat.le_trans (szL_at (l := l) (i := i) (by simpa using h)) (Nat.le_add_left _ _)
def Runs (x : Option (Ex × St)) (Q : Ex → St → Prop) : Prop :=
 match x with
 | some (e, σ) => Q e σ
 | none => False
theorem Runs.get {x : Option (Ex × St)} {Q : Ex → St → Prop} (h : Runs x Q) : ∃ e σ, x = some (e, σ) ∧ Q e σ := by
 unfold Runs at h
 split at h
 ·exact ⟨_, _, rfl, h⟩
 ·exact h.elim
theorem Runs_some {e : Ex} {σ : St} {Q : Ex → St → Prop} : Runs (some (e, σ)) Q = Q e σ := rfl
section
variable {ext : Nat → List V → Option V}
theorem szStr_loop {rows : List (List PV)} (hl : rows.length ≤ maxLen) (hr : ∀ r ∈ rows, ∃ s : List UInt8, r = [.str s] ∧ s.length ≤ maxLen) : ∀ (m k : Nat) (i : Int), i = k → k + m = rows.length → ∀ (left : Int), 0 ≤ left → left ≤ 1048576 → ∀ (x2 x3 x4 x6 x7 x8 x9 x10 x11 x12 x13 x14 x15 x16 x17 x18 x19 x20 x21 x22 x23 x24 x25 x26 x27 : V) (h : List AObj),
 Runs (loopL (exec (callL Ph ext) loopL b_laws_szStringS_0) ⟨(vlst rows :: vint .i64 left :: x2 :: x3 :: x4 :: vint .i64 i :: x6 :: x7 :: x8 :: x9 :: x10 :: x11 :: x12 :: x13 :: x14 :: x15 :: x16 :: x17 :: x18 :: x19 :: x20 :: x21 :: x22 :: x23 :: x24 :: x25 :: x26 :: x27 :: []), h⟩) fun e σ' => σ'.h = h ∧ σ'.t.length = 28 ∧ ((e = .exit 0 ∧ 0 ≤ less left (szRows (rows.drop k)) ∧ σ'.t[1]? = some (vint .i64 (less left (szRows (rows.drop k))))) ∨ (e = .ret ∧ less left (szRows (rows.drop k)) = -1 ∧ σ'.t[4]? = some (vint .i64 (-1)))) := by
 generalize hF : exec (callL Ph ext) loopL b_laws_szStringS_0 = F
 intro m
 induction m with
 | zero =>
  intro k i hi hk left h0 h1 x2 x3 x4 x6 x7 x8 x9 x10 x11 x12 x13 x14 x15 x16 x17 x18 x19 x20 x21 x22 x23 x24 x25 x26 x27 h
  subst hi
  have hk' : k = rows.length := by omega
  subst hk'
  have hl0 : less left (szRows (rows.drop rows.length)) = left := by simp [szRows, less]; omega
  rw [hl0, loopL_go0 hF]
  simp [b_laws_szStringS_0, binStr, h0, Runs_some]
 | succ m ih =>
  intro k i hi hk left h0 h1 x2 x3 x4 x6 x7 x8 x9 x10 x11 x12 x13 x14 x15 x16 x17 x18 x19 x20 x21 x22 x23 x24 x25 x26 x27 h
  subst hi
  have hlt : k < rows.length := by omega
  have hw := wrap_small (k := k) (by unfold maxLen at hl; omega)
  obtain ⟨s, hrk, hs⟩ := hr _ (List.getElem_mem hlt)
  unfold maxLen at hs
  have hw2 : IntKind.i64.wrap (left - (s.length : Int)) = left - (s.length : Int) := by rw [IntKind.wrap_i64]; omega
  rw [szRows_drop hlt, hrk]
  have hsz : szL [PV.str s] = s.length := by simp [szL, sz]
  rw [hsz]
  by_cases hneg : left < (s.length : Int)
  ·have e1 : less left (s.length + szRows (rows.drop (k + 1))) = -1 := by unfold less; rw [if_pos (by omega)]
   rw [e1, loopL_go0 hF]
   have hn : left - (s.length : Int) < 0 := by omega
   simp [b_laws_szStringS_0, binStr, hlt, hrk, hw, hw2, hn, Runs_some]
  ·have hn : ¬ left - (s.length : Int) < 0 := by omega
   have key := ih (k + 1) ((k : Int) + 1) (by omega) (by omega) (left - s.length) (by omega) (by omega)
   have e1 : less (left - s.length) (szRows (rows.drop (k + 1))) = less left (s.length + szRows (rows.drop (k + 1))) := by
    have : left - (s.length : Int) = less left s.length := by unfold less; rw [if_neg hneg]
    rw [this]; exact less_less (by rw [← this]; omega)
   rw [e1] at key
   clear ih
   rw [loopL_go0 hF]
   simp [b_laws_szStringS_0, binStr, hlt, hrk, hw, hw2, hn]
   exact key _ _ _ _ _ _ _ _ _ _ _ _ _ _ _ _ _ _ _ _ _ _ _ _ _ _
theorem szStringS_ok {rows : List (List PV)} (hl : rows.length ≤ maxLen) (hr : ∀ r ∈ rows, ∃ s : List UInt8, r = [.str s] ∧ s.length ≤ maxLen) {left : Int} (h0 : 0 ≤ left) (h1 : left ≤ 1048576) : callL Ph ext 200 [vlst rows, vint .i64 left] = some (vint .i64 (less left (sz (.lst rows)))) := by
 refine callL_fn (fn := f_laws_szStringS) rfl ?_
 have hw : IntKind.i64.wrap (left - rows.length) = left - rows.length := by unfold maxLen at hl; rw [IntKind.wrap_i64]; omega
 rw [sz_lst]
 by_cases hn : left < rows.length
 ·have hn' : left - (rows.length : Int) < 0 := by omega
  have e : less left (rows.length + szRows rows) = -1 := by unfold less; rw [if_pos (by omega)]
  rw [e]
  generalize hF : exec (callL Ph ext) loopL b_laws_szStringS_0 = F
  simp [f_laws_szStringS, binStr, hF, hw, hn']
 ·have hn' : ¬ left - (rows.length : Int) < 0 := by omega
  have hle : left - (rows.length : Int) = less left rows.length := by unfold less; rw [if_neg hn]
  obtain ⟨e, ⟨t', h'⟩, q1, q2, q5, q3⟩ := (szStr_loop (ext := ext) hl hr rows.length 0 0 rfl (by omega) (left - rows.length) (by omega) (by omega) (.tup []) (.tup []) (vint .i64 0) (vint .i64 left) (vlst rows) (vint .i64 rows.length) (vint .i64 (left - rows.length)) (vint .i64 (left - rows.length)) (vbool false) (.tup []) (.tup []) (.tup []) (.tup []) (.tup []) (.tup []) (.tup []) (.tup []) (.tup []) (.tup []) (.tup []) (.tup []) (.tup []) (.tup []) (.tup []) (.tup []) []).get
  simp only [List.drop_zero] at q3
  have hls : less (left - rows.length) (szRows rows) = less left (rows.length + szRows rows) := by rw [hle]; exact less_less (by rw [← hle]; omega)
  rw [hls] at q3
  simp at q5
  rcases q3 with ⟨rfl, _, q4⟩ | ⟨rfl, q6, q4⟩
  ·obtain ⟨_, q7⟩ := List.getElem?_eq_some_iff.1 q4
   simp [f_laws_szStringS, binStr, hw, hn', q1, q5, q7]
  ·obtain ⟨_, q7⟩ := List.getElem?_eq_some_iff.1 q4
   simp [f_laws_szStringS, binStr, hw, hn', q1, q5, q7, q6]
end
end Gi
