/- Records as bytes: how many (loops). -/
import Derived.Test.YtgpnnobfdcbgoaaGreatDoorGuo
import Derived.Test.YtgpnnobfdcbgoaaGreatDoorGul
namespace Gi
open Go Go.RowKit
set_option linter.unusedSimpArgs false
set_option linter.unusedVariables false
set_option maxHeartbeats 4000000
set_option maxRecDepth 4000

def recAdd (l : Nat) : List PV → Nat
  | [.str a, .int _ n] => l + uvB a.length + a.length + uvB n
  | _ => l
def recL (rows : List (List PV)) : Nat := cond (isRec rows) (rows.foldl recAdd (uvB rows.length)) 0
theorem anyK_false {p : Nat → Bool} : ∀ {m k : Nat}, anyK p m k = false → ∀ j, k ≤ j → j < k + m → p j = false
  | 0, k, _, j, h1, h2 => absurd h2 (by omega)
  | m + 1, k, h, j, h1, h2 => by
    simp only [anyK, Bool.or_eq_false_iff] at h
    by_cases e : j = k
    · subst e; exact h.1
    · exact anyK_false h.2 j (by omega) (by omega)
theorem isRec_names {rows : List (List PV)} (h : isRec rows = true) (hr : ∀ r ∈ rows, HasL t_FieldS r) : rows.length ≤ 6 ∧ ∀ r ∈ rows, ∃ a n, r = [.str a, .int .i64 n] ∧ a.length ≤ 8 := by
  unfold isRec at h
  simp only [Bool.and_eq_true, Bool.not_eq_true', decide_eq_true_eq] at h
  refine ⟨by omega, fun r hm => ?_⟩
  obtain ⟨a, n, hrk, ha⟩ := field_row (hr r hm)
  refine ⟨a, n, hrk, ?_⟩
  obtain ⟨j, hj, e⟩ := List.getElem_of_mem hm
  have q := anyK_false h.1 j (by omega) (by omega)
  have g1 : fName rows[j]? = a := by rw [List.getElem?_eq_getElem hj, e, hrk]; rfl
  simp only [badR, g1, Bool.or_eq_false_iff, Bool.not_eq_false'] at q
  have q2 := q.1.1
  unfold isName at q2
  simp only [Bool.and_eq_true, decide_eq_true_eq] at q2
  omega
theorem ier_loop {rows : List (List PV)} (hl : rows.length ≤ 6) (hr : ∀ r ∈ rows, ∃ a n, r = [.str a, .int .i64 n] ∧ a.length ≤ 8) : ∀ (m k : Nat) (i : Int), i = k → k + m = rows.length → ∀ (es : List (List PV)), ones es = true → es.length + 20 * m ≤ 1000 → ∀ (x0 x2 x4 x5 x6 x7 x8 x9 x10 x11 x12 x13 x14 x18 x19 x20 x21 x22 x23 x24 x25 x26 x27 x28 x29 x30 : V) (h : List AObj) (σ : St), σ = ⟨(x0 :: .one (.ptr 0 0 0) :: x2 :: vlst es :: x4 :: x5 :: x6 :: x7 :: x8 :: x9 :: x10 :: x11 :: x12 :: x13 :: x14 :: vlst rows :: vint .i64 rows.length :: vint .i64 i :: x18 :: x19 :: x20 :: x21 :: x22 :: x23 :: x24 :: x25 :: x26 :: x27 :: x28 :: x29 :: x30 :: []), .box [.pv (.lst rows)] :: h⟩ →
    Runs (loopL (exec (callL Ph extF) loopL b_impl_EncodeRecord_0) σ) fun e σ' => e = .exit 0 ∧ ∃ (es' : List (List PV)), (ones es' = true ∧ es'.length = (rows.drop k).foldl recAdd es.length) ∧ ∃ (x0 x2 x4 x5 x6 x7 x8 x9 x10 x11 x12 x13 x14 x18 x19 x20 x21 x22 x23 x24 x25 x26 x27 x28 x29 x30 : V) (h' : List AObj), σ' = ⟨(x0 :: .one (.ptr 0 0 0) :: x2 :: vlst es' :: x4 :: x5 :: x6 :: x7 :: x8 :: x9 :: x10 :: x11 :: x12 :: x13 :: x14 :: vlst rows :: vint .i64 rows.length :: vint .i64 (rows.length : Nat) :: x18 :: x19 :: x20 :: x21 :: x22 :: x23 :: x24 :: x25 :: x26 :: x27 :: x28 :: x29 :: x30 :: []), .box [.pv (.lst rows)] :: h'⟩ := by
  generalize hF : exec (callL Ph extF) loopL b_impl_EncodeRecord_0 = F
  intro m
  induction m with
  | zero =>
    intro k i hi hk es ho hb x0 x2 x4 x5 x6 x7 x8 x9 x10 x11 x12 x13 x14 x18 x19 x20 x21 x22 x23 x24 x25 x26 x27 x28 x29 x30 h σ hσ
    subst hi hσ
    have hk' : k = rows.length := by omega
    subst hk'
    rw [loopL_go0 hF]
    simp [b_impl_EncodeRecord_0, start, execL, exec, execOps, stepO, wants, fop, eop, Opd.ev, put, V.cells, plain, loadV, cut, isInt, isStr, isBool, bin, binInt, binStr_neq, binStr_eql, un, asList, L.view, viewArgs, V.view, viewL, done, finish, resultsOf, resultOf, comps, comp, giveLs, giveL, arrsOf, V.flat, L.flat, setV, setL, storeV, putAt, thaw, thawL, freezeVs, freezeLs, freezeL, V.mut, L.mut, elemPtr, viewRows, Runs_some]
    exact ho
  | succ m ih =>
    intro k i hi hk es ho hb x0 x2 x4 x5 x6 x7 x8 x9 x10 x11 x12 x13 x14 x18 x19 x20 x21 x22 x23 x24 x25 x26 x27 x28 x29 x30 h σ hσ
    subst hi hσ
    have hlt : k < rows.length := by omega
    have hw := wrap_small (k := k) (by omega)
    obtain ⟨a, n, hrk, ha⟩ := hr _ (List.getElem_mem hlt)
    obtain ⟨es1, e1, o1, l1⟩ := impl_AppendBytes_ok ho (ofBytes_ones a) (by omega) (by rw [ofBytes_len]; omega)
    rw [ofBytes_len] at l1
    have u1 := uvB_le a.length
    have u2 := uvB_le n
    obtain ⟨es2, e2, o2, l2⟩ := impl_AppendUvarint_ok o1 (by omega) n
    have key := ih (k + 1) ((k : Int) + 1) (by omega) (by omega) es2 o2 (by omega)
    clear ih
    have hs : recAdd es.length rows[k] = es2.length := by rw [hrk, l2, l1]; rfl
    rw [List.drop_eq_getElem_cons hlt, List.foldl_cons, hs]
    generalize (rows.drop (k + 1)).foldl recAdd es2.length = B at key ⊢
    rw [loopL_go0 hF]
    simp [b_impl_EncodeRecord_0, start, execL, exec, execOps, stepO, wants, fop, eop, Opd.ev, put, V.cells, plain, loadV, cut, isInt, isStr, isBool, bin, binInt, binStr_neq, binStr_eql, un, asList, L.view, viewArgs, V.view, viewL, done, finish, resultsOf, resultOf, comps, comp, giveLs, giveL, arrsOf, V.flat, L.flat, setV, setL, storeV, putAt, thaw, thawL, freezeVs, freezeLs, freezeL, V.mut, L.mut, elemPtr, viewRows, hlt, hw, hrk, e1, e2]
    exact key _ _ _ _ _ _ _ _ _ _ _ _ _ _ _ _ _ _ _ _ _ _ _ _ _ _ _ _ rfl
theorem ser_loop {rows : List (List PV)} (hl : rows.length ≤ 6) (hr : ∀ r ∈ rows, ∃ a n, r = [.str a, .int .i64 n] ∧ a.length ≤ 8) : ∀ (m k : Nat) (i : Int), i = k → k + m = rows.length → ∀ (es : List (List PV)), ones es = true → es.length + 20 * m ≤ 1000 → ∀ (x0 x2 x5 x6 x7 x8 x9 x10 x11 x12 x13 x14 x15 x16 x17 x18 x19 x20 x21 x22 x23 x24 x25 x26 x27 x28 x29 x30 x31 x32 x33 x34 x35 x36 x37 : V) (h : List AObj) (σ : St), σ = ⟨(x0 :: .one (.ptr 0 0 0) :: x2 :: vlst es :: vint .i64 i :: x5 :: x6 :: x7 :: x8 :: x9 :: x10 :: x11 :: x12 :: x13 :: x14 :: x15 :: x16 :: x17 :: x18 :: x19 :: x20 :: x21 :: x22 :: x23 :: x24 :: x25 :: x26 :: x27 :: x28 :: x29 :: x30 :: x31 :: x32 :: x33 :: x34 :: x35 :: x36 :: x37 :: []), .box [.pv (.lst rows)] :: h⟩ →
    Runs (loopL (exec (callL Ph extF) loopL b_spec_EncodeRecord_0) σ) fun e σ' => e = .exit 0 ∧ ∃ (es' : List (List PV)), (ones es' = true ∧ es'.length = (rows.drop k).foldl recAdd es.length) ∧ ∃ (x0 x2 x5 x6 x7 x8 x9 x10 x11 x12 x13 x14 x15 x16 x17 x18 x19 x20 x21 x22 x23 x24 x25 x26 x27 x28 x29 x30 x31 x32 x33 x34 x35 x36 x37 : V) (h' : List AObj), σ' = ⟨(x0 :: .one (.ptr 0 0 0) :: x2 :: vlst es' :: vint .i64 (rows.length : Nat) :: x5 :: x6 :: x7 :: x8 :: x9 :: x10 :: x11 :: x12 :: x13 :: x14 :: x15 :: x16 :: x17 :: x18 :: x19 :: x20 :: x21 :: x22 :: x23 :: x24 :: x25 :: x26 :: x27 :: x28 :: x29 :: x30 :: x31 :: x32 :: x33 :: x34 :: x35 :: x36 :: x37 :: []), .box [.pv (.lst rows)] :: h'⟩ := by
  generalize hF : exec (callL Ph extF) loopL b_spec_EncodeRecord_0 = F
  intro m
  induction m with
  | zero =>
    intro k i hi hk es ho hb x0 x2 x5 x6 x7 x8 x9 x10 x11 x12 x13 x14 x15 x16 x17 x18 x19 x20 x21 x22 x23 x24 x25 x26 x27 x28 x29 x30 x31 x32 x33 x34 x35 x36 x37 h σ hσ
    subst hi hσ
    have hk' : k = rows.length := by omega
    subst hk'
    rw [loopL_go0 hF]
    simp [b_spec_EncodeRecord_0, start, execL, exec, execOps, stepO, wants, fop, eop, Opd.ev, put, V.cells, plain, loadV, cut, isInt, isStr, isBool, bin, binInt, binStr_neq, binStr_eql, un, asList, L.view, viewArgs, V.view, viewL, done, finish, resultsOf, resultOf, comps, comp, giveLs, giveL, arrsOf, V.flat, L.flat, setV, setL, storeV, putAt, thaw, thawL, freezeVs, freezeLs, freezeL, V.mut, L.mut, elemPtr, viewRows, Runs_some]
    exact ho
  | succ m ih =>
    intro k i hi hk es ho hb x0 x2 x5 x6 x7 x8 x9 x10 x11 x12 x13 x14 x15 x16 x17 x18 x19 x20 x21 x22 x23 x24 x25 x26 x27 x28 x29 x30 x31 x32 x33 x34 x35 x36 x37 h σ hσ
    subst hi hσ
    have hlt : k < rows.length := by omega
    have hw := wrap_small (k := k) (by omega)
    obtain ⟨a, n, hrk, ha⟩ := hr _ (List.getElem_mem hlt)
    obtain ⟨es1, e1, o1, l1⟩ := spec_AppendBytes_ok ho (ofBytes_ones a) (by omega) (by rw [ofBytes_len]; omega)
    rw [ofBytes_len] at l1
    have u1 := uvB_le a.length
    have u2 := uvB_le n
    obtain ⟨es2, e2, o2, l2⟩ := spec_AppendUvarint_ok o1 (by omega) n
    have key := ih (k + 1) ((k : Int) + 1) (by omega) (by omega) es2 o2 (by omega)
    clear ih
    have hs : recAdd es.length rows[k] = es2.length := by rw [hrk, l2, l1]; rfl
    rw [List.drop_eq_getElem_cons hlt, List.foldl_cons, hs]
    generalize (rows.drop (k + 1)).foldl recAdd es2.length = B at key ⊢
    rw [loopL_go0 hF]
    simp [b_spec_EncodeRecord_0, start, execL, exec, execOps, stepO, wants, fop, eop, Opd.ev, put, V.cells, plain, loadV, cut, isInt, isStr, isBool, bin, binInt, binStr_neq, binStr_eql, un, asList, L.view, viewArgs, V.view, viewL, done, finish, resultsOf, resultOf, comps, comp, giveLs, giveL, arrsOf, V.flat, L.flat, setV, setL, storeV, putAt, thaw, thawL, freezeVs, freezeLs, freezeL, V.mut, L.mut, elemPtr, viewRows, hlt, hw, hrk, e1, e2]
    exact key _ _ _ _ _ _ _ _ _ _ _ _ _ _ _ _ _ _ _ _ _ _ _ _ _ _ _ _ _ _ _ _ _ _ _ _ _ rfl
end Gi
