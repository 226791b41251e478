/- What the formatting functions compute, II: keys and items. -/
import Derived.Test.YthhkaabllddhdaaGreatGtc
namespace Gi
open Go Go.RowKit
set_option linter.unusedVariables false
set_option linter.unusedSimpArgs false

theorem arrsOf_one (p : PV) : arrsOf [L.pv p] = [] := rfl
theorem arrsOf_nil : arrsOf [] = [] := rfl

def isKeyB (a b : Int) (s : List UInt8) : Bool := (decide (1 ≤ a) && decide (a ≤ 3)) && (decide (-1000000000000 ≤ b) && decide (b ≤ 1000000000000)) && (!(a == 2) || b == 0) && keyText s && (!(a == 1) || s == [])

set_option maxHeartbeats 2000000 in
theorem impl_IsKey_ok {a b : Int} {s : List UInt8} (hl : s.length ≤ maxLen) : callL Ph extF 67 [.agg [.pv (.int .i64 a), .pv (.int .i64 b), .pv (.str s)]] = some (vbool (isKeyB a b s)) := by
  have e1 := impl_InRange_ok a 1 3
  have e2 := impl_InRange_ok b (-1000000000000) 1000000000000
  have e3 := impl_isKeyText_ok hl
  have n1 : (b != 0) = !(b == 0) := rfl
  unfold isKeyB
  generalize (decide (1 ≤ a) && decide (a ≤ 3)) = A at e1 ⊢
  generalize (decide (-1000000000000 ≤ b) && decide (b ≤ 1000000000000)) = B at e2 ⊢
  generalize keyText s = E at e3 ⊢
  generalize hC : (a == 2) = C
  generalize hD : (b == 0) = D at n1
  generalize hF : (a == 1) = F
  generalize hG : (s == []) = G
  refine callL_fn (fn := f_impl_IsKey) rfl ?_
  cases A
  · simp [f_impl_IsKey, start, execL, exec, execOps, stepO, wants, fop, eop, Opd.ev, put, V.cells, plain, loadV, cut, isInt, isStr, isBool, bin, binInt, binStr_neq, binStr_eql, un, asList, L.view, viewArgs, V.view, viewL, done, finish, resultsOf, resultOf, comps, comp, giveLs, giveL, arrsOf, V.flat, L.flat, setV, setL, storeV, putAt, thaw, thawL, freezeVs, freezeLs, freezeL, V.mut, L.mut, elemPtr, viewRows, e1]
  cases B
  · simp [f_impl_IsKey, start, execL, exec, execOps, stepO, wants, fop, eop, Opd.ev, put, V.cells, plain, loadV, cut, isInt, isStr, isBool, bin, binInt, binStr_neq, binStr_eql, un, asList, L.view, viewArgs, V.view, viewL, done, finish, resultsOf, resultOf, comps, comp, giveLs, giveL, arrsOf, V.flat, L.flat, setV, setL, storeV, putAt, thaw, thawL, freezeVs, freezeLs, freezeL, V.mut, L.mut, elemPtr, viewRows, e1, e2]
  cases E
  · simp [f_impl_IsKey, start, execL, exec, execOps, stepO, wants, fop, eop, Opd.ev, put, V.cells, plain, loadV, cut, isInt, isStr, isBool, bin, binInt, binStr_neq, binStr_eql, un, asList, L.view, viewArgs, V.view, viewL, done, finish, resultsOf, resultOf, comps, comp, giveLs, giveL, arrsOf, V.flat, L.flat, setV, setL, storeV, putAt, thaw, thawL, freezeVs, freezeLs, freezeL, V.mut, L.mut, elemPtr, viewRows, e1, e2, e3]
  cases C <;> cases D <;> cases F <;> cases G <;> simp [f_impl_IsKey, start, execL, exec, execOps, stepO, wants, fop, eop, Opd.ev, put, V.cells, plain, loadV, cut, isInt, isStr, isBool, bin, binInt, binStr_neq, binStr_eql, un, asList, L.view, viewArgs, V.view, viewL, done, finish, resultsOf, resultOf, comps, comp, giveLs, giveL, arrsOf, V.flat, L.flat, setV, setL, storeV, putAt, thaw, thawL, freezeVs, freezeLs, freezeL, V.mut, L.mut, elemPtr, viewRows, e1, e2, e3, hC, hF, hG, n1]

set_option maxHeartbeats 2000000 in
theorem spec_IsKey_ok {a b : Int} {s : List UInt8} (hl : s.length ≤ maxLen) : callL Ph extF 65 [.agg [.pv (.int .i64 a), .pv (.int .i64 b), .pv (.str s)]] = some (vbool (isKeyB a b s)) := by
  have e1 := spec_l1In_ok a 1 3
  have e2 := spec_l1In_ok b (-1000000000000) 1000000000000
  have e3 := spec_l4Text_ok hl
  have n1 : (a != 2) = !(a == 2) := rfl
  have n2 : (a != 1) = !(a == 1) := rfl
  unfold isKeyB
  generalize (decide (1 ≤ a) && decide (a ≤ 3)) = A at e1 ⊢
  generalize (decide (-1000000000000 ≤ b) && decide (b ≤ 1000000000000)) = B at e2 ⊢
  generalize keyText s = E at e3 ⊢
  generalize hC : (a == 2) = C at n1
  generalize hD : (b == 0) = D
  generalize hF : (a == 1) = F at n2
  generalize hG : (s == []) = G
  refine callL_fn (fn := f_spec_IsKey) rfl ?_
  cases A
  · simp [f_spec_IsKey, start, execL, exec, execOps, stepO, wants, fop, eop, Opd.ev, put, V.cells, plain, loadV, cut, isInt, isStr, isBool, bin, binInt, binStr_neq, binStr_eql, un, asList, L.view, viewArgs, V.view, viewL, done, finish, resultsOf, resultOf, comps, comp, giveLs, giveL, arrsOf, V.flat, L.flat, setV, setL, storeV, putAt, thaw, thawL, freezeVs, freezeLs, freezeL, V.mut, L.mut, elemPtr, viewRows, e1]
  cases B
  · simp [f_spec_IsKey, start, execL, exec, execOps, stepO, wants, fop, eop, Opd.ev, put, V.cells, plain, loadV, cut, isInt, isStr, isBool, bin, binInt, binStr_neq, binStr_eql, un, asList, L.view, viewArgs, V.view, viewL, done, finish, resultsOf, resultOf, comps, comp, giveLs, giveL, arrsOf, V.flat, L.flat, setV, setL, storeV, putAt, thaw, thawL, freezeVs, freezeLs, freezeL, V.mut, L.mut, elemPtr, viewRows, e1, e2]
  cases C <;> cases D <;> cases E <;> first | (simp [f_spec_IsKey, start, execL, exec, execOps, stepO, wants, fop, eop, Opd.ev, put, V.cells, plain, loadV, cut, isInt, isStr, isBool, bin, binInt, binStr_neq, binStr_eql, un, asList, L.view, viewArgs, V.view, viewL, done, finish, resultsOf, resultOf, comps, comp, giveLs, giveL, arrsOf, V.flat, L.flat, setV, setL, storeV, putAt, thaw, thawL, freezeVs, freezeLs, freezeL, V.mut, L.mut, elemPtr, viewRows, e1, e2, e3, n1, hD]; done) | (cases F <;> cases G <;> simp [f_spec_IsKey, start, execL, exec, execOps, stepO, wants, fop, eop, Opd.ev, put, V.cells, plain, loadV, cut, isInt, isStr, isBool, bin, binInt, binStr_neq, binStr_eql, un, asList, L.view, viewArgs, V.view, viewL, done, finish, resultsOf, resultOf, comps, comp, giveLs, giveL, arrsOf, V.flat, L.flat, setV, setL, storeV, putAt, thaw, thawL, freezeVs, freezeLs, freezeL, V.mut, L.mut, elemPtr, viewRows, e1, e2, e3, n1, n2, hD, hG])

def fmtKey (a b : Int) (s : List UInt8) : List UInt8 := if isKeyB a b s then (if a = 1 then Lib.itoa b else if a = 2 then 39 :: s else Lib.itoa b ++ 39 :: s) else []

theorem isKeyB_len {a b : Int} {s : List UInt8} (h : isKeyB a b s = true) : s.length ≤ 12 := by
  simp [isKeyB, keyText] at h
  omega
theorem itoa_le {n : Int} (h : Has (.int .i64) (.int .i64 n)) : (Lib.itoa n).length ≤ 21 := Lib.itoa_length_le n (i64_range h).1 (i64_range h).2

theorem fmtKey_len {a b : Int} {s : List UInt8} (hb : Has (.int .i64) (.int .i64 b)) : (fmtKey a b s).length ≤ 100 := by
  have h1 := itoa_le hb
  unfold fmtKey
  split
  · rename_i h
    have h2 := isKeyB_len h
    split
    · omega
    · split <;> simp <;> omega
  · simp

theorem impl_FormatKey_ok {a b : Int} {s : List UInt8} (hb : Has (.int .i64) (.int .i64 b)) (hl : s.length ≤ maxLen) : callL Ph extF 36 [.agg [.pv (.int .i64 a), .pv (.int .i64 b), .pv (.str s)]] = some (vstr (fmtKey a b s)) := by
  have e1 := impl_IsKey_ok (a := a) (b := b) hl
  have e2 := impl_FormatInt_ok hb
  have l1 := itoa_le hb
  refine callL_fn (fn := f_impl_FormatKey) rfl ?_
  unfold fmtKey
  by_cases hk : isKeyB a b s = true
  · have l2 := isKeyB_len hk
    rw [hk] at e1
    rw [if_pos hk]
    by_cases h1 : a = 1
    · subst h1
      simp [f_impl_FormatKey, start, execL, exec, execOps, stepO, wants, fop, eop, Opd.ev, put, V.cells, plain, loadV, cut, isInt, isStr, isBool, bin, binInt, binStr_neq, binStr_eql, un, asList, L.view, viewArgs, V.view, viewL, done, finish, resultsOf, resultOf, comps, comp, giveLs, giveL, arrsOf, V.flat, L.flat, setV, setL, storeV, putAt, thaw, thawL, freezeVs, freezeLs, freezeL, V.mut, L.mut, elemPtr, viewRows, e1, e2]
    · have h1' : (a == 1) = false := by simpa using h1
      by_cases h2 : a = 2
      · subst h2
        simp (disch := (try simp only [List.length_append, List.length_cons, List.length_nil]); omega) [f_impl_FormatKey, start, execL, exec, execOps, stepO, wants, fop, eop, Opd.ev, put, V.cells, plain, loadV, cut, isInt, isStr, isBool, bin, binInt, binStr_neq, binStr_eql, un, asList, L.view, viewArgs, V.view, viewL, done, finish, resultsOf, resultOf, comps, comp, giveLs, giveL, arrsOf_one, arrsOf_nil, V.flat, L.flat, setV, setL, storeV, putAt, thaw, thawL, freezeVs, freezeLs, freezeL, V.mut, L.mut, elemPtr, viewRows, e1, e2, binStr_add]
      · have h2' : (a == 2) = false := by simpa using h2
        simp (disch := (try simp only [List.length_append, List.length_cons, List.length_nil]); omega) [f_impl_FormatKey, start, execL, exec, execOps, stepO, wants, fop, eop, Opd.ev, put, V.cells, plain, loadV, cut, isInt, isStr, isBool, bin, binInt, binStr_neq, binStr_eql, un, asList, L.view, viewArgs, V.view, viewL, done, finish, resultsOf, resultOf, comps, comp, giveLs, giveL, arrsOf_one, arrsOf_nil, V.flat, L.flat, setV, setL, storeV, putAt, thaw, thawL, freezeVs, freezeLs, freezeL, V.mut, L.mut, elemPtr, viewRows, e1, e2, h1', h2', h1, h2, binStr_add]
  · have hk' : isKeyB a b s = false := by simpa using hk
    rw [hk'] at e1
    simp [f_impl_FormatKey, start, execL, exec, execOps, stepO, wants, fop, eop, Opd.ev, put, V.cells, plain, loadV, cut, isInt, isStr, isBool, bin, binInt, binStr_neq, binStr_eql, un, asList, L.view, viewArgs, V.view, viewL, done, finish, resultsOf, resultOf, comps, comp, giveLs, giveL, arrsOf, V.flat, L.flat, setV, setL, storeV, putAt, thaw, thawL, freezeVs, freezeLs, freezeL, V.mut, L.mut, elemPtr, viewRows, e1, hk']

theorem spec_FormatKey_ok {a b : Int} {s : List UInt8} (hb : Has (.int .i64) (.int .i64 b)) (hl : s.length ≤ maxLen) : callL Ph extF 32 [.agg [.pv (.int .i64 a), .pv (.int .i64 b), .pv (.str s)]] = some (vstr (fmtKey a b s)) := by
  have e1 := spec_IsKey_ok (a := a) (b := b) hl
  have e2 := spec_FormatInt_ok hb
  have l1 := itoa_le hb
  refine callL_fn (fn := f_spec_FormatKey) rfl ?_
  unfold fmtKey
  by_cases hk : isKeyB a b s = true
  · have l2 := isKeyB_len hk
    rw [hk] at e1
    rw [if_pos hk]
    by_cases h1 : a = 1
    · subst h1
      simp [f_spec_FormatKey, start, execL, exec, execOps, stepO, wants, fop, eop, Opd.ev, put, V.cells, plain, loadV, cut, isInt, isStr, isBool, bin, binInt, binStr_neq, binStr_eql, un, asList, L.view, viewArgs, V.view, viewL, done, finish, resultsOf, resultOf, comps, comp, giveLs, giveL, arrsOf, V.flat, L.flat, setV, setL, storeV, putAt, thaw, thawL, freezeVs, freezeLs, freezeL, V.mut, L.mut, elemPtr, viewRows, e1, e2]
    · have h1' : (a != 1) = true := by simpa using h1
      by_cases h2 : a = 2
      · subst h2
        simp (disch := (try simp only [List.length_append, List.length_cons, List.length_nil]); omega) [f_spec_FormatKey, start, execL, exec, execOps, stepO, wants, fop, eop, Opd.ev, put, V.cells, plain, loadV, cut, isInt, isStr, isBool, bin, binInt, binStr_neq, binStr_eql, un, asList, L.view, viewArgs, V.view, viewL, done, finish, resultsOf, resultOf, comps, comp, giveLs, giveL, arrsOf_one, arrsOf_nil, V.flat, L.flat, setV, setL, storeV, putAt, thaw, thawL, freezeVs, freezeLs, freezeL, V.mut, L.mut, elemPtr, viewRows, e1, e2, binStr_add]
      · have h2' : (a != 2) = true := by simpa using h2
        simp (disch := (try simp only [List.length_append, List.length_cons, List.length_nil]); omega) [f_spec_FormatKey, start, execL, exec, execOps, stepO, wants, fop, eop, Opd.ev, put, V.cells, plain, loadV, cut, isInt, isStr, isBool, bin, binInt, binStr_neq, binStr_eql, un, asList, L.view, viewArgs, V.view, viewL, done, finish, resultsOf, resultOf, comps, comp, giveLs, giveL, arrsOf_one, arrsOf_nil, V.flat, L.flat, setV, setL, storeV, putAt, thaw, thawL, freezeVs, freezeLs, freezeL, V.mut, L.mut, elemPtr, viewRows, e1, e2, h1', h2', h1, h2, binStr_add]
  · have hk' : isKeyB a b s = false := by simpa using hk
    rw [hk'] at e1
    simp [f_spec_FormatKey, start, execL, exec, execOps, stepO, wants, fop, eop, Opd.ev, put, V.cells, plain, loadV, cut, isInt, isStr, isBool, bin, binInt, binStr_neq, binStr_eql, un, asList, L.view, viewArgs, V.view, viewL, done, finish, resultsOf, resultOf, comps, comp, giveLs, giveL, arrsOf, V.flat, L.flat, setV, setL, storeV, putAt, thaw, thawL, freezeVs, freezeLs, freezeL, V.mut, L.mut, elemPtr, viewRows, e1, hk']

/-! ### Items -/
def fmtFields : List (List PV) → List UInt8
  | [] => []
  | r :: rs => (match r with
    | [.str nm, .int _ v] => 32 :: (nm ++ 61 :: Lib.itoa v)
    | _ => []) ++ fmtFields rs
theorem fmtFields_cons (nm : List UInt8) (k : IntKind) (v : Int) (rs : List (List PV)) : fmtFields ([.str nm, .int k v] :: rs) = 32 :: (nm ++ 61 :: (Lib.itoa v ++ fmtFields rs)) := by
  simp [fmtFields]

abbrev tFields : List PTy := [.str, .int .i64]
theorem field_cells {r : List PV} (h : HasL tFields r) : ∃ nm v, r = [.str nm, .int .i64 v] ∧ nm.length ≤ maxLen ∧ Has (.int .i64) (.int .i64 v) := by
  obtain ⟨p0, r1, rfl, g0, k1⟩ := HasL_cons h
  obtain ⟨p1, r2, rfl, g1, k2⟩ := HasL_cons k1
  obtain rfl := HasL_nil k2
  obtain ⟨c0, rfl⟩ := Has_str g0
  obtain ⟨c1, rfl⟩ := Has_int g1
  exact ⟨c0, c1, rfl, g0, g1⟩
theorem fmtFields_len : ∀ {rows : List (List PV)}, (∀ r ∈ rows, HasL tFields r) → (fmtFields rows).length ≤ 23 * rows.length + szRows rows
  | [], _ => by simp [fmtFields]
  | r :: rows, h => by
    obtain ⟨nm, v, rfl, h1, h2⟩ := field_cells (h r (List.mem_cons_self))
    have h3 := fmtFields_len (fun r m => h r (List.mem_cons_of_mem _ m))
    have h4 := itoa_le h2
    rw [fmtFields_cons]
    simp only [List.length_cons, List.length_append, szRows, szL, sz]
    omega

theorem ifi_loop {rows : List (List PV)} (hl : rows.length ≤ maxLen) (hr : ∀ r ∈ rows, HasL tFields r) : ∀ (m k : Nat) (i : Int), i = k → k + m = rows.length → ∀ (acc : List UInt8), acc.length + (fmtFields (rows.drop k)).length ≤ 1000000000 → ∀ (x0 x1 x2 x4 x5 x6 x7 x8 x9 x10 x14 x15 x16 x17 x18 x19 x20 x21 x22 x23 x24 x25 x26 x27 x28 : V) (h : List AObj), ∃ σ', loopL (exec (callL Ph extF) loopL b_impl_FormatItem_0) ⟨(x0 :: x1 :: x2 :: vstr acc :: x4 :: x5 :: x6 :: x7 :: x8 :: x9 :: x10 :: vlst rows :: vint .i64 rows.length :: vint .i64 i :: x14 :: x15 :: x16 :: x17 :: x18 :: x19 :: x20 :: x21 :: x22 :: x23 :: x24 :: x25 :: x26 :: x27 :: x28 :: []), h⟩ = some (.exit 0, σ') ∧ σ'.t.length = 29 ∧ σ'.t[3]? = some (vstr (acc ++ fmtFields (rows.drop k))) := by
  generalize hF : exec (callL Ph extF) loopL b_impl_FormatItem_0 = F
  intro m
  induction m with
  | zero =>
    intro k i hi hk acc ha x0 x1 x2 x4 x5 x6 x7 x8 x9 x10 x14 x15 x16 x17 x18 x19 x20 x21 x22 x23 x24 x25 x26 x27 x28 h
    subst hi
    have hk' : k = rows.length := by omega
    subst hk'
    rw [loopL_go hF]
    simp [b_impl_FormatItem_0, start, execL, exec, execOps, stepO, wants, fop, eop, Opd.ev, put, V.cells, plain, loadV, cut, isInt, isStr, isBool, bin, binInt, binStr_neq, binStr_eql, un, asList, L.view, viewArgs, V.view, viewL, done, finish, resultsOf, resultOf, comps, comp, giveLs, giveL, arrsOf, V.flat, L.flat, setV, setL, storeV, putAt, thaw, thawL, freezeVs, freezeLs, freezeL, V.mut, L.mut, elemPtr, viewRows, fmtFields]
  | succ m ih =>
    intro k i hi hk acc ha x0 x1 x2 x4 x5 x6 x7 x8 x9 x10 x14 x15 x16 x17 x18 x19 x20 x21 x22 x23 x24 x25 x26 x27 x28 h
    subst hi
    have hlt : k < rows.length := by omega
    have hw := wrap_small (k := k) (by unfold maxLen at hl; omega)
    obtain ⟨nm, v, hrk, g1, g2⟩ := field_cells (hr _ (List.getElem_mem hlt))
    rw [List.drop_eq_getElem_cons hlt, hrk, fmtFields_cons] at ha ⊢
    simp only [List.length_cons, List.length_append] at ha
    have e1 := impl_FormatInt_ok g2
    have key := ih (k + 1) ((k : Int) + 1) (by omega) (by omega) (acc ++ 32 :: (nm ++ 61 :: Lib.itoa v)) (by simp only [List.length_cons, List.length_append]; omega)
    clear ih
    generalize fmtFields (rows.drop (k + 1)) = R at key ha ⊢
    rw [loopL_go hF]
    simp (disch := (try simp only [List.length_append, List.length_cons, List.length_nil]); omega) [b_impl_FormatItem_0, start, execL, exec, execOps, stepO, wants, fop, eop, Opd.ev, put, V.cells, plain, loadV, cut, isInt, isStr, isBool, bin, binInt, binStr_neq, binStr_eql, un, asList, L.view, viewArgs, V.view, viewL, done, finish, resultsOf, resultOf, comps, comp, giveLs, giveL, arrsOf_one, arrsOf_nil, V.flat, L.flat, setV, setL, storeV, putAt, thaw, thawL, freezeVs, freezeLs, freezeL, V.mut, L.mut, elemPtr, viewRows, hlt, hrk, hw, e1, binStr_add]
    simp at key
    exact key _ _ _ _ _ _ _ _ _ _ _ _ _ _ _ _ _ _ _ _ _ _ _ _ _ _

theorem impl_FormatItem_ok {a b : Int} {s : List UInt8} {rows : List (List PV)} (hb : Has (.int .i64) (.int .i64 b)) (hs : s.length ≤ maxLen) (hr : Has (.lst tFields) (.lst rows)) (hz : sz (.lst rows) ≤ 1048576) : callL Ph extF 8 [.agg [.pv (.int .i64 a), .pv (.int .i64 b), .pv (.str s), .pv (.lst rows)]] = some (vstr (fmtKey a b s ++ fmtFields rows)) := by
  have e1 := impl_FormatKey_ok (a := a) hb hs
  have l1 := fmtKey_len (a := a) (s := s) hb
  obtain ⟨hl, hr'⟩ := Has_rows hr
  have l2 := fmtFields_len hr'
  rw [sz_lst] at hz
  obtain ⟨⟨t', h'⟩, q1, q2, q3⟩ := ifi_loop hl hr' rows.length 0 0 rfl (by omega) (fmtKey a b s) (by rw [List.drop_zero]; omega) (.agg [.pv (.int .i64 a), .pv (.int .i64 b), .pv (.str s), .pv (.lst rows)]) (.one (.ptr 0 0 0)) (vstr []) (.tup []) (.tup []) (.one (.ptr 0 0 0)) (.agg [.pv (.int .i64 a), .pv (.int .i64 b), .pv (.str s)]) (vstr (fmtKey a b s)) (.one (.ptr 0 0 3)) (.one (.ptr 0 0 3)) (.tup []) (.tup []) (.tup []) (.tup []) (.tup []) (.tup []) (.tup []) (.tup []) (.tup []) (.tup []) (.tup []) (.tup []) (.tup []) (.tup []) (.tup []) [.box [.pv (.int .i64 a), .pv (.int .i64 b), .pv (.str s), .pv (.lst rows)]]
  simp only [List.drop_zero] at q2 q3
  obtain ⟨_, q4⟩ := List.getElem?_eq_some_iff.1 q3
  refine callL_fn (fn := f_impl_FormatItem) rfl ?_
  simp [f_impl_FormatItem, start, execL, exec, execOps, stepO, wants, fop, eop, Opd.ev, put, V.cells, plain, loadV, cut, isInt, isStr, isBool, bin, binInt, binStr_neq, binStr_eql, un, asList, L.view, viewArgs, V.view, viewL, done, finish, resultsOf, resultOf, comps, comp, giveLs, giveL, arrsOf, V.flat, L.flat, setV, setL, storeV, putAt, thaw, thawL, freezeVs, freezeLs, freezeL, V.mut, L.mut, elemPtr, viewRows, e1, q1, q2, q4]

theorem sfi_loop {rows : List (List PV)} {a b : Int} {s : List UInt8} (hl : rows.length ≤ maxLen) (hr : ∀ r ∈ rows, HasL tFields r) : ∀ (m k : Nat) (i : Int), i = k → k + m = rows.length → ∀ (acc : List UInt8), acc.length + (fmtFields (rows.drop k)).length ≤ 1000000000 → ∀ (x0 x2 x5 x6 x7 x8 x9 x10 x11 x12 x13 x14 x15 x16 x17 x18 x19 x20 x21 x22 x23 x24 x25 x26 x27 x28 x29 x30 x31 x32 x33 x34 x35 x36 : V), ∃ σ', loopL (exec (callL Ph extF) loopL b_spec_FormatItem_0) ⟨(x0 :: .one (.ptr 0 0 0) :: x2 :: vstr acc :: vint .i64 i :: x5 :: x6 :: x7 :: x8 :: x9 :: x10 :: x11 :: x12 :: x13 :: x14 :: x15 :: x16 :: x17 :: x18 :: x19 :: x20 :: x21 :: x22 :: x23 :: x24 :: x25 :: x26 :: x27 :: x28 :: x29 :: x30 :: x31 :: x32 :: x33 :: x34 :: x35 :: x36 :: []), [.box [.pv (.int .i64 a), .pv (.int .i64 b), .pv (.str s), .pv (.lst rows)]]⟩ = some (.exit 0, σ') ∧ σ'.t.length = 37 ∧ σ'.t[3]? = some (vstr (acc ++ fmtFields (rows.drop k))) := by
  generalize hF : exec (callL Ph extF) loopL b_spec_FormatItem_0 = F
  intro m
  induction m with
  | zero =>
    intro k i hi hk acc ha x0 x2 x5 x6 x7 x8 x9 x10 x11 x12 x13 x14 x15 x16 x17 x18 x19 x20 x21 x22 x23 x24 x25 x26 x27 x28 x29 x30 x31 x32 x33 x34 x35 x36
    subst hi
    have hk' : k = rows.length := by omega
    subst hk'
    rw [loopL_go hF]
    simp [b_spec_FormatItem_0, start, execL, exec, execOps, stepO, wants, fop, eop, Opd.ev, put, V.cells, plain, loadV, cut, isInt, isStr, isBool, bin, binInt, binStr_neq, binStr_eql, un, asList, L.view, viewArgs, V.view, viewL, done, finish, resultsOf, resultOf, comps, comp, giveLs, giveL, arrsOf, V.flat, L.flat, setV, setL, storeV, putAt, thaw, thawL, freezeVs, freezeLs, freezeL, V.mut, L.mut, elemPtr, viewRows, fmtFields]
  | succ m ih =>
    intro k i hi hk acc ha x0 x2 x5 x6 x7 x8 x9 x10 x11 x12 x13 x14 x15 x16 x17 x18 x19 x20 x21 x22 x23 x24 x25 x26 x27 x28 x29 x30 x31 x32 x33 x34 x35 x36
    subst hi
    have hlt : k < rows.length := by omega
    have hw := wrap_small (k := k) (by unfold maxLen at hl; omega)
    obtain ⟨nm, v, hrk, g1, g2⟩ := field_cells (hr _ (List.getElem_mem hlt))
    rw [List.drop_eq_getElem_cons hlt, hrk, fmtFields_cons] at ha ⊢
    simp only [List.length_cons, List.length_append] at ha
    have e1 := spec_FormatInt_ok g2
    have key := ih (k + 1) ((k : Int) + 1) (by omega) (by omega) (acc ++ 32 :: (nm ++ 61 :: Lib.itoa v)) (by simp only [List.length_cons, List.length_append]; omega)
    clear ih
    generalize fmtFields (rows.drop (k + 1)) = R at key ha ⊢
    rw [loopL_go hF]
    simp (disch := (try simp only [List.length_append, List.length_cons, List.length_nil]); omega) [b_spec_FormatItem_0, start, execL, exec, execOps, stepO, wants, fop, eop, Opd.ev, put, V.cells, plain, loadV, cut, isInt, isStr, isBool, bin, binInt, binStr_neq, binStr_eql, un, asList, L.view, viewArgs, V.view, viewL, done, finish, resultsOf, resultOf, comps, comp, giveLs, giveL, arrsOf_one, arrsOf_nil, V.flat, L.flat, setV, setL, storeV, putAt, thaw, thawL, freezeVs, freezeLs, freezeL, V.mut, L.mut, elemPtr, viewRows, hlt, hrk, hw, e1, binStr_add]
    simp at key
    exact key _ _ _ _ _ _ _ _ _ _ _ _ _ _ _ _ _ _ _ _ _ _ _ _ _ _ _ _ _ _ _ _ _ _

theorem spec_FormatItem_ok {a b : Int} {s : List UInt8} {rows : List (List PV)} (hb : Has (.int .i64) (.int .i64 b)) (hs : s.length ≤ maxLen) (hr : Has (.lst tFields) (.lst rows)) (hz : sz (.lst rows) ≤ 1048576) : callL Ph extF 6 [.agg [.pv (.int .i64 a), .pv (.int .i64 b), .pv (.str s), .pv (.lst rows)]] = some (vstr (fmtKey a b s ++ fmtFields rows)) := by
  have e1 := spec_FormatKey_ok (a := a) hb hs
  have l1 := fmtKey_len (a := a) (s := s) hb
  obtain ⟨hl, hr'⟩ := Has_rows hr
  have l2 := fmtFields_len hr'
  rw [sz_lst] at hz
  obtain ⟨⟨t', h'⟩, q1, q2, q3⟩ := sfi_loop (a := a) (b := b) (s := s) hl hr' rows.length 0 0 rfl (by omega) (fmtKey a b s) (by rw [List.drop_zero]; omega) (.agg [.pv (.int .i64 a), .pv (.int .i64 b), .pv (.str s), .pv (.lst rows)]) (vstr []) (.one (.ptr 0 0 0)) (.agg [.pv (.int .i64 a), .pv (.int .i64 b), .pv (.str s)]) (vstr (fmtKey a b s)) (.tup []) (.tup []) (.tup []) (.tup []) (.tup []) (.tup []) (.tup []) (.tup []) (.tup []) (.tup []) (.tup []) (.tup []) (.tup []) (.tup []) (.tup []) (.tup []) (.tup []) (.tup []) (.tup []) (.tup []) (.tup []) (.tup []) (.tup []) (.tup []) (.tup []) (.tup []) (.tup []) (.tup []) (.tup [])
  simp only [List.drop_zero] at q2 q3
  obtain ⟨_, q4⟩ := List.getElem?_eq_some_iff.1 q3
  refine callL_fn (fn := f_spec_FormatItem) rfl ?_
  simp [f_spec_FormatItem, start, execL, exec, execOps, stepO, wants, fop, eop, Opd.ev, put, V.cells, plain, loadV, cut, isInt, isStr, isBool, bin, binInt, binStr_neq, binStr_eql, un, asList, L.view, viewArgs, V.view, viewL, done, finish, resultsOf, resultOf, comps, comp, giveLs, giveL, arrsOf, V.flat, L.flat, setV, setL, storeV, putAt, thaw, thawL, freezeVs, freezeLs, freezeL, V.mut, L.mut, elemPtr, viewRows, e1, q1, q2, q4]

end Gi
