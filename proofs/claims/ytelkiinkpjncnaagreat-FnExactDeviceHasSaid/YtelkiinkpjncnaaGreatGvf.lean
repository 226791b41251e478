/- Items and fields: found, copied. -/
import Derived.Test.YtelkiinkpjncnaaGreatGuc
namespace Gi
open Go Go.RowKit
set_option linter.unusedSimpArgs false
set_option linter.unusedVariables false
set_option maxHeartbeats 4000000
set_option maxRecDepth 4000
attribute [local simp] start execL exec execOps stepO wants fop eop Opd.ev put V.cells plain loadV cut isInt isStr isBool bin binInt binStr_neq binStr_eql un asList L.view viewArgs V.view viewL done finish resultsOf resultOf comps comp giveLs giveL arrsOf V.flat L.flat setV setL storeV putAt thaw thawL freezeVs freezeLs freezeL V.mut L.mut elemPtr viewRows

theorem item_row4 {r : List PV} (h : HasL t_ItemS r) : ∃ a b s fs, r = [.int .i64 a, .int .i64 b, .str s, .lst fs] ∧ Has (.lst t_FieldS) (.lst fs) := by
  obtain ⟨p0, r1, rfl, g0, k1⟩ := HasL_cons h
  obtain ⟨p1, r2, rfl, g1, k2⟩ := HasL_cons k1
  obtain ⟨p2, r3, rfl, g2, k3⟩ := HasL_cons k2
  obtain ⟨p3, r4, rfl, g3, k4⟩ := HasL_cons k3
  obtain rfl := HasL_nil k4
  obtain ⟨c0, rfl⟩ := Has_int g0
  obtain ⟨c1, rfl⟩ := Has_int g1
  obtain ⟨c2, rfl⟩ := Has_str g2
  obtain ⟨c3, rfl⟩ := Has_lst g3
  exact ⟨c0, c1, c2, c3, rfl, g3⟩
theorem field_row2 {r : List PV} (h : HasL t_FieldS r) : ∃ a n, r = [.str a, .int .i64 n] := by
  obtain ⟨p0, r1, rfl, g0, k1⟩ := HasL_cons h
  obtain ⟨p1, r2, rfl, g1, k2⟩ := HasL_cons k1
  obtain rfl := HasL_nil k2
  obtain ⟨c0, rfl⟩ := Has_str g0
  obtain ⟨c1, rfl⟩ := Has_int g1
  exact ⟨c0, c1, rfl⟩

/-! ### FindItem -/
def isK (a b : Int) (s : List UInt8) : List PV → Bool
  | [.int _ a', .int _ b', .str s', _] => a' == a && (b' == b && s' == s)
  | _ => false
theorem impl_FindItem1_ok {r : List PV} (h : HasL t_ItemS r) (a b : Int) (s : List UInt8) : callL Ph extF 216 (.agg (r.map .pv) :: [[.int .i64 a, .int .i64 b, .str s]].map capV) = some (vbool (isK a b s r)) := by
  obtain ⟨a', b', s', fs, rfl, _⟩ := item_row4 h
  refine callL_fn (fn := f_impl_FindItem_1) rfl ?_
  simp [f_impl_FindItem_1, capV, eqLs, eqL, isK]
theorem impl_FindItem_ok {nm : List UInt8} {rows : List (List PV)} {nx : Int} (h : Has (.lst t_ItemS) (.lst rows)) (a b : Int) (s : List UInt8) : callL Ph extF 188 [.agg [.pv (.str nm), .pv (.lst rows), .pv (.int .i64 nx)], .agg [.pv (.int .i64 a), .pv (.int .i64 b), .pv (.str s)]] = some (vint .i64 (findI (isK a b s) rows 0)) := by
  obtain ⟨hl, hr⟩ := Has_rows h
  have e1 : callL Ph extF 215 [vlst rows, .one (.fn 216 [[.int .i64 a, .int .i64 b, .str s]])] = some (vint .i64 (findI (isK a b s) rows 0)) :=
    ixF_ok (z := 4) rfl hl (fun r m => HasL_len (hr r m)) (fun r m => impl_FindItem1_ok (hr r m) a b s)
  refine callL_fn (fn := f_impl_FindItem) rfl ?_
  simp [f_impl_FindItem, capsOf, capOf, e1]
theorem sfit_loop {nm : List UInt8} {rows : List (List PV)} {nx a b : Int} {s : List UInt8} (hl : rows.length ≤ maxLen) (hr : ∀ r ∈ rows, HasL t_ItemS r) : ∀ (m k : Nat) (i : Int), i = k → k + m = rows.length → ∀ (x0 x1 x4 x6 x7 x8 x9 x10 x11 x12 x13 x14 x15 x16 x17 x18 x19 x20 x21 : V) (h : List AObj),
    Runs (loopL (exec (callL Ph extF) loopL b_spec_FindItem_0) ⟨(x0 :: x1 :: .one (.ptr 0 0 0) :: .one (.ptr 1 0 0) :: x4 :: vint .i64 i :: x6 :: x7 :: x8 :: x9 :: x10 :: x11 :: x12 :: x13 :: x14 :: x15 :: x16 :: x17 :: x18 :: x19 :: x20 :: x21 :: []), .box [.pv (.str nm), .pv (.lst rows), .pv (.int .i64 nx)] :: .box [.pv (.int .i64 a), .pv (.int .i64 b), .pv (.str s)] :: h⟩) fun e σ' => (e = .exit 0 ∧ findI (isK a b s) (rows.drop k) k = -1 ∧ ∃ (x0 x1 x4 x6 x7 x8 x9 x10 x11 x12 x13 x14 x15 x16 x17 x18 x19 x20 x21 : V) (h' : List AObj), σ' = ⟨(x0 :: x1 :: .one (.ptr 0 0 0) :: .one (.ptr 1 0 0) :: x4 :: vint .i64 (rows.length : Nat) :: x6 :: x7 :: x8 :: x9 :: x10 :: x11 :: x12 :: x13 :: x14 :: x15 :: x16 :: x17 :: x18 :: x19 :: x20 :: x21 :: []), .box [.pv (.str nm), .pv (.lst rows), .pv (.int .i64 nx)] :: .box [.pv (.int .i64 a), .pv (.int .i64 b), .pv (.str s)] :: h'⟩) ∨ (e = .ret ∧ σ'.t.length = 22 ∧ σ'.t[4]? = some (vint .i64 (findI (isK a b s) (rows.drop k) k))) := by
  generalize hF : exec (callL Ph extF) loopL b_spec_FindItem_0 = F
  intro m
  induction m with
  | zero =>
    intro k i hi hk x0 x1 x4 x6 x7 x8 x9 x10 x11 x12 x13 x14 x15 x16 x17 x18 x19 x20 x21 h
    subst hi
    have hk' : k = rows.length := by omega
    subst hk'
    rw [loopL_go0 hF]
    simp (maxSteps := 4000000) [b_spec_FindItem_0, findI, Runs_some]
  | succ m ih =>
    intro k i hi hk x0 x1 x4 x6 x7 x8 x9 x10 x11 x12 x13 x14 x15 x16 x17 x18 x19 x20 x21 h
    subst hi
    have hlt : k < rows.length := by omega
    have hw := wrap_small (k := k) (by unfold maxLen at hl; omega)
    obtain ⟨a', b', s', fs, hrk, _⟩ := item_row4 (hr _ (List.getElem_mem hlt))
    have hp : isK a b s rows[k] = (a' == a && (b' == b && s' == s)) := by rw [hrk]; rfl
    have hq : eqLs [.i, .i, .s] [.pv (.int .i64 a'), .pv (.int .i64 b'), .pv (.str s')] [.pv (.int .i64 a), .pv (.int .i64 b), .pv (.str s)] = some (isK a b s rows[k]) := by rw [hp]; simp [eqLs, eqL]
    have key := ih (k + 1) ((k : Int) + 1) (by omega) (by omega)
    clear ih
    rw [List.drop_eq_getElem_cons hlt]
    simp only [findI]
    generalize findI (isK a b s) (rows.drop (k + 1)) (k + 1) = B at key ⊢
    rw [loopL_go0 hF]
    generalize isK a b s rows[k] = q at hq ⊢; cases q <;>
      first
      | omega
      | (simp [b_spec_FindItem_0, hlt, hw, hrk, hq]
         exact key _ _ _ _ _ _ _ _ _ _ _ _ _ _ _ _ _ _ _ _)
      | (simp [b_spec_FindItem_0, hlt, hw, hrk, hq, Runs_some]; done)
theorem sfit_loop' {nm : List UInt8} {rows : List (List PV)} {nx a b : Int} {s : List UInt8} (hl : rows.length ≤ maxLen) (hr : ∀ r ∈ rows, HasL t_ItemS r) : ∀ (m k : Nat) (i : Int), i = k → k + m = rows.length → ∀ (x0 x1 x4 x6 x7 x8 x9 x10 x11 x12 x13 x14 x15 x16 x17 x18 x19 x20 x21 : V) (h : List AObj) (σ : St), σ = ⟨(x0 :: x1 :: .one (.ptr 0 0 0) :: .one (.ptr 1 0 0) :: x4 :: vint .i64 i :: x6 :: x7 :: x8 :: x9 :: x10 :: x11 :: x12 :: x13 :: x14 :: x15 :: x16 :: x17 :: x18 :: x19 :: x20 :: x21 :: []), .box [.pv (.str nm), .pv (.lst rows), .pv (.int .i64 nx)] :: .box [.pv (.int .i64 a), .pv (.int .i64 b), .pv (.str s)] :: h⟩ →
    Runs (loopL (exec (callL Ph extF) loopL b_spec_FindItem_0) σ) fun e σ' => (e = .exit 0 ∧ findI (isK a b s) (rows.drop k) k = -1 ∧ ∃ (x0 x1 x4 x6 x7 x8 x9 x10 x11 x12 x13 x14 x15 x16 x17 x18 x19 x20 x21 : V) (h' : List AObj), σ' = ⟨(x0 :: x1 :: .one (.ptr 0 0 0) :: .one (.ptr 1 0 0) :: x4 :: vint .i64 (rows.length : Nat) :: x6 :: x7 :: x8 :: x9 :: x10 :: x11 :: x12 :: x13 :: x14 :: x15 :: x16 :: x17 :: x18 :: x19 :: x20 :: x21 :: []), .box [.pv (.str nm), .pv (.lst rows), .pv (.int .i64 nx)] :: .box [.pv (.int .i64 a), .pv (.int .i64 b), .pv (.str s)] :: h'⟩) ∨ (e = .ret ∧ σ'.t.length = 22 ∧ σ'.t[4]? = some (vint .i64 (findI (isK a b s) (rows.drop k) k))) := by
  intro m k i hi hk x0 x1 x4 x6 x7 x8 x9 x10 x11 x12 x13 x14 x15 x16 x17 x18 x19 x20 x21 h σ hσ
  subst hσ
  exact sfit_loop hl hr m k i hi hk x0 x1 x4 x6 x7 x8 x9 x10 x11 x12 x13 x14 x15 x16 x17 x18 x19 x20 x21 h
theorem spec_FindItem_ok {nm : List UInt8} {rows : List (List PV)} {nx : Int} (h : Has (.lst t_ItemS) (.lst rows)) (a b : Int) (s : List UInt8) : callL Ph extF 184 [.agg [.pv (.str nm), .pv (.lst rows), .pv (.int .i64 nx)], .agg [.pv (.int .i64 a), .pv (.int .i64 b), .pv (.str s)]] = some (vint .i64 (findI (isK a b s) rows 0)) := by
  obtain ⟨hl, hr⟩ := Has_rows h
  refine callL_fn (fn := f_spec_FindItem) rfl ?_
  have LP := sfit_loop' (nm := nm) (nx := nx) (a := a) (b := b) (s := s) hl hr rows.length 0 0 rfl (by omega)
  simp only [List.drop_zero] at LP
  generalize hF : exec (callL Ph extF) loopL b_spec_FindItem_0 = F at LP
  simp [f_spec_FindItem, hF]
  generalize hσ : St.mk _ _ = σ0
  obtain ⟨e, σ', q1, q3⟩ := (LP _ _ _ _ _ _ _ _ _ _ _ _ _ _ _ _ _ _ _ _ σ0 hσ.symm).get
  rw [q1]
  rcases q3 with ⟨rfl, q4, x0, x1, x4, x6, x7, x8, x9, x10, x11, x12, x13, x14, x15, x16, x17, x18, x19, x20, x21, h', rfl⟩ | ⟨rfl, q5, q7⟩
  · simp [q4]
  · obtain ⟨_, q8⟩ := List.getElem?_eq_some_iff.1 q7
    simp [q5, q8]

/-! ### GetField -/
def isFd (nm : List UInt8) : List PV → Bool
  | .str a :: _ => a == nm
  | _ => false
def fN : List PV → Int
  | [_, .int _ n] => n
  | _ => 0
def getV (nm : List UInt8) : List (List PV) → Int × Bool
  | [] => (0, false)
  | r :: rs => cond (isFd nm r) (fN r, true) (getV nm rs)
def fRes (v : Int × Bool) : V := .tup [(false, [.pv (.int .i64 v.1)]), (false, [.pv (.bool v.2)])]
theorem getV_none {nm : List UInt8} : ∀ {rows : List (List PV)} {k : Nat}, findI (isFd nm) rows k < 0 → getV nm rows = (0, false)
  | [], _, _ => rfl
  | r :: rows, k, h => by
    unfold findI at h
    unfold getV
    cases q : isFd nm r with
    | true => rw [q, cond_true] at h; omega
    | false => rw [q, cond_false] at h; exact getV_none h
theorem getV_some {nm : List UInt8} : ∀ {rows : List (List PV)} {k j : Nat}, findI (isFd nm) rows k = ((k + j : Nat) : Int) → ∀ hj : j < rows.length, getV nm rows = (fN rows[j], true)
  | [], _, _, _, hj => by simp at hj
  | r :: rows, k, j, h, hj => by
    unfold findI at h
    unfold getV
    cases q : isFd nm r with
    | true =>
      rw [q, cond_true] at h
      obtain rfl : j = 0 := by omega
      rfl
    | false =>
      rw [q, cond_false] at h
      cases j with
      | zero =>
        rcases findI_range (isFd nm) rows (k + 1) with h1 | ⟨j, h1, h2⟩ <;> omega
      | succ j => exact getV_some (k := k + 1) (j := j) (by rw [h]; congr 1; omega) (by simpa using hj)
theorem impl_fieldAt1_ok {r : List PV} (h : HasL t_FieldS r) (nm : List UInt8) : callL Ph extF 241 (.agg (r.map .pv) :: [[.str nm]].map capV) = some (vbool (isFd nm r)) := by
  obtain ⟨a, n, rfl⟩ := field_row2 h
  refine callL_fn (fn := f_impl_fieldAt_1) rfl ?_
  simp [f_impl_fieldAt_1, capV, isFd]
theorem impl_fieldAt_ok {rows : List (List PV)} (h : Has (.lst t_FieldS) (.lst rows)) (nm : List UInt8) : callL Ph extF 217 [.agg [.pv (.lst rows)], vstr nm] = some (vint .i64 (findI (isFd nm) rows 0)) := by
  obtain ⟨hl, hr⟩ := Has_rows h
  have e1 : callL Ph extF 240 [vlst rows, .one (.fn 241 [[.str nm]])] = some (vint .i64 (findI (isFd nm) rows 0)) :=
    ixF_ok (z := 2) rfl hl (fun r m => HasL_len (hr r m)) (fun r m => impl_fieldAt1_ok (hr r m) nm)
  refine callL_fn (fn := f_impl_fieldAt) rfl ?_
  simp [f_impl_fieldAt, capsOf, capOf, e1]
theorem impl_GetField_ok {rows : List (List PV)} (h : Has (.lst t_FieldS) (.lst rows)) (nm : List UInt8) : callL Ph extF 190 [.agg [.pv (.lst rows)], vstr nm] = some (fRes (getV nm rows)) := by
  have e1 := impl_fieldAt_ok h nm
  refine callL_fn (fn := f_impl_GetField) rfl ?_
  by_cases hn : findI (isFd nm) rows 0 < 0
  · rw [getV_none hn]
    simp [f_impl_GetField, e1, hn, fRes]
  · obtain ⟨j, hj, hfi⟩ := findI_at hn
    rw [getV_some (k := 0) (j := j) (by simpa using hfi) hj]
    rw [hfi] at e1
    have hneg : ¬ (j : Int) < 0 := by omega
    obtain ⟨a, n, hr⟩ := field_row2 ((Has_rows h).2 _ (List.getElem_mem hj))
    simp [f_impl_GetField, e1, hneg, hj, hr, fRes, fN]
theorem sgf_loop {rows : List (List PV)} {nm : List UInt8} (hl : rows.length ≤ maxLen) (hr : ∀ r ∈ rows, HasL t_FieldS r) : ∀ (m k : Nat) (i : Int), i = k → k + m = rows.length → ∀ (x0 x3 x4 x5 x7 x8 x9 x10 x11 x12 x13 x14 x15 x16 x17 x18 x19 x20 x21 x22 x23 x24 x25 x26 x27 : V) (h : List AObj) (σ : St), σ = ⟨(x0 :: vstr nm :: .one (.ptr 0 0 0) :: x3 :: x4 :: x5 :: vint .i64 i :: x7 :: x8 :: x9 :: x10 :: x11 :: x12 :: x13 :: x14 :: x15 :: x16 :: x17 :: x18 :: x19 :: x20 :: x21 :: x22 :: x23 :: x24 :: x25 :: x26 :: x27 :: []), .box [.pv (.lst rows)] :: h⟩ →
    Runs (loopL (exec (callL Ph extF) loopL b_spec_GetField_0) σ) fun e σ' => (e = .exit 0 ∧ getV nm (rows.drop k) = (0, false) ∧ ∃ (x0 x3 x4 x5 x7 x8 x9 x10 x11 x12 x13 x14 x15 x16 x17 x18 x19 x20 x21 x22 x23 x24 x25 x26 x27 : V) (h' : List AObj), σ' = ⟨(x0 :: vstr nm :: .one (.ptr 0 0 0) :: x3 :: x4 :: x5 :: vint .i64 (rows.length : Nat) :: x7 :: x8 :: x9 :: x10 :: x11 :: x12 :: x13 :: x14 :: x15 :: x16 :: x17 :: x18 :: x19 :: x20 :: x21 :: x22 :: x23 :: x24 :: x25 :: x26 :: x27 :: []), .box [.pv (.lst rows)] :: h'⟩) ∨ (e = .ret ∧ σ'.t.length = 28 ∧ σ'.t[4]? = some (vint .i64 (getV nm (rows.drop k)).1) ∧ σ'.t[5]? = some (vbool (getV nm (rows.drop k)).2)) := by
  generalize hF : exec (callL Ph extF) loopL b_spec_GetField_0 = F
  intro m
  induction m with
  | zero =>
    intro k i hi hk x0 x3 x4 x5 x7 x8 x9 x10 x11 x12 x13 x14 x15 x16 x17 x18 x19 x20 x21 x22 x23 x24 x25 x26 x27 h σ hσ
    subst hi hσ
    have hk' : k = rows.length := by omega
    subst hk'
    rw [loopL_go0 hF]
    simp [b_spec_GetField_0, Runs_some, getV]
  | succ m ih =>
    intro k i hi hk x0 x3 x4 x5 x7 x8 x9 x10 x11 x12 x13 x14 x15 x16 x17 x18 x19 x20 x21 x22 x23 x24 x25 x26 x27 h σ hσ
    subst hi hσ
    have hlt : k < rows.length := by omega
    have hw := wrap_small (k := k) (by unfold maxLen at hl; omega)
    obtain ⟨a, n, hrk⟩ := field_row2 (hr _ (List.getElem_mem hlt))
    have key := ih (k + 1) ((k : Int) + 1) (by omega) (by omega)
    clear ih
    rw [List.drop_eq_getElem_cons hlt]
    have hg : getV nm (rows[k] :: rows.drop (k + 1)) = cond (a == nm) (n, true) (getV nm (rows.drop (k + 1))) := by rw [hrk]; rfl
    rw [hg]
    generalize getV nm (rows.drop (k + 1)) = B at key ⊢
    rw [loopL_go0 hF]
    cases c : (a == nm)
    · simp [b_spec_GetField_0, hlt, hw, hrk, c]
      exact key _ _ _ _ _ _ _ _ _ _ _ _ _ _ _ _ _ _ _ _ _ _ _ _ _ _ _ rfl
    · simp [b_spec_GetField_0, hlt, hw, hrk, c, Runs_some]
theorem spec_GetField_ok {rows : List (List PV)} (h : Has (.lst t_FieldS) (.lst rows)) (nm : List UInt8) : callL Ph extF 186 [.agg [.pv (.lst rows)], vstr nm] = some (fRes (getV nm rows)) := by
  obtain ⟨hl, hr⟩ := Has_rows h
  refine callL_fn (fn := f_spec_GetField) rfl ?_
  have LP := sgf_loop (nm := nm) hl hr rows.length 0 0 rfl (by omega)
  simp only [List.drop_zero] at LP
  generalize hF : exec (callL Ph extF) loopL b_spec_GetField_0 = F at LP
  simp [f_spec_GetField, hF]
  generalize hσ : St.mk _ _ = σ0
  obtain ⟨e, σ', q1, q3⟩ := (LP _ _ _ _ _ _ _ _ _ _ _ _ _ _ _ _ _ _ _ _ _ _ _ _ _ _ σ0 hσ.symm).get
  rw [q1]
  rcases q3 with ⟨rfl, q4, x0, x3, x4, x5, x7, x8, x9, x10, x11, x12, x13, x14, x15, x16, x17, x18, x19, x20, x21, x22, x23, x24, x25, x26, x27, h', rfl⟩ | ⟨rfl, q5, q6, q7⟩
  · simp [q4, fRes]
  · obtain ⟨_, q8⟩ := List.getElem?_eq_some_iff.1 q6
    obtain ⟨_, q9⟩ := List.getElem?_eq_some_iff.1 q7
    simp [q5, q8, q9, fRes]

/-! ### What a store has -/
def hasV (rows : List (List PV)) (n : Int) (nm : List UInt8) : Int × Bool := match rows[(findI (isK 1 n []) rows 0).toNat]? with
  | some [_, _, _, .lst fs] => cond (decide (findI (isK 1 n []) rows 0 < 0)) (0, false) (getV nm fs)
  | _ => (0, false)
theorem impl_numberKey_ok (n : Int) : callL Ph extF 189 [vint .i64 n] = some (.agg [.pv (.int .i64 1), .pv (.int .i64 n), .pv (.str [])]) := by
  refine callL_fn (fn := f_impl_numberKey) rfl ?_
  simp [f_impl_numberKey, fillL]
theorem spec_l31Key_ok (n : Int) : callL Ph extF 185 [vint .i64 n] = some (.agg [.pv (.int .i64 1), .pv (.int .i64 n), .pv (.str [])]) := by
  refine callL_fn (fn := f_spec_l31Key) rfl ?_
  simp [f_spec_l31Key, fillL]
theorem impl_storeHas_ok {nm : List UInt8} {rows : List (List PV)} {nx : Int} (h : Has (.lst t_ItemS) (.lst rows)) (n : Int) (fd : List UInt8) : callL Ph extF 159 [.agg [.pv (.str nm), .pv (.lst rows), .pv (.int .i64 nx)], vint .i64 n, vstr fd] = some (fRes (hasV rows n fd)) := by
  have e0 := impl_numberKey_ok n
  have e1 := impl_FindItem_ok (nm := nm) (nx := nx) h 1 n []
  refine callL_fn (fn := f_impl_storeHas) rfl ?_
  by_cases hn : findI (isK 1 n []) rows 0 < 0
  · have hv : hasV rows n fd = (0, false) := by
      unfold hasV
      split
      · simp [hn]
      · rfl
    rw [hv]
    simp [f_impl_storeHas, e0, e1, hn, fRes]
  · obtain ⟨j, hj, hfi⟩ := findI_at hn
    obtain ⟨a, b, s, fs, hrk, hf⟩ := item_row4 ((Has_rows h).2 _ (List.getElem_mem hj))
    have hneg : ¬ (j : Int) < 0 := by omega
    have hv : hasV rows n fd = getV fd fs := by
      unfold hasV
      rw [hfi]
      simp [hj, hrk, hneg]
    have e2 := impl_GetField_ok hf fd
    rw [hv]
    rw [hfi] at e1
    generalize getV fd fs = v at e2
    simp [f_impl_storeHas, e0, e1, hneg, hj, hrk, e2, fRes]
theorem spec_l37Field_ok {nm : List UInt8} {rows : List (List PV)} {nx : Int} (h : Has (.lst t_ItemS) (.lst rows)) (n : Int) (fd : List UInt8) : callL Ph extF 157 [.agg [.pv (.str nm), .pv (.lst rows), .pv (.int .i64 nx)], vint .i64 n, vstr fd] = some (fRes (hasV rows n fd)) := by
  have e0 := spec_l31Key_ok n
  have e1 := spec_FindItem_ok (nm := nm) (nx := nx) h 1 n []
  refine callL_fn (fn := f_spec_l37Field) rfl ?_
  by_cases hn : findI (isK 1 n []) rows 0 < 0
  · have hv : hasV rows n fd = (0, false) := by
      unfold hasV
      split
      · simp [hn]
      · rfl
    rw [hv]
    simp [f_spec_l37Field, e0, e1, hn, fRes]
  · obtain ⟨j, hj, hfi⟩ := findI_at hn
    obtain ⟨a, b, s, fs, hrk, hf⟩ := item_row4 ((Has_rows h).2 _ (List.getElem_mem hj))
    have hneg : ¬ (j : Int) < 0 := by omega
    have hv : hasV rows n fd = getV fd fs := by
      unfold hasV
      rw [hfi]
      simp [hj, hrk, hneg]
    have e2 := spec_GetField_ok hf fd
    rw [hv]
    rw [hfi] at e1
    generalize getV fd fs = v at e2
    simp [f_spec_l37Field, e0, e1, hneg, hj, hrk, e2, fRes]
end Gi
