/- Items and fields: found, copied. -/
import Derived.Test.YtldmjoillnhebaaGreatGuc
namespace Gi
open Go Go.RowKit
set_option linter.unusedSimpArgs false
set_option linter.unusedVariables false
set_option maxHeartbeats 4000000
set_option maxRecDepth 4000
attribute [local simp] start execL exec execOps stepO wants fop eop Opd.ev put V.cells plain loadV cut isInt isStr isBool bin binInt binStr_neq binStr_eql un asList L.view viewArgs V.view viewL done finish resultsOf resultOf comps comp giveLs giveL arrsOf V.flat L.flat setV setL storeV putAt thaw thawL freezeVs freezeLs freezeL V.mut L.mut elemPtr viewRows

theorem item_row4 {r : List PV} (h : HasL t_ItemS r) : ∃ a b s fs, r = [.int .i64 a, .int .i64 b, .str s, .lst fs] ∧ Has (.lst t_FieldS) (.lst fs) := by
  obtain ⟨p0, r1, rfl, g0, k1⟩ := HasL_cons h
  obtain ⟨p1, r2, rfl, g1, k2⟩ := HasL_cons k1
  obtain ⟨p2, r3, rfl, g2, k3⟩ := HasL_cons k2
  obtain ⟨p3, r4, rfl, g3, k4⟩ := HasL_cons k3
  obtain rfl := HasL_nil k4
  obtain ⟨c0, rfl⟩ := Has_int g0
  obtain ⟨c1, rfl⟩ := Has_int g1
  obtain ⟨c2, rfl⟩ := Has_str g2
  obtain ⟨c3, rfl⟩ := Has_lst g3
  exact ⟨c0, c1, c2, c3, rfl, g3⟩
theorem field_row2 {r : List PV} (h : HasL t_FieldS r) : ∃ a n, r = [.str a, .int .i64 n] := by
  obtain ⟨p0, r1, rfl, g0, k1⟩ := HasL_cons h
  obtain ⟨p1, r2, rfl, g1, k2⟩ := HasL_cons k1
  obtain rfl := HasL_nil k2
  obtain ⟨c0, rfl⟩ := Has_str g0
  obtain ⟨c1, rfl⟩ := Has_int g1
  exact ⟨c0, c1, rfl⟩

/-! ### FindItem -/
def isK (a b : Int) (s : List UInt8) : List PV → Bool
  | [.int _ a', .int _ b', .str s', _] => a' == a && (b' == b && s' == s)
  | _ => false
theorem impl_FindItem1_ok {r : List PV} (h : HasL t_ItemS r) (a b : Int) (s : List UInt8) : callL Ph extF 216 (.agg (r.map .pv) :: [[.int .i64 a, .int .i64 b, .str s]].map capV) = some (vbool (isK a b s r)) := by
  obtain ⟨a', b', s', fs, rfl, _⟩ := item_row4 h
  refine callL_fn (fn := f_impl_FindItem_1) rfl ?_
  simp [f_impl_FindItem_1, capV, eqLs, eqL, isK]
theorem impl_FindItem_ok {nm : List UInt8} {rows : List (List PV)} {nx : Int} (h : Has (.lst t_ItemS) (.lst rows)) (a b : Int) (s : List UInt8) : callL Ph extF 188 [.agg [.pv (.str nm), .pv (.lst rows), .pv (.int .i64 nx)], .agg [.pv (.int .i64 a), .pv (.int .i64 b), .pv (.str s)]] = some (vint .i64 (findI (isK a b s) rows 0)) := by
  obtain ⟨hl, hr⟩ := Has_rows h
  have e1 : callL Ph extF 215 [vlst rows, .one (.fn 216 [[.int .i64 a, .int .i64 b, .str s]])] = some (vint .i64 (findI (isK a b s) rows 0)) :=
    ixF_ok (z := 4) rfl hl (fun r m => HasL_len (hr r m)) (fun r m => impl_FindItem1_ok (hr r m) a b s)
  refine callL_fn (fn := f_impl_FindItem) rfl ?_
  simp [f_impl_FindItem, capsOf, capOf, e1]
theorem sfit_loop {nm : List UInt8} {rows : List (List PV)} {nx a b : Int} {s : List UInt8} (hl : rows.length ≤ maxLen) (hr : ∀ r ∈ rows, HasL t_ItemS r) : ∀ (m k : Nat) (i : Int), i = k → k + m = rows.length → ∀ (x0 x1 x4 x6 x7 x8 x9 x10 x11 x12 x13 x14 x15 x16 x17 x18 x19 x20 x21 : V) (h : List AObj),
    Runs (loopL (exec (callL Ph extF) loopL b_spec_FindItem_0) ⟨(x0 :: x1 :: .one (.ptr 0 0 0) :: .one (.ptr 1 0 0) :: x4 :: vint .i64 i :: x6 :: x7 :: x8 :: x9 :: x10 :: x11 :: x12 :: x13 :: x14 :: x15 :: x16 :: x17 :: x18 :: x19 :: x20 :: x21 :: []), .box [.pv (.str nm), .pv (.lst rows), .pv (.int .i64 nx)] :: .box [.pv (.int .i64 a), .pv (.int .i64 b), .pv (.str s)] :: h⟩) fun e σ' => (e = .exit 0 ∧ findI (isK a b s) (rows.drop k) k = -1 ∧ ∃ (x0 x1 x4 x6 x7 x8 x9 x10 x11 x12 x13 x14 x15 x16 x17 x18 x19 x20 x21 : V) (h' : List AObj), σ' = ⟨(x0 :: x1 :: .one (.ptr 0 0 0) :: .one (.ptr 1 0 0) :: x4 :: vint .i64 (rows.length : Nat) :: x6 :: x7 :: x8 :: x9 :: x10 :: x11 :: x12 :: x13 :: x14 :: x15 :: x16 :: x17 :: x18 :: x19 :: x20 :: x21 :: []), .box [.pv (.str nm), .pv (.lst rows), .pv (.int .i64 nx)] :: .box [.pv (.int .i64 a), .pv (.int .i64 b), .pv (.str s)] :: h'⟩) ∨ (e = .ret ∧ σ'.t.length = 22 ∧ σ'.t[4]? = some (vint .i64 (findI (isK a b s) (rows.drop k) k))) := by
  generalize hF : exec (callL Ph extF) loopL b_spec_FindItem_0 = F
  intro m
  induction m with
  | zero =>
    intro k i hi hk x0 x1 x4 x6 x7 x8 x9 x10 x11 x12 x13 x14 x15 x16 x17 x18 x19 x20 x21 h
    subst hi
    have hk' : k = rows.length := by omega
    subst hk'
    rw [loopL_go0 hF]
    simp (maxSteps := 4000000) [b_spec_FindItem_0, findI, Runs_some]
  | succ m ih =>
    intro k i hi hk x0 x1 x4 x6 x7 x8 x9 x10 x11 x12 x13 x14 x15 x16 x17 x18 x19 x20 x21 h
    subst hi
    have hlt : k < rows.length := by omega
    have hw := wrap_small (k := k) (by unfold maxLen at hl; omega)
    obtain ⟨a', b', s', fs, hrk, _⟩ := item_row4 (hr _ (List.getElem_mem hlt))
    have hp : isK a b s rows[k] = (a' == a && (b' == b && s' == s)) := by rw [hrk]; rfl
    have hq : eqLs [.i, .i, .s] [.pv (.int .i64 a'), .pv (.int .i64 b'), .pv (.str s')] [.pv (.int .i64 a), .pv (.int .i64 b), .pv (.str s)] = some (isK a b s rows[k]) := by rw [hp]; simp [eqLs, eqL]
    have key := ih (k + 1) ((k : Int) + 1) (by omega) (by omega)
    clear ih
    rw [List.drop_eq_getElem_cons hlt]
    simp only [findI]
    generalize findI (isK a b s) (rows.drop (k + 1)) (k + 1) = B at key ⊢
    rw [loopL_go0 hF]
    generalize isK a b s rows[k] = q at hq ⊢; cases q <;>
      first
      | omega
      | (simp [b_spec_FindItem_0, hlt, hw, hrk, hq]
         exact key _ _ _ _ _ _ _ _ _ _ _ _ _ _ _ _ _ _ _ _)
      | (simp [b_spec_FindItem_0, hlt, hw, hrk, hq, Runs_some]; done)
theorem sfit_loop' {nm : List UInt8} {rows : List (List PV)} {nx a b : Int} {s : List UInt8} (hl : rows.length ≤ maxLen) (hr : ∀ r ∈ rows, HasL t_ItemS r) : ∀ (m k : Nat) (i : Int), i = k → k + m = rows.length → ∀ (x0 x1 x4 x6 x7 x8 x9 x10 x11 x12 x13 x14 x15 x16 x17 x18 x19 x20 x21 : V) (h : List AObj) (σ : St), σ = ⟨(x0 :: x1 :: .one (.ptr 0 0 0) :: .one (.ptr 1 0 0) :: x4 :: vint .i64 i :: x6 :: x7 :: x8 :: x9 :: x10 :: x11 :: x12 :: x13 :: x14 :: x15 :: x16 :: x17 :: x18 :: x19 :: x20 :: x21 :: []), .box [.pv (.str nm), .pv (.lst rows), .pv (.int .i64 nx)] :: .box [.pv (.int .i64 a), .pv (.int .i64 b), .pv (.str s)] :: h⟩ →
    Runs (loopL (exec (callL Ph extF) loopL b_spec_FindItem_0) σ) fun e σ' => (e = .exit 0 ∧ findI (isK a b s) (rows.drop k) k = -1 ∧ ∃ (x0 x1 x4 x6 x7 x8 x9 x10 x11 x12 x13 x14 x15 x16 x17 x18 x19 x20 x21 : V) (h' : List AObj), σ' = ⟨(x0 :: x1 :: .one (.ptr 0 0 0) :: .one (.ptr 1 0 0) :: x4 :: vint .i64 (rows.length : Nat) :: x6 :: x7 :: x8 :: x9 :: x10 :: x11 :: x12 :: x13 :: x14 :: x15 :: x16 :: x17 :: x18 :: x19 :: x20 :: x21 :: []), .box [.pv (.str nm), .pv (.lst rows), .pv (.int .i64 nx)] :: .box [.pv (.int .i64 a), .pv (.int .i64 b), .pv (.str s)] :: h'⟩) ∨ (e = .ret ∧ σ'.t.length = 22 ∧ σ'.t[4]? = some (vint .i64 (findI (isK a b s) (rows.drop k) k))) := by
  intro m k i hi hk x0 x1 x4 x6 x7 x8 x9 x10 x11 x12 x13 x14 x15 x16 x17 x18 x19 x20 x21 h σ hσ
  subst hσ
  exact sfit_loop hl hr m k i hi hk x0 x1 x4 x6 x7 x8 x9 x10 x11 x12 x13 x14 x15 x16 x17 x18 x19 x20 x21 h
theorem spec_FindItem_ok {nm : List UInt8} {rows : List (List PV)} {nx : Int} (h : Has (.lst t_ItemS) (.lst rows)) (a b : Int) (s : List UInt8) : callL Ph extF 184 [.agg [.pv (.str nm), .pv (.lst rows), .pv (.int .i64 nx)], .agg [.pv (.int .i64 a), .pv (.int .i64 b), .pv (.str s)]] = some (vint .i64 (findI (isK a b s) rows 0)) := by
  obtain ⟨hl, hr⟩ := Has_rows h
  refine callL_fn (fn := f_spec_FindItem) rfl ?_
  have LP := sfit_loop' (nm := nm) (nx := nx) (a := a) (b := b) (s := s) hl hr rows.length 0 0 rfl (by omega)
  simp only [List.drop_zero] at LP
  generalize hF : exec (callL Ph extF) loopL b_spec_FindItem_0 = F at LP
  simp [f_spec_FindItem, hF]
  generalize hσ : St.mk _ _ = σ0
  obtain ⟨e, σ', q1, q3⟩ := (LP _ _ _ _ _ _ _ _ _ _ _ _ _ _ _ _ _ _ _ _ σ0 hσ.symm).get
  rw [q1]
  rcases q3 with ⟨rfl, q4, x0, x1, x4, x6, x7, x8, x9, x10, x11, x12, x13, x14, x15, x16, x17, x18, x19, x20, x21, h', rfl⟩ | ⟨rfl, q5, q7⟩
  · simp [q4]
  · obtain ⟨_, q8⟩ := List.getElem?_eq_some_iff.1 q7
    simp [q5, q8]

/-! ### GetField -/
def isFd (nm : List UInt8) : List PV → Bool
  | .str a :: _ => a == nm
  | _ => false
theorem impl_fieldAt1_ok {r : List PV} (h : HasL t_FieldS r) (nm : List UInt8) : callL Ph extF 241 (.agg (r.map .pv) :: [[.str nm]].map capV) = some (vbool (isFd nm r)) := by
  obtain ⟨a, n, rfl⟩ := field_row2 h
  refine callL_fn (fn := f_impl_fieldAt_1) rfl ?_
  simp [f_impl_fieldAt_1, capV, isFd]
theorem impl_fieldAt_ok {rows : List (List PV)} (h : Has (.lst t_FieldS) (.lst rows)) (nm : List UInt8) : callL Ph extF 217 [.agg [.pv (.lst rows)], vstr nm] = some (vint .i64 (findI (isFd nm) rows 0)) := by
  obtain ⟨hl, hr⟩ := Has_rows h
  have e1 : callL Ph extF 240 [vlst rows, .one (.fn 241 [[.str nm]])] = some (vint .i64 (findI (isFd nm) rows 0)) :=
    ixF_ok (z := 2) rfl hl (fun r m => HasL_len (hr r m)) (fun r m => impl_fieldAt1_ok (hr r m) nm)
  refine callL_fn (fn := f_impl_fieldAt) rfl ?_
  simp [f_impl_fieldAt, capsOf, capOf, e1]
end Gi
