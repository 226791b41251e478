/- Stores compared. -/
import Derived.Test.YtldmjoillnhebaaGreatGxb
import Derived.Test.YtldmjoillnhebaaGreatGsq
namespace Gi
open Go Go.RowKit
set_option linter.unusedSimpArgs false
set_option linter.unusedVariables false
set_option maxHeartbeats 8000000
set_option maxRecDepth 4000
attribute [local simp] start execOps stepO wants fop eop Opd.ev put V.cells plain loadV cut isInt isStr isBool bin binInt binStr_neq binStr_eql un asList L.view viewArgs V.view viewL finish resultsOf resultOf comps comp giveLs giveL arrs_e arrs_pv arrs_nil arrs_arr arrs_dat view_dat plain_dat mut_dat freeze_dat give_dat ren_dat notArr_dat setL_own setL_dat flat_dat thaw_dat thawT fillL cellsP rowsP isVar bound loadV V.flat L.flat setV setL storeV putAt thaw thawL freezeVs freezeLs freezeL V.mut L.mut elemPtr viewRows wp_seq wp_block wp_region wp_cond wp_skip wp_exit wp_ret wp_end wp_sqN wp_sqR wp_sqE wp_bkN wp_bkR wp_bkE Fin_ret Fin_normal L.notArr keepM_t keepM_f keepM_n setT_c setT_n

def neAt {α : Type} (q : α → α → Bool) (a b : List α) (k : Nat) : Bool := match a[k]?, b[k]? with
  | some x, some y => !(q x y)
  | _, _ => false
def eqAll {α : Type} (q : α → α → Bool) (a b : List α) : Bool := decide (a.length = b.length) && !((List.range a.length).any (neAt q a b))
theorem neAt_at {α : Type} {q : α → α → Bool} {a b : List α} {k : Nat} (h1 : k < a.length) (h2 : k < b.length) : neAt q a b k = !(q a[k] b[k]) := by simp [neAt, h1, h2]
theorem eqAll_len {α : Type} {q : α → α → Bool} {a b : List α} (h : ¬ a.length = b.length) : eqAll q a b = false := by simp [eqAll, h]
theorem eqAll_no {α : Type} {q : α → α → Bool} {a b : List α} {k : Nat} (hk : k < a.length) (h : neAt q a b k = true) : eqAll q a b = false := by unfold eqAll; rw [range_any_t hk h]; simp
theorem eqAll_yes {α : Type} {q : α → α → Bool} {a b : List α} (hl : a.length = b.length) (h : ∀ k, k < a.length → neAt q a b k = false) : eqAll q a b = true := by unfold eqAll; rw [range_any h]; simp [hl]
def eqF (a b : XField) : Bool := a.name == b.name && (a.n == b.n && true)
def eqRX (a b : XRecord) : Bool := eqAll eqF a.fs b.fs
def eqKX (a b : XKey) : Bool := a.kind == b.kind && (a.n == b.n && (a.text == b.text && true))
def eqI (a b : XItem) : Bool := eqKX a.key b.key && eqRX a.rcd b.rcd
def eqSX (a b : XStore) : Bool := a.name == b.name && (a.auto == b.auto && eqAll eqI a.items b.items)
section
variable {a b : List XField}
theorem slicesEqualF_ok (ha : a.length ≤ maxLen) (hb : b.length ≤ maxLen) : callL Ph extF 352 [vlst (a.map XField.e), vlst (b.map XField.e)] = some (vbool (eqAll eqF a b)) := by
  refine callL_wp (fn := f_slices_Equal_impl_Field_impl_Field) rfl ?_
  by_cases hl : a.length = b.length
  · have hlb : ((a.length : Int) != (b.length : Int)) = false := by simp [hl]
    simp [f_slices_Equal_impl_Field_impl_Field, hl, hlb]
    refine wp_scanM tidyF Cl.fin [true, true, false, false, false, false, false, false, false, false, false, false, true, true, false, false, false, false, false, false, false, false, false, false, false, false] (fun k => [(13, vint .i64 k)]) b.length (neAt eqF a b) rfl ?_ ?_ ?_ ?_
    · exact Kn.of [] (by decide) (by simp [keepM_t, keepM_f, keepM_n, setT_c, setT_n, relVs, relV, relLs, relL, relTs, relObs, relOb, L.ren, ren_dat]) (by simp [keepM_t, keepM_f, keepM_n, setT_c, setT_n, relVs, relV, relLs, relL, relTs, relObs, relOb, L.ren, ren_dat])
    · intro k hk hp
      have hka : k < a.length := by omega
      have hw := wrap_small (k := k) (by unfold maxLen at hb; omega)
      have hx := XField_e a[k]
      have hy := XField_e b[k]
      rw [neAt_at hka hk] at hp
      have hq : (a[k].name == b[k].name && (a[k].n == b[k].n && true)) = true := by simpa [eqF] using hp
      have hqs : eqLs [.s, .i] [.pv (.str a[k].name), .pv (.int .i64 a[k].n)] [.pv (.str b[k].name), .pv (.int .i64 b[k].n)] = some true := by simp only [eqLs, eqL, if_true]; rw [hq]
      simp [b_slices_Equal_impl_Field_impl_Field_0, hk, hka, hl, hx, hy, hqs, hw]
      exact Kn.of [] (by decide) (by simp [keepM_t, keepM_f, keepM_n, setT_c, setT_n, relVs, relV, relLs, relL, relTs, relObs, relOb, L.ren, ren_dat]) (by simp [keepM_t, keepM_f, keepM_n, setT_c, setT_n, relVs, relV, relLs, relL, relTs, relObs, relOb, L.ren, ren_dat])
    · intro k hk hp _
      have hka : k < a.length := by omega
      have hx := XField_e a[k]
      have hy := XField_e b[k]
      rw [eqAll_no hka hp]
      rw [neAt_at hka hk] at hp
      have hq : (a[k].name == b[k].name && (a[k].n == b[k].n && true)) = false := (Bool.not_eq_true' _).mp hp
      have hqs : eqLs [.s, .i] [.pv (.str a[k].name), .pv (.int .i64 a[k].n)] [.pv (.str b[k].name), .pv (.int .i64 b[k].n)] = some false := by simp only [eqLs, eqL, if_true]; rw [hq]
      simp [b_slices_Equal_impl_Field_impl_Field_0, hk, hka, hl, hx, hy, hqs]
    · intro hp
      rw [eqAll_yes hl (fun k hk => hp k (by omega))]
      simp [b_slices_Equal_impl_Field_impl_Field_0, hl]
  · have hlb : ((a.length : Int) != (b.length : Int)) = true := by simp; omega
    rw [eqAll_len hl]
    simp [f_slices_Equal_impl_Field_impl_Field, hl, hlb]
end
section
variable {a b : XRecord}
theorem impl_EqualRecords_ok (ha : a.fs.length ≤ maxLen) (hb : b.fs.length ≤ maxLen) : callL Ph extF 340 [.agg [.pv (.lst (a.fs.map XField.e))], .agg [.pv (.lst (b.fs.map XField.e))]] = some (vbool (eqRX a b)) := by
  have e1 := slicesEqualF_ok ha hb
  unfold eqRX
  refine callL_wp (fn := f_impl_EqualRecords) rfl ?_
  simp [f_impl_EqualRecords, e1]
theorem spec_EqualRecords_ok (ha : a.fs.length ≤ maxLen) (hb : b.fs.length ≤ maxLen) : callL Ph extF 322 [.agg [.pv (.lst (a.fs.map XField.e))], .agg [.pv (.lst (b.fs.map XField.e))]] = some (vbool (eqRX a b)) := by
  obtain ⟨a⟩ := a
  obtain ⟨b⟩ := b
  unfold eqRX
  simp only at ha hb ⊢
  refine callL_wp (fn := f_spec_EqualRecords) rfl ?_
  by_cases hl : a.length = b.length
  · have hlb : ((a.length : Int) != (b.length : Int)) = false := by simp [hl]
    simp [f_spec_EqualRecords, hl, hlb]
    refine wp_scanM tidyF Cl.fin [false, false, true, true, false, true, false, false, false, false, false, false, false, false, false, false, false, false, false, false, false, false, false, false, false, false, false, false, false, false, false] (fun k => [(5, vint .i64 k)]) b.length (neAt eqF a b) rfl ?_ ?_ ?_ ?_
    · exact Kn.of [0, 1] (by decide) (by simp [keepM_t, keepM_f, keepM_n, setT_c, setT_n, relVs, relV, relLs, relL, relTs, relObs, relOb, L.ren, ren_dat]) (by simp [keepM_t, keepM_f, keepM_n, setT_c, setT_n, relVs, relV, relLs, relL, relTs, relObs, relOb, L.ren, ren_dat])
    · intro k hk hp
      have hka : k < a.length := by omega
      have hw := wrap_small (k := k) (by unfold maxLen at hb; omega)
      have hx := XField_e a[k]
      have hy := XField_e b[k]
      rw [neAt_at hka hk] at hp
      have hq : (a[k].name == b[k].name && (a[k].n == b[k].n && true)) = true := by simpa [eqF] using hp
      have hqs : eqLs [.s, .i] [.pv (.str a[k].name), .pv (.int .i64 a[k].n)] [.pv (.str b[k].name), .pv (.int .i64 b[k].n)] = some true := by simp only [eqLs, eqL, if_true]; rw [hq]
      simp [b_spec_EqualRecords_0, hk, hka, hl, hx, hy, hqs, hw]
      exact Kn.of [0, 1] (by decide) (by simp [keepM_t, keepM_f, keepM_n, setT_c, setT_n, relVs, relV, relLs, relL, relTs, relObs, relOb, L.ren, ren_dat]) (by simp [keepM_t, keepM_f, keepM_n, setT_c, setT_n, relVs, relV, relLs, relL, relTs, relObs, relOb, L.ren, ren_dat])
    · intro k hk hp _
      have hka : k < a.length := by omega
      have hx := XField_e a[k]
      have hy := XField_e b[k]
      rw [eqAll_no hka hp]
      rw [neAt_at hka hk] at hp
      have hq : (a[k].name == b[k].name && (a[k].n == b[k].n && true)) = false := (Bool.not_eq_true' _).mp hp
      have hqs : eqLs [.s, .i] [.pv (.str a[k].name), .pv (.int .i64 a[k].n)] [.pv (.str b[k].name), .pv (.int .i64 b[k].n)] = some false := by simp only [eqLs, eqL, if_true]; rw [hq]
      simp [b_spec_EqualRecords_0, hk, hka, hl, hx, hy, hqs]
    · intro hp
      rw [eqAll_yes hl (fun k hk => hp k (by omega))]
      simp [b_spec_EqualRecords_0, hl]
  · have hlb : ((a.length : Int) != (b.length : Int)) = true := by simp; omega
    rw [eqAll_len hl]
    simp [f_spec_EqualRecords, hl, hlb]
end
end Gi
