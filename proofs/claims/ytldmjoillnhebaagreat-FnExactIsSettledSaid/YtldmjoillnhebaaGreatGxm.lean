/- Stores compared: EqualStores both. -/
import Derived.Test.YtldmjoillnhebaaGreatGxl
namespace Gi
open Go Go.RowKit
set_option linter.unusedSimpArgs false
set_option linter.unusedVariables false
set_option maxHeartbeats 8000000
set_option maxRecDepth 4000
attribute [local simp] start execOps stepO wants fop eop Opd.ev put V.cells plain loadV cut isInt isStr isBool bin binInt binStr_neq binStr_eql un asList L.view viewArgs V.view viewL finish resultsOf resultOf comps comp giveLs giveL arrs_e arrs_pv arrs_nil arrs_arr arrs_dat view_dat plain_dat mut_dat freeze_dat give_dat ren_dat notArr_dat setL_own setL_dat flat_dat thaw_dat thawT fillL cellsP rowsP isVar bound loadV V.flat L.flat setV setL storeV putAt thaw thawL freezeVs freezeLs freezeL V.mut L.mut elemPtr viewRows wp_seq wp_block wp_region wp_cond wp_skip wp_exit wp_ret wp_end wp_sqN wp_sqR wp_sqE wp_bkN wp_bkR wp_bkE Fin_ret Fin_normal L.notArr keepM_t keepM_f keepM_n setT_c setT_n

theorem eqK_ls (a b : XKey) : eqLs [.i, .i, .s] [.pv (.int .i64 a.kind), .pv (.int .i64 a.n), .pv (.str a.text)] [.pv (.int .i64 b.kind), .pv (.int .i64 b.n), .pv (.str b.text)] = some (eqKX a b) := by simp [eqLs, eqL, eqKX]
section
variable {B : Nat}
theorem impl_equalItems_ok (hB : B ≤ maxLen) {a b : XItem} (ha : a.Ok B) (hb : b.Ok B) : callL Ph extF 325 [.agg [.pv (.int .i64 a.key.kind), .pv (.int .i64 a.key.n), .pv (.str a.key.text), .pv (.lst (a.rcd.fs.map XField.e))], .agg [.pv (.int .i64 b.key.kind), .pv (.int .i64 b.key.n), .pv (.str b.key.text), .pv (.lst (b.rcd.fs.map XField.e))]] = some (vbool (eqI a b)) := by
  have e1 := impl_EqualRecords_ok (a := a.rcd) (b := b.rcd) (Nat.le_trans ha.2.1 hB) (Nat.le_trans hb.2.1 hB)
  have e2 := eqK_ls a.key b.key
  refine callL_wp (fn := f_impl_equalItems) rfl ?_
  unfold eqI
  generalize eqKX a.key b.key = K at e2 ⊢
  generalize eqRX a.rcd b.rcd = R at e1 ⊢
  cases K
  · simp [f_impl_equalItems, e2]
  · simp [f_impl_equalItems, e2, e1]
theorem equalFunc_ok (hB : B ≤ maxLen) {a b : List XItem} (ha : a.length ≤ B ∧ ∀ x ∈ a, x.Ok B) (hb : b.length ≤ B ∧ ∀ x ∈ b, x.Ok B) : callL Ph extF 324 [vlst (a.map XItem.e), vlst (b.map XItem.e), .one (.fn 325 [])] = some (vbool (eqAll eqI a b)) := by
  have hbm := Nat.le_trans hb.1 hB
  have e1 : ∀ k (h1 : k < a.length) (h2 : k < b.length), _ := fun k h1 h2 => impl_equalItems_ok hB (ha.2 _ (List.getElem_mem h1)) (hb.2 _ (List.getElem_mem h2))
  refine callL_wp (fn := f_slices_EqualFunc_impl_Item_impl_Item_impl_Item_impl_Item) rfl ?_
  by_cases hl : a.length = b.length
  · have hlb : ((a.length : Int) != (b.length : Int)) = false := by simp [hl]
    simp [f_slices_EqualFunc_impl_Item_impl_Item_impl_Item_impl_Item, hl, hlb]
    refine wp_scanM tidyF Cl.fin [false, true, true, false, false, false, false, false, false, false, false, false, false, false, false, true, true, true, false, false, false, false, false, false, false, false, false, false, false, false, false, false] (fun k => [(17, vint .i64 k)]) b.length (neAt eqI a b) rfl ?_ ?_ ?_ ?_
    · exact Kn.of [] (by decide) (by simp [keepM_t, keepM_f, keepM_n, setT_c, setT_n, relVs, relV, relLs, relL, relTs, relObs, relOb, L.ren, ren_dat]) (by simp [keepM_t, keepM_f, keepM_n, setT_c, setT_n, relVs, relV, relLs, relL, relTs, relObs, relOb, L.ren, ren_dat])
    · intro k hk hp
      have hka : k < a.length := by omega
      have hw := wrap_small (k := k) (by unfold maxLen at hbm; omega)
      have hx := XItem_e a[k]
      have hy := XItem_e b[k]
      have e1k := e1 k hka hk
      rw [neAt_at hka hk] at hp
      have hq : eqI a[k] b[k] = true := by simpa using hp
      rw [hq] at e1k
      simp [b_slices_EqualFunc_impl_Item_impl_Item_impl_Item_impl_Item_0, hk, hka, hl, hx, hy, e1k, hw]
      exact Kn.of [] (by decide) (by simp [keepM_t, keepM_f, keepM_n, setT_c, setT_n, relVs, relV, relLs, relL, relTs, relObs, relOb, L.ren, ren_dat]) (by simp [keepM_t, keepM_f, keepM_n, setT_c, setT_n, relVs, relV, relLs, relL, relTs, relObs, relOb, L.ren, ren_dat])
    · intro k hk hp _
      have hka : k < a.length := by omega
      have hx := XItem_e a[k]
      have hy := XItem_e b[k]
      have e1k := e1 k hka hk
      rw [eqAll_no hka hp]
      rw [neAt_at hka hk] at hp
      have hq : eqI a[k] b[k] = false := by simpa using hp
      rw [hq] at e1k
      simp [b_slices_EqualFunc_impl_Item_impl_Item_impl_Item_impl_Item_0, hk, hka, hl, hx, hy, e1k]
    · intro hp
      rw [eqAll_yes hl (fun k hk => hp k (by omega))]
      simp [b_slices_EqualFunc_impl_Item_impl_Item_impl_Item_impl_Item_0, hl]
  · have hlb : ((a.length : Int) != (b.length : Int)) = true := by simp; omega
    rw [eqAll_len hl]
    simp [f_slices_EqualFunc_impl_Item_impl_Item_impl_Item_impl_Item, hl, hlb]
theorem impl_EqualStores_ok (hB : B ≤ maxLen) {a b : XStore} (ha : a.Ok B) (hb : b.Ok B) : callL Ph extF 312 [.agg [.pv (.str a.name), .pv (.lst (a.items.map XItem.e)), .pv (.int .i64 a.auto)], .agg [.pv (.str b.name), .pv (.lst (b.items.map XItem.e)), .pv (.int .i64 b.auto)]] = some (vbool (eqSX a b)) := by
  have e1 := equalFunc_ok hB ha.2.1 hb.2.1
  refine callL_wp (fn := f_impl_EqualStores) rfl ?_
  unfold eqSX
  generalize eqAll eqI a.items b.items = R at e1 ⊢
  have l1 : binStr .eql a.name b.name = some (vbool (a.name == b.name)) := rfl
  generalize hn : (a.name == b.name) = N at l1 ⊢
  generalize hu : (a.auto == b.auto) = U
  cases N
  · simp [f_impl_EqualStores, ↓l1, hn, hu]
  · cases U
    · simp [f_impl_EqualStores, ↓l1, hn, hu]
    · simp [f_impl_EqualStores, ↓l1, hn, hu, e1]
theorem spec_EqualStores_ok (hB : B ≤ maxLen) {a b : XStore} (ha : a.Ok B) (hb : b.Ok B) : callL Ph extF 310 [.agg [.pv (.str a.name), .pv (.lst (a.items.map XItem.e)), .pv (.int .i64 a.auto)], .agg [.pv (.str b.name), .pv (.lst (b.items.map XItem.e)), .pv (.int .i64 b.auto)]] = some (vbool (eqSX a b)) := by
  have hbm := Nat.le_trans hb.2.1.1 hB
  have e1 : ∀ k (h1 : k < a.items.length) (h2 : k < b.items.length), callL Ph extF 322 [.agg [.pv (.lst (a.items[k].rcd.fs.map XField.e))], .agg [.pv (.lst (b.items[k].rcd.fs.map XField.e))]] = some (vbool (eqRX a.items[k].rcd b.items[k].rcd)) := fun k h1 h2 => spec_EqualRecords_ok (Nat.le_trans (ha.2.1.2 _ (List.getElem_mem h1)).2.1 hB) (Nat.le_trans (hb.2.1.2 _ (List.getElem_mem h2)).2.1 hB)
  obtain ⟨an, ai, au⟩ := a
  obtain ⟨bn, bi, bu⟩ := b
  simp only at e1 hbm ⊢
  refine callL_wp (fn := f_spec_EqualStores) rfl ?_
  unfold eqSX
  simp only
  cases hn : (an == bn)
  · simp [f_spec_EqualStores, hn]
  by_cases hu : au = bu
  · subst hu
    by_cases hl : ai.length = bi.length
    · have hlb : ((ai.length : Int) != (bi.length : Int)) = false := by simp [hl]
      simp [f_spec_EqualStores, hn, hl, hlb]
      refine wp_scanM tidyF Cl.fin [false, false, true, true, false, true, false, false, false, false, false, false, false, false, false, false, false, false, false, false, false, false, false, false, false, false, false, false, false, false, false, false, false, false, false, false, false, false, false, false, false, false, false, false, false, false, false, false, false, false, false, false, false, false, false, false, false, false, false, false, false, false, false] (fun k => [(5, vint .i64 k)]) bi.length (neAt eqI ai bi) rfl ?_ ?_ ?_ ?_
      · exact Kn.of [0, 1] (by decide) (by simp [keepM_t, keepM_f, keepM_n, setT_c, setT_n, relVs, relV, relLs, relL, relTs, relObs, relOb, L.ren, ren_dat]) (by simp [keepM_t, keepM_f, keepM_n, setT_c, setT_n, relVs, relV, relLs, relL, relTs, relObs, relOb, L.ren, ren_dat])
      · intro k hk hp
        have hka : k < ai.length := by omega
        have hw := wrap_small (k := k) (by unfold maxLen at hbm; omega)
        have hx := XItem_e ai[k]
        have hy := XItem_e bi[k]
        have e1k := e1 k hka hk
        have e2 := eqK_ls ai[k].key bi[k].key
        rw [neAt_at hka hk] at hp
        have hq : eqKX ai[k].key bi[k].key = true ∧ eqRX ai[k].rcd bi[k].rcd = true := by simpa [eqI] using hp
        rw [hq.1] at e2
        rw [hq.2] at e1k
        simp [b_spec_EqualStores_0, hk, hka, hl, hx, hy, e1k, e2, hw]
        exact Kn.of [0, 1] (by decide) (by simp [keepM_t, keepM_f, keepM_n, setT_c, setT_n, relVs, relV, relLs, relL, relTs, relObs, relOb, L.ren, ren_dat]) (by simp [keepM_t, keepM_f, keepM_n, setT_c, setT_n, relVs, relV, relLs, relL, relTs, relObs, relOb, L.ren, ren_dat])
      · intro k hk hp _
        have hka : k < ai.length := by omega
        have hx := XItem_e ai[k]
        have hy := XItem_e bi[k]
        have e1k := e1 k hka hk
        have e2 := eqK_ls ai[k].key bi[k].key
        rw [eqAll_no hka hp]
        rw [neAt_at hka hk] at hp
        unfold eqI at hp
        cases h1 : eqKX ai[k].key bi[k].key <;> rw [h1] at e2 hp
        · simp [b_spec_EqualStores_0, hk, hka, hl, hx, hy, e2]
        · have h2 : eqRX ai[k].rcd bi[k].rcd = false := by simpa using hp
          rw [h2] at e1k
          simp [b_spec_EqualStores_0, hk, hka, hl, hx, hy, e2, e1k]
      · intro hp
        rw [eqAll_yes hl (fun k hk => hp k (by omega))]
        simp [b_spec_EqualStores_0, hl]
    · have hlb : ((ai.length : Int) != (bi.length : Int)) = true := by simp; omega
      rw [eqAll_len hl]
      simp [f_spec_EqualStores, hn, hl, hlb]
  · have hub : (au != bu) = true := by simpa using hu
    simp [f_spec_EqualStores, hn, hu, hub]
end
end Gi
