/- impl.PutItem: invalid arguments; an item that is there -/
import Derived.Test.YtldmjoillnhebaaGreatGxf
namespace Gi
open Go Go.RowKit
set_option linter.unusedSimpArgs false
set_option linter.unusedVariables false
set_option maxHeartbeats 8000000
set_option maxRecDepth 4000
attribute [local simp] start execOps stepO wants fop eop Opd.ev put V.cells plain loadV cut isInt isStr isBool bin binInt binStr_neq binStr_eql un asList L.view viewArgs V.view viewL finish resultsOf resultOf comps comp giveLs giveL arrs_e arrs_pv arrs_nil arrs_arr arrs_dat view_dat plain_dat mut_dat freeze_dat give_dat ren_dat notArr_dat setL_own setL_dat flat_dat thaw_dat thawT fillL cellsP rowsP isVar bound loadV V.flat L.flat setV setL storeV putAt thaw thawL freezeVs freezeLs freezeL V.mut L.mut elemPtr viewRows wp_seq wp_block wp_region wp_cond wp_skip wp_exit wp_ret wp_end wp_sqN wp_sqR wp_sqE wp_bkN wp_bkR wp_bkE Fin_ret Fin_normal L.notArr keepM_t keepM_f keepM_n setT_c setT_n

section
variable {B : Nat} {s : XStore} {k : XKey} {r : XRecord}
theorem impl_PutItem_bad (hB : B ≤ 1048576) (hs : s.Ok B) (hk : k.Ok B) (hr : r.Ok B) (hx : isStoreX s = false ∨ isKeyX k = false) : callL Ph extF 342 [.agg [.pv (.str s.name), .pv (.lst (s.items.map XItem.e)), .pv (.int .i64 s.auto)], .agg [.pv (.int .i64 k.kind), .pv (.int .i64 k.n), .pv (.str k.text)], .agg [.pv (.lst (r.fs.map XField.e))]] = some (putRes (putX s k r)) := by
  have hM : B ≤ maxLen := by unfold maxLen; omega
  have e1 := impl_IsStore_ok hM hs
  have e2 := impl_IsKeyX_ok (Nat.le_trans hk.2.2 hM)
  have e3 := impl_copyStoreX_ok hB hs
  have e4 := impl_copyRecX_ok hB hr
  have e5 := impl_FindItemX_ok (k := k) hM hs
  have hl : s.items.length ≤ 1048576 := Nat.le_trans hs.2.1.1 hB
  unfold stRes at e3
  refine callL_wp (fn := f_impl_PutItem) rfl ?_
  cases c1 : isStoreX s <;> rw [c1] at e1
  · rw [putX_bad (.inl c1)]
    unfold putRes
    cases hq : s.items with
    | nil =>
      rw [hq] at e1 e3
      simp [ownZ] at e3
      simp at e1
      simp [f_impl_PutItem, e1, e3, ownZ]
    | cons x xs =>
      rw [← hq]
      have hne : s.items.map XItem.e ≠ [] := by rw [hq]; simp
      rw [ownZ_ne hne] at e3 ⊢
      simp [f_impl_PutItem, e1, e3]
  cases c2 : isKeyX k <;> rw [c2] at e2
  · rw [putX_bad (.inr c2)]
    unfold putRes
    cases hq : s.items with
    | nil =>
      rw [hq] at e1 e3
      simp [ownZ] at e3
      simp at e1
      simp [f_impl_PutItem, e1, e2, e3, ownZ]
    | cons x xs =>
      rw [← hq]
      have hne : s.items.map XItem.e ≠ [] := by rw [hq]; simp
      rw [ownZ_ne hne] at e3 ⊢
      simp [f_impl_PutItem, e1, e2, e3]
  rcases hx with h | h
  · rw [h] at c1; cases c1
  · rw [h] at c2; cases c2
theorem impl_PutItem_set (hB : B ≤ 1048576) (hs : s.Ok B) (hk : k.Ok B) (hr : r.Ok B) (c1 : isStoreX s = true) (c2 : isKeyX k = true) (hneg : ¬ fndX s k < 0) : callL Ph extF 342 [.agg [.pv (.str s.name), .pv (.lst (s.items.map XItem.e)), .pv (.int .i64 s.auto)], .agg [.pv (.int .i64 k.kind), .pv (.int .i64 k.n), .pv (.str k.text)], .agg [.pv (.lst (r.fs.map XField.e))]] = some (putRes (putX s k r)) := by
  have hM : B ≤ maxLen := by unfold maxLen; omega
  have e1 := impl_IsStore_ok hM hs
  have e2 := impl_IsKeyX_ok (Nat.le_trans hk.2.2 hM)
  have e3 := impl_copyStoreX_ok hB hs
  have e4 := impl_copyRecX_ok hB hr
  have e5 := impl_FindItemX_ok (k := k) hM hs
  have hl : s.items.length ≤ 1048576 := Nat.le_trans hs.2.1.1 hB
  unfold stRes at e3
  refine callL_wp (fn := f_impl_PutItem) rfl ?_
  rw [c1] at e1
  rw [c2] at e2
  obtain ⟨j, hj, hfi, hkk⟩ := fndX_at hneg
  have e7 := impl_IsStore_ok hM (setI_ok hs hk hr j)
  rw [isStore_set c1 hj hkk] at e7
  rw [putX_set c1 c2 hfi]
  rw [hfi] at e5
  have hm := isK_map (r := r) hj hkk
  simp only [← hm] at e7
  have hx := XItem_e s.items[j]
  have hne : s.items.map XItem.e ≠ [] := fun h => by
    have : (s.items.map XItem.e).length = 0 := by rw [h]; rfl
    simp at this
    rw [this] at hj
    simp at hj
  have hne2 : (s.items.set j ⟨k, r⟩).map XItem.e ≠ [] := fun h => by
    have : ((s.items.set j ⟨k, r⟩).map XItem.e).length = 0 := by rw [h]; rfl
    simp at this
    rw [this] at hj
    simp at hj
  rw [ownZ_ne hne] at e3
  have hj0 : ¬ (j : Int) < 0 := by omega
  unfold putRes
  generalize isRecX r = c at e7 ⊢
  cases c
  · simp only [cond_false, ownZ_ne hne]
    simp [f_impl_PutItem, e1, e2, e3, e4, e5, hj, hx, e7]
  · have hE : ownZ 4 ((s.items.set j ⟨k, r⟩).map XItem.e) = .own 4 ((s.items.map XItem.e).set j [.int .i64 s.items[j].key.kind, .int .i64 s.items[j].key.n, .str s.items[j].key.text, .lst (r.fs.map XField.e)]) := by rw [ownZ_ne hne2, ← hm]
    simp only [cond_true, hE]
    simp [f_impl_PutItem, e1, e2, e3, e4, e5, hj, hx, e7]
end
end Gi
