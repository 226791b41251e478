/- impl.PutItem: into an empty store -/
import Derived.Test.YtldmjoillnhebaaGreatGxf
namespace Gi
open Go Go.RowKit
set_option linter.unusedSimpArgs false
set_option linter.unusedVariables false
set_option maxHeartbeats 8000000
set_option maxRecDepth 4000
attribute [local simp] start execOps stepO wants fop eop Opd.ev put V.cells plain loadV cut isInt isStr isBool bin binInt binStr_neq binStr_eql un asList L.view viewArgs V.view viewL finish resultsOf resultOf comps comp giveLs giveL arrs_e arrs_pv arrs_nil arrs_arr arrs_dat view_dat plain_dat mut_dat freeze_dat give_dat ren_dat notArr_dat setL_own setL_dat flat_dat thaw_dat thawT fillL cellsP rowsP isVar bound loadV V.flat L.flat setV setL storeV putAt thaw thawL freezeVs freezeLs freezeL V.mut L.mut elemPtr viewRows wp_seq wp_block wp_region wp_cond wp_skip wp_exit wp_ret wp_end wp_sqN wp_sqR wp_sqE wp_bkN wp_bkR wp_bkE Fin_ret Fin_normal L.notArr keepM_t keepM_f keepM_n setT_c setT_n

section
variable {B : Nat} {s : XStore} {k : XKey} {r : XRecord}
theorem ownZ_nil {z : Nat} : ownZ z [] = .nil := rfl
theorem impl_PutItem_nil (hB : B ≤ 1048576) (hs : s.Ok B) (hk : k.Ok B) (hr : r.Ok B) (c1 : isStoreX s = true) (c2 : isKeyX k = true) (hneg : fndX s k < 0) (hq : s.items = []) : callL Ph extF 342 [.agg [.pv (.str s.name), .pv (.lst (s.items.map XItem.e)), .pv (.int .i64 s.auto)], .agg [.pv (.int .i64 k.kind), .pv (.int .i64 k.n), .pv (.str k.text)], .agg [.pv (.lst (r.fs.map XField.e))]] = some (putRes (putX s k r)) := by
  have hM : B ≤ maxLen := by unfold maxLen; omega
  have e1 := impl_IsStore_ok hM hs
  have e2 := impl_IsKeyX_ok (Nat.le_trans hk.2.2 hM)
  have e3 := impl_copyStoreX_ok hB hs
  have e4 := impl_copyRecX_ok hB hr
  have e5 := impl_FindItemX_ok (k := k) hM hs
  have hl : s.items.length ≤ 1048576 := Nat.le_trans hs.2.1.1 hB
  unfold stRes at e3
  refine callL_wp (fn := f_impl_PutItem) rfl ?_
  rw [c1] at e1
  rw [c2] at e2
  have e7 := impl_IsStore_ok (s := ⟨s.name, insX s k r, autoN s k⟩) (by unfold maxLen; omega) (insX_ok hs hk hr)
  rw [isStore_ins c1 c2 hneg] at e7
  rw [putX_ins c1 c2 hneg]
  have e6 : ∀ j (hj : j < s.items.length), callL Ph extF 355 [.agg [.pv (.int .i64 s.items[j].key.kind), .pv (.int .i64 s.items[j].key.n), .pv (.str s.items[j].key.text)], .agg [.pv (.int .i64 k.kind), .pv (.int .i64 k.n), .pv (.str k.text)]] = some (vint .i64 (cmpK s.items[j].key k)) := fun j hj => impl_CompareKeys_ok (Nat.le_trans (hs.2.1.2 _ (List.getElem_mem hj)).1.2.2 hM) (Nat.le_trans hk.2.2 hM)
  have hp := posI_le s.items k
  have hm : (insX s k r).map XItem.e = (s.items.map XItem.e).take (posI s.items k) ++ ([.int .i64 k.kind, .int .i64 k.n, .str k.text, .lst (r.fs.map XField.e)] :: (s.items.map XItem.e).drop (posI s.items k)) := insI_map k r s.items _
  have hins : insX s k r ≠ [] := by unfold insX; simp
  have hmne : (insX s k r).map XItem.e ≠ [] := by simpa using hins
  generalize hI : fndX s k = I at e5 hneg
  have hneg2 : ¬ 0 ≤ I := by omega
  have fin : ∀ (c : Bool) (hc : (isRecX r && decide (s.items.length + 1 ≤ 16)) = c), True := fun _ _ => trivial
  generalize (isRecX r && decide (s.items.length + 1 ≤ 16)) = c at e7 ⊢
  have hau : (k.kind = 1 ∧ s.auto < k.n ∧ k.n ≤ 1000000 ∧ autoN s k = k.n) ∨ (autoN s k = s.auto ∧ (¬ k.kind = 1 ∨ (k.kind = 1 ∧ ¬ s.auto < k.n) ∨ (k.kind = 1 ∧ s.auto < k.n ∧ ¬ k.n ≤ 1000000))) := by
    unfold autoN
    by_cases q1 : k.kind = 1
    · by_cases q2 : s.auto < k.n
      · by_cases q3 : k.n ≤ 1000000
        · simp [q1, q2, q3]
        · simp [q1, q2, q3]
      · simp [q1, q2]
    · simp [q1]
  have hr0 : s.items.map XItem.e = [] := by rw [hq]; rfl
  rw [hr0] at e1 e3 e5 hm
  simp only [ownZ] at e3
  simp only [List.take_nil, List.drop_nil, List.nil_append] at hm
  clear e6 hp hins hl hs
  rw [hr0]
  have m1 := lims (m := 1) (z := 56) (by decide) (by decide)
  rw [hm] at e7
  have hE : ownZ 4 ((insX s k r).map XItem.e) = .own 4 [[.int .i64 k.kind, .int .i64 k.n, .str k.text, .lst (r.fs.map XField.e)]] := by rw [hm]; rfl
  unfold putRes
  rcases hau with ⟨q1, q2, q3, q4⟩ | ⟨q4, q1 | ⟨q1, q2⟩ | ⟨q1, q2, q3⟩⟩ <;> rw [q4] at e7
  · have q1b : (k.kind == 1) = true := by simpa using q1
    cases c <;> simp only [cond_true, cond_false, hE, hr0, ownZ_nil, q4] <;> simp [f_impl_PutItem, b_impl_PutItem_0, wp_round, e1, e2, e3, e4, e5, hneg, hneg2, m1, q1b, q2, q3, e7]
  · have q1b : (k.kind == 1) = false := by simpa using q1
    cases c <;> simp only [cond_true, cond_false, hE, hr0, ownZ_nil, q4] <;> simp [f_impl_PutItem, b_impl_PutItem_0, wp_round, e1, e2, e3, e4, e5, hneg, hneg2, m1, q1b, e7]
  · have q1b : (k.kind == 1) = true := by simpa using q1
    cases c <;> simp only [cond_true, cond_false, hE, hr0, ownZ_nil, q4] <;> simp [f_impl_PutItem, b_impl_PutItem_0, wp_round, e1, e2, e3, e4, e5, hneg, hneg2, m1, q1b, q2, e7]
  · have q1b : (k.kind == 1) = true := by simpa using q1
    cases c <;> simp only [cond_true, cond_false, hE, hr0, ownZ_nil, q4] <;> simp [f_impl_PutItem, b_impl_PutItem_0, wp_round, e1, e2, e3, e4, e5, hneg, hneg2, m1, q1b, q2, q3, e7]
end
end Gi
