/- LocalStore -/
import Derived.Test.YtldmjoillnhebaaGreatGxja
import Derived.Test.YtldmjoillnhebaaGreatGxjb
namespace Gi
open Go Go.RowKit
set_option linter.unusedSimpArgs false
set_option linter.unusedVariables false
set_option maxHeartbeats 16000000
set_option maxRecDepth 4000
attribute [local simp] start execOps stepO wants fop eop Opd.ev put V.cells plain loadV cut isInt isStr isBool bin binInt binStr_neq binStr_eql un asList L.view viewArgs V.view viewL finish resultsOf resultOf comps comp giveLs giveL arrs_e arrs_pv arrs_nil arrs_arr arrs_dat view_dat plain_dat mut_dat freeze_dat give_dat ren_dat notArr_dat setL_own setL_dat flat_dat thaw_dat thawT fillL cellsP rowsP isVar bound loadV V.flat L.flat setV setL storeV putAt thaw thawL freezeVs freezeLs freezeL V.mut L.mut elemPtr viewRows wp_seq wp_block wp_region wp_cond wp_skip wp_exit wp_ret wp_end wp_sqN wp_sqR wp_sqE wp_bkN wp_bkR wp_bkE Fin_ret Fin_normal L.notArr keepM_t keepM_f keepM_n setT_c setT_n

section
variable {B : Nat} {s : XStore}
theorem impl_LocalStore_ok {r : XReplica} (hB : B ≤ 1048576) (h16 : 16 ≤ B) (hr : r.Ok B) : callL Ph extF 309 [r.v] = some (datRes (applyX r.base r.sync.outbox.writes)) := by
  have e1 := impl_applied_ok hB h16 hr.1 hr.2.2.1.2.2.1 hr.2.2.1.2.2.2
  unfold datRes at e1 ⊢
  refine callL_wp (fn := f_impl_LocalStore) rfl ?_
  rcases own_dat 4 ((applyX r.base r.sync.outbox.writes).items.map XItem.e) with ⟨_, _, o3⟩ | ⟨_, _, o3⟩ <;> rw [o3] at e1 ⊢ <;> simp [f_impl_LocalStore, XReplica.v, e1]
theorem spec_LocalStore_ok {r : XReplica} (hB : B ≤ 1048576) (h16 : 16 ≤ B) (hr : r.Ok B) : callL Ph extF 308 [r.v] = some (datRes (applyX r.base r.sync.outbox.writes)) := by
  have e1 := spec_l23Apply_ok hB h16 hr.1 hr.2.2.1.2.2.1 hr.2.2.1.2.2.2
  unfold datRes at e1 ⊢
  refine callL_wp (fn := f_spec_LocalStore) rfl ?_
  rcases own_dat 4 ((applyX r.base r.sync.outbox.writes).items.map XItem.e) with ⟨_, _, o3⟩ | ⟨_, _, o3⟩ <;> rw [o3] at e1 ⊢ <;> simp [f_spec_LocalStore, XReplica.v, e1]
end
end Gi
