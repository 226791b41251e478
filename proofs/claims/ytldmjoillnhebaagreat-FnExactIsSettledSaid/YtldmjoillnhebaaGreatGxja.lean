/- impl.applied -/
import Derived.Test.YtldmjoillnhebaaGreatGxj
namespace Gi
open Go Go.RowKit
set_option linter.unusedSimpArgs false
set_option linter.unusedVariables false
set_option maxHeartbeats 16000000
set_option maxRecDepth 4000
attribute [local simp] start execOps stepO wants fop eop Opd.ev put V.cells plain loadV cut isInt isStr isBool bin binInt binStr_neq binStr_eql un asList L.view viewArgs V.view viewL finish resultsOf resultOf comps comp giveLs giveL arrs_e arrs_pv arrs_nil arrs_arr arrs_dat view_dat plain_dat mut_dat freeze_dat give_dat ren_dat notArr_dat setL_own setL_dat flat_dat thaw_dat thawT fillL cellsP rowsP isVar bound loadV V.flat L.flat setV setL storeV putAt thaw thawL freezeVs freezeLs freezeL V.mut L.mut elemPtr viewRows wp_seq wp_block wp_region wp_cond wp_skip wp_exit wp_ret wp_end wp_sqN wp_sqR wp_sqE wp_bkN wp_bkR wp_bkE Fin_ret Fin_normal L.notArr keepM_t keepM_f keepM_n setT_c setT_n

section
variable {B : Nat} {s : XStore}
theorem impl_applied_step {ws : List XWrite} (hB : B ≤ 1048576) (h16 : 16 ≤ B) (hs : s.Ok B) (hl : ws.length ≤ B) (hw : ∀ w ∈ ws, w.Ok B) {k : Nat} (hk : k < ws.length) : wp (callL Ph extF) (fun e τ => e = .normal ∧ Kn ⟨(.one .junk :: .one .junk :: .one .junk :: .one .junk :: .one (.ptr 1 0 0) :: .one (.ptr 2 0 0) :: .one .junk :: .one .junk :: .one .junk :: .one .junk :: vlst (ws.map XWrite.e) :: vint .i64 ws.length :: vint .i64 (k + 1 : Nat) :: .one .junk :: .one .junk :: .one .junk :: .one .junk :: .one .junk :: .one .junk :: .one .junk :: .one .junk :: .one .junk :: .one .junk :: .one .junk :: []), [.box [.pv (.str s.name), .pv (.lst (s.items.map XItem.e)), .pv (.int .i64 s.auto)], .box [.pv (.str []), .nil, .pv (.int .i64 0)], .box [.pv (.str (applyX s (ws.take (k + 1))).name), datL ((applyX s (ws.take (k + 1))).items.map XItem.e), .pv (.int .i64 (applyX s (ws.take (k + 1))).auto)]]⟩ τ) [] (exec (callL Ph extF) loopL b_impl_applied_0 ⟨(.one .junk :: .one .junk :: .one .junk :: .one .junk :: .one (.ptr 1 0 0) :: .one (.ptr 2 0 0) :: .one .junk :: .one .junk :: .one .junk :: .one .junk :: vlst (ws.map XWrite.e) :: vint .i64 ws.length :: vint .i64 k :: .one .junk :: .one .junk :: .one .junk :: .one .junk :: .one .junk :: .one .junk :: .one .junk :: .one .junk :: .one .junk :: .one .junk :: .one .junk :: []), [.box [.pv (.str s.name), .pv (.lst (s.items.map XItem.e)), .pv (.int .i64 s.auto)], .box [.pv (.str []), .nil, .pv (.int .i64 0)], .box [.pv (.str (applyX s (ws.take k)).name), datL ((applyX s (ws.take k)).items.map XItem.e), .pv (.int .i64 (applyX s (ws.take k)).auto)]]⟩) := by
  have e4k := impl_SetItemField_ok (w := ws[k]) hB h16 (applyX_ok h16 hs (ws := ws.take k) (fun w hx => hw w (List.mem_of_mem_take hx))) (hw _ (List.getElem_mem hk))
  have hwk := wrap_small (k := k) (by omega)
  have hx := XWrite_e ws[k]
  rw [applyX_take hk]
  generalize applyX s (ws.take k) = T at e4k ⊢
  unfold setRes at e4k
  rcases own_dat 4 (T.items.map XItem.e) with ⟨r1, _, o3⟩ | ⟨_, _, o3⟩ <;> rcases own_dat 4 ((setItemX T ws[k]).1.items.map XItem.e) with ⟨_, _, o4⟩ | ⟨_, _, o4⟩
  · rw [r1, o4] at e4k
    simp only [o3, o4]
    simp [b_impl_applied_0, hk, hx, e4k, hwk]
    exact Kn.of [0, 1, 2] (by decide) (by simp [keepM_t, keepM_f, keepM_n, setT_c, setT_n, relVs, relV, relLs, relL, relTs, relObs, relOb, L.ren, ren_dat]) (by simp [keepM_t, keepM_f, keepM_n, setT_c, setT_n, relVs, relV, relLs, relL, relTs, relObs, relOb, L.ren, ren_dat])
  · rw [r1, o4] at e4k
    simp only [o3, o4]
    simp [b_impl_applied_0, hk, hx, e4k, hwk]
    exact Kn.of [0, 1, 2] (by decide) (by simp [keepM_t, keepM_f, keepM_n, setT_c, setT_n, relVs, relV, relLs, relL, relTs, relObs, relOb, L.ren, ren_dat]) (by simp [keepM_t, keepM_f, keepM_n, setT_c, setT_n, relVs, relV, relLs, relL, relTs, relObs, relOb, L.ren, ren_dat])
  · rw [o4] at e4k
    simp only [o3, o4]
    simp [b_impl_applied_0, hk, hx, e4k, hwk]
    exact Kn.of [0, 1, 2] (by decide) (by simp [keepM_t, keepM_f, keepM_n, setT_c, setT_n, relVs, relV, relLs, relL, relTs, relObs, relOb, L.ren, ren_dat]) (by simp [keepM_t, keepM_f, keepM_n, setT_c, setT_n, relVs, relV, relLs, relL, relTs, relObs, relOb, L.ren, ren_dat])
  · rw [o4] at e4k
    simp only [o3, o4]
    simp [b_impl_applied_0, hk, hx, e4k, hwk]
    exact Kn.of [0, 1, 2] (by decide) (by simp [keepM_t, keepM_f, keepM_n, setT_c, setT_n, relVs, relV, relLs, relL, relTs, relObs, relOb, L.ren, ren_dat]) (by simp [keepM_t, keepM_f, keepM_n, setT_c, setT_n, relVs, relV, relLs, relL, relTs, relObs, relOb, L.ren, ren_dat])
theorem impl_applied_ok {ws : List XWrite} (hB : B ≤ 1048576) (h16 : 16 ≤ B) (hs : s.Ok B) (hl : ws.length ≤ B) (hw : ∀ w ∈ ws, w.Ok B) : callL Ph extF 313 [.agg [.pv (.str s.name), .pv (.lst (s.items.map XItem.e)), .pv (.int .i64 s.auto)], vlst (ws.map XWrite.e)] = some (datRes (applyX s ws)) := by
  have e3 := impl_copyStoreX_ok hB hs
  unfold stRes at e3
  unfold datRes
  refine callL_wp (fn := f_impl_applied) rfl ?_
  rcases own_dat 4 (s.items.map XItem.e) with ⟨_, o1, o2⟩ | ⟨_, o1, o2⟩ <;> rw [o1] at e3
  · simp [f_impl_applied, e3]
    have step := fun k (hk : k < ws.length) => impl_applied_step hB h16 hs hl hw hk
    refine wp_cntE tidyF Cl.fin ws.length [false, false, false, false, true, true, false, false, false, false, true, true, true, false, false, false, false, false, false, false, false, false, false, false] (fun k => [(12, vint .i64 k)]) (fun k => [.box [.pv (.str s.name), .pv (.lst (s.items.map XItem.e)), .pv (.int .i64 s.auto)], .box [.pv (.str []), .nil, .pv (.int .i64 0)], .box [.pv (.str (applyX s (ws.take k)).name), datL ((applyX s (ws.take k)).items.map XItem.e), .pv (.int .i64 (applyX s (ws.take k)).auto)]]) 0 rfl ?_ ?_ ?_ ?_
    · exact Kn.of [0, 1, 2] (by decide) (by simp [keepM_t, keepM_f, keepM_n, setT_c, setT_n, relVs, relV, relLs, relL, relTs, relObs, relOb, L.ren, ren_dat, applyX, o2]) (by simp [keepM_t, keepM_f, keepM_n, setT_c, setT_n, relVs, relV, relLs, relL, relTs, relObs, relOb, L.ren, ren_dat])
    · exact step
    · simp [b_impl_applied_0]
      exact Kn.of [0, 1, 2] (by decide) (by rcases own_dat 4 ((applyX s ws).items.map XItem.e) with ⟨_, _, o3⟩ | ⟨_, _, o3⟩ <;> simp [keepM_t, keepM_f, keepM_n, setT_c, setT_n, relVs, relV, relLs, relL, relTs, relObs, relOb, L.ren, ren_dat, o3]) (by simp [keepM_t, keepM_f, keepM_n, setT_c, setT_n, relVs, relV, relLs, relL, relTs, relObs, relOb, L.ren, ren_dat])
    · rw [List.take_length]
      rcases own_dat 4 ((applyX s ws).items.map XItem.e) with ⟨_, _, o3⟩ | ⟨_, _, o3⟩ <;> simp only [o3] <;> simp
  · simp [f_impl_applied, e3]
    have step := fun k (hk : k < ws.length) => impl_applied_step hB h16 hs hl hw hk
    refine wp_cntE tidyF Cl.fin ws.length [false, false, false, false, true, true, false, false, false, false, true, true, true, false, false, false, false, false, false, false, false, false, false, false] (fun k => [(12, vint .i64 k)]) (fun k => [.box [.pv (.str s.name), .pv (.lst (s.items.map XItem.e)), .pv (.int .i64 s.auto)], .box [.pv (.str []), .nil, .pv (.int .i64 0)], .box [.pv (.str (applyX s (ws.take k)).name), datL ((applyX s (ws.take k)).items.map XItem.e), .pv (.int .i64 (applyX s (ws.take k)).auto)]]) 0 rfl ?_ ?_ ?_ ?_
    · exact Kn.of [0, 1, 2] (by decide) (by simp [keepM_t, keepM_f, keepM_n, setT_c, setT_n, relVs, relV, relLs, relL, relTs, relObs, relOb, L.ren, ren_dat, applyX, o2]) (by simp [keepM_t, keepM_f, keepM_n, setT_c, setT_n, relVs, relV, relLs, relL, relTs, relObs, relOb, L.ren, ren_dat])
    · exact step
    · simp [b_impl_applied_0]
      exact Kn.of [0, 1, 2] (by decide) (by rcases own_dat 4 ((applyX s ws).items.map XItem.e) with ⟨_, _, o3⟩ | ⟨_, _, o3⟩ <;> simp [keepM_t, keepM_f, keepM_n, setT_c, setT_n, relVs, relV, relLs, relL, relTs, relObs, relOb, L.ren, ren_dat, o3]) (by simp [keepM_t, keepM_f, keepM_n, setT_c, setT_n, relVs, relV, relLs, relL, relTs, relObs, relOb, L.ren, ren_dat])
    · rw [List.take_length]
      rcases own_dat 4 ((applyX s ws).items.map XItem.e) with ⟨_, _, o3⟩ | ⟨_, _, o3⟩ <;> simp only [o3] <;> simp
end
end Gi
