/- impl.SetField computes setR. -/
import Derived.Test.YtldmjoillnhebaaGreatGxc
namespace Gi
open Go Go.RowKit
set_option linter.unusedSimpArgs false
set_option linter.unusedVariables false
set_option maxHeartbeats 4000000
set_option maxRecDepth 4000
attribute [local simp] start execOps stepO wants fop eop Opd.ev put V.cells plain loadV cut isInt isStr isBool bin binInt binStr_neq binStr_eql un asList L.view viewArgs V.view viewL finish resultsOf resultOf comps comp giveLs giveL arrs_e arrs_pv arrs_nil arrs_arr arrs_dat view_dat plain_dat mut_dat freeze_dat give_dat ren_dat notArr_dat setL_own setL_dat flat_dat thaw_dat thawT fillL cellsP rowsP isVar bound loadV V.flat L.flat setV setL storeV putAt thaw thawL freezeVs freezeLs freezeL V.mut L.mut elemPtr viewRows wp_seq wp_block wp_region wp_cond wp_skip wp_exit wp_ret wp_end wp_sqN wp_sqR wp_sqE wp_bkN wp_bkR wp_bkE Fin_ret Fin_normal L.notArr keepM_t keepM_f keepM_n setT_c setT_n

section
variable {B : Nat} {r : XRecord} {nm : List UInt8} {n : Int}
theorem impl_SetField_ok (hB : B ≤ 1048576) (h : r.Ok B) (hn : nm.length ≤ B) (hi : inI n) : callL Ph extF 341 [.agg [.pv (.lst (r.fs.map XField.e))], vstr nm, vint .i64 n] = some (recRes (setR r nm n)) := by
  have hM : B + 1 ≤ maxLen := by unfold maxLen; omega
  have hF : Has (.lst t_FieldS) (.lst (r.fs.map XField.e)) := has_map (fun _ q => XField.has (by unfold maxLen; omega) q) (by unfold maxLen; omega) h
  have e1 := impl_copyRecX_ok hB h
  have e2 := impl_IsRecordX_ok (by omega) h
  have e3 := impl_IsRecordX_ok (r := ⟨setF r.fs nm n⟩) hM (setF_ok h hn hi)
  have e4 := impl_fieldAt_ok hF nm
  have hl : r.fs.length ≤ 1048576 := Nat.le_trans h.1 hB
  have hp := pos_le r.fs nm
  have fp := fun hv => find_pos (nm := nm) (fs := r.fs) 0 (rec_srt (r := r) hv)
  refine callL_wp (fn := f_impl_SetField) rfl ?_
  by_cases hneg : findI (isFd nm) (r.fs.map XField.e) 0 < 0
  · generalize findI (isFd nm) (r.fs.map XField.e) 0 = I at e4 hneg fp
    generalize hk : pos r.fs nm = k at hp fp
    have hneg2 : ¬ 0 ≤ I := by omega
    simp [f_impl_SetField, e1, e4, hneg, hneg2]
    refine wp_scanM tidyF Cl.fin [false, true, true, true, false, false, true, false, true, false, true, false, false, false, false, false, false, false, false, false, false, false, false, false, false, false, false, false, false, false, false, false, false, false, false, false, false, false, false, false, false, false, false, false, false, false, false, false, false, false, false, false, false, false, false, false, false, false, false, false, false] (fun k => [(10, vint .i64 k)]) k (fun _ => false) rfl ?_ ?_ ?_ ?_
    · exact Kn.of [0, 1, 2, 3] (by decide) (by simp [keepM_t, keepM_f, keepM_n, setT_c, setT_n, relVs, relV, relLs, relL, relTs, relObs, relOb, L.ren, ren_dat]) (by simp [keepM_t, keepM_f, keepM_n, setT_c, setT_n, relVs, relV, relLs, relL, relTs, relObs, relOb, L.ren, ren_dat])
    · intro j hj _
      have hj2 : j < r.fs.length := by omega
      have hw := wrap_small (k := j) (by omega)
      have l1 : binStr .lss r.fs[j].name nm = some (vbool true) := by
        rw [← hk] at hj
        simp only [binStr, pos_lt hj hj2]
      simp [b_impl_SetField_0, hj2, XField_e r.fs[j], ↓l1, hw]
      exact Kn.of [0, 1, 2, 3] (by decide) (by simp [keepM_t, keepM_f, keepM_n, setT_c, setT_n, relVs, relV, relLs, relL, relTs, relObs, relOb, L.ren, ren_dat]) (by simp [keepM_t, keepM_f, keepM_n, setT_c, setT_n, relVs, relV, relLs, relL, relTs, relObs, relOb, L.ren, ren_dat])
    · intro j _ h _; cases h
    · intro _
      have hm : isRecX r = true → (r.fs.map XField.e).take k ++ ([.str nm, .int .i64 n] :: (r.fs.map XField.e).drop k) = (setF r.fs nm n).map XField.e := fun hv => by
        rw [← ins_map, setF_ne (fun f hf => ?_), hk]
        intro e
        have := fp hv
        rw [hk] at hf
        rw [hf] at this
        simp only [e, if_true] at this
        omega
      have q1 := take_len2 r.fs k
      have q2 := drop_len2 r.fs k
      have b1 : min k r.fs.length = k := by omega
      have m1 := lims (m := r.fs.length + 1) (z := 24) (by omega) (by omega)
      have m2 := lims (m := k) (z := 24) (by omega) (by omega)
      by_cases hlt : k < r.fs.length
      · have hx := XField_e r.fs[k]
        have l1 : binStr .lss r.fs[k].name nm = some (vbool false) := by
          subst hk
          simp only [binStr, pos_at hlt]
        cases c1 : isRecX r <;> rw [c1] at e2
        · rw [setR_bad c1]
          simp [b_impl_SetField_0, hlt, hx, ↓l1, hp, m1, m2, e2, e1, recRes]
        · have hm := hm c1
          rw [setR_valid (b := isRecX ⟨setF r.fs nm n⟩) c1 rfl]
          generalize isRecX ⟨setF r.fs nm n⟩ = c at e3
          generalize setF r.fs nm n = F at hm e3
          cases c
          · simp [b_impl_SetField_0, hlt, hx, ↓l1, hp, m1, m2, hm, e2, e3, e1, recRes]
          · simp [b_impl_SetField_0, hlt, hx, ↓l1, hp, m1, m2, hm, e2, e3, recRes]
      · have hke : k = r.fs.length := by omega
        subst hke
        cases c1 : isRecX r <;> rw [c1] at e2
        · rw [setR_bad c1]
          simp [b_impl_SetField_0, m1, m2, e2, e1, recRes]
        · have hm := hm c1
          rw [setR_valid (b := isRecX ⟨setF r.fs nm n⟩) c1 rfl]
          generalize isRecX ⟨setF r.fs nm n⟩ = c at e3
          generalize setF r.fs nm n = F at hm e3
          cases c
          · simp [b_impl_SetField_0, m1, m2, ↓hm, e2, e3, e1, recRes]
          · simp [b_impl_SetField_0, m1, m2, ↓hm, e2, e3, recRes]
  · obtain ⟨j, hj, hfi⟩ := findI_at hneg
    simp only [List.length_map] at hj
    rw [hfi] at e4
    have hx := XField_e r.fs[j]
    cases c1 : isRecX r <;> rw [c1] at e2
    · rw [setR_bad c1]
      simp [f_impl_SetField, e1, e4, hj, hx, e2, recRes]
    · have := fp c1
      rw [hfi] at this
      have hm : (r.fs.map XField.e).set j [.str r.fs[j].name, .int .i64 n] = (setF r.fs nm n).map XField.e := by
        cases hf : r.fs[pos r.fs nm]? with
        | none => simp only [hf] at this; omega
        | some f =>
          simp only [hf] at this
          by_cases e : f.name = nm
          · rw [if_pos e] at this
            obtain rfl : j = pos r.fs nm := by omega
            rw [setF_eq hf e, List.map_set]
            rw [List.getElem?_eq_getElem hj] at hf
            have e' : r.fs[pos r.fs nm].name = nm := by rw [← Option.some.inj hf] at e; exact e
            simp only [XField_e ⟨nm, n⟩, e']
          · rw [if_neg e] at this; omega
      rw [setR_valid (b := isRecX ⟨setF r.fs nm n⟩) c1 rfl]
      generalize isRecX ⟨setF r.fs nm n⟩ = c at e3
      generalize setF r.fs nm n = F at hm e3
      cases c
      · simp [f_impl_SetField, e1, e4, hj, hx, hm, e2, e3, recRes]
      · simp [f_impl_SetField, e1, e4, hj, hx, hm, e2, e3, recRes]
end
end Gi
