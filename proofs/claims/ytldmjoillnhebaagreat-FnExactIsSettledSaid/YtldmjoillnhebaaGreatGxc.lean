/- SetField: both compute setR. -/
import Derived.Test.YtldmjoillnhebaaGreatGxb
namespace Gi
open Go Go.RowKit
set_option linter.unusedSimpArgs false
set_option linter.unusedVariables false
set_option maxHeartbeats 4000000
set_option maxRecDepth 4000
attribute [local simp] start execOps stepO wants fop eop Opd.ev put V.cells plain loadV cut isInt isStr isBool bin binInt binStr_neq binStr_eql un asList L.view viewArgs V.view viewL finish resultsOf resultOf comps comp giveLs giveL arrs_e arrs_pv arrs_nil arrs_arr arrs_dat view_dat plain_dat mut_dat freeze_dat give_dat ren_dat notArr_dat setL_own setL_dat flat_dat thaw_dat thawT fillL cellsP rowsP isVar bound loadV V.flat L.flat setV setL storeV putAt thaw thawL freezeVs freezeLs freezeL V.mut L.mut elemPtr viewRows wp_seq wp_block wp_region wp_cond wp_skip wp_exit wp_ret wp_end wp_sqN wp_sqR wp_sqE wp_bkN wp_bkR wp_bkE Fin_ret Fin_normal L.notArr keepM_t keepM_f keepM_n setT_c setT_n

section
variable {B : Nat} {r : XRecord} {nm : List UInt8} {n : Int}
theorem setF_eq {f : XField} (h : r.fs[pos r.fs nm]? = some f) (e : f.name = nm) : setF r.fs nm n = r.fs.set (pos r.fs nm) ⟨nm, n⟩ := by unfold setF; rw [h]; simp [e]
theorem setF_ne (h : ∀ f, r.fs[pos r.fs nm]? = some f → f.name ≠ nm) : setF r.fs nm n = r.fs.take (pos r.fs nm) ++ (⟨nm, n⟩ :: r.fs.drop (pos r.fs nm)) := by
  unfold setF
  split
  · rename_i f hf
    rw [if_neg (h f hf)]
  · rfl
theorem setR_valid {b : Bool} (h1 : isRecX r = true) (h2 : isRecX ⟨setF r.fs nm n⟩ = b) : setR r nm n = cond b (⟨setF r.fs nm n⟩, true) (r, false) := by
  unfold setR
  cases b with
  | true => rw [if_pos ⟨h1, h2⟩]; rfl
  | false => rw [if_neg (by rw [h2]; simp)]; rfl
theorem setR_bad (h1 : isRecX r = false) : setR r nm n = (r, false) := by unfold setR; rw [if_neg (by rw [h1]; simp)]
theorem ins_map (fs : List XField) (k : Nat) : (fs.take k ++ (⟨nm, n⟩ :: fs.drop k)).map XField.e = (fs.map XField.e).take k ++ ([.str nm, .int .i64 n] :: (fs.map XField.e).drop k) := by simp [XField.e]
theorem take_len2 (fs : List XField) (k : Nat) : ((fs.map XField.e).take k).all (fun e => e.length == 2) = true := by rw [← List.map_take]; exact map_len XField.len _
theorem drop_len2 (fs : List XField) (k : Nat) : ((fs.map XField.e).drop k).all (fun e => e.length == 2) = true := by rw [← List.map_drop]; exact map_len XField.len _
theorem spec_SetField_ok (hB : B ≤ 1048576) (h : r.Ok B) (hn : nm.length ≤ B) (hi : inI n) : callL Ph extF 338 [.agg [.pv (.lst (r.fs.map XField.e))], vstr nm, vint .i64 n] = some (recRes (setR r nm n)) := by
  have hM : B + 1 ≤ maxLen := by unfold maxLen; omega
  have e1 := spec_copyRecX_ok hB h
  have e2 := spec_IsRecordX_ok (by omega) h
  have e3 := spec_IsRecordX_ok (r := ⟨setF r.fs nm n⟩) hM (setF_ok h hn hi)
  have hl : r.fs.length ≤ 1048576 := Nat.le_trans h.1 hB
  have hp := pos_le r.fs nm
  have hpi : ¬ ((pos r.fs nm : Nat) : Int) < 0 := by omega
  generalize hk : pos r.fs nm = k at hp hpi
  refine callL_wp (fn := f_spec_SetField) rfl ?_
  simp [f_spec_SetField, e1]
  refine wp_scanM tidyF Cl.fin [false, true, true, true, false, false, true, false, true, true, false, false, false, false, false, false, false, false, false, false, false, false, false, false, false, false, false, false, false, false, false, false, false, false, false, false, false, false, false, false, false, false, false, false, false, false, false, false, false, false, false, false, false, false, false, false, false, false, false, false, false, false, false, false, false, false, false, false, false, false, false, false, false, false, false, false, false, false] (fun k => [(9, vint .i64 k)]) k (fun _ => false) rfl ?_ ?_ ?_ ?_
  · exact Kn.of [0, 1, 2, 3] (by decide) (by simp [keepM_t, keepM_f, keepM_n, setT_c, setT_n, relVs, relV, relLs, relL, relTs, relObs, relOb, L.ren, ren_dat]) (by simp [keepM_t, keepM_f, keepM_n, setT_c, setT_n, relVs, relV, relLs, relL, relTs, relObs, relOb, L.ren, ren_dat])
  · intro j hj _
    have hj2 : j < r.fs.length := by omega
    have hw := wrap_small (k := j) (by omega)
    have l1 : binStr .lss r.fs[j].name nm = some (vbool true) := by
      rw [← hk] at hj
      simp only [binStr, pos_lt hj hj2]
    simp [b_spec_SetField_0, hj2, XField_e r.fs[j], ↓l1, hw]
    exact Kn.of [0, 1, 2, 3] (by decide) (by simp [keepM_t, keepM_f, keepM_n, setT_c, setT_n, relVs, relV, relLs, relL, relTs, relObs, relOb, L.ren, ren_dat]) (by simp [keepM_t, keepM_f, keepM_n, setT_c, setT_n, relVs, relV, relLs, relL, relTs, relObs, relOb, L.ren, ren_dat])
  · intro j _ h _; cases h
  · intro _
    by_cases hlt : k < r.fs.length
    · have hx := XField_e r.fs[k]
      have l1 : binStr .lss r.fs[k].name nm = some (vbool false) := by
        subst hk
        simp only [binStr, pos_at hlt]
      by_cases hq : r.fs[k].name = nm
      · have hs : setF r.fs nm n = r.fs.set k ⟨nm, n⟩ := by
          rw [← hk]
          exact setF_eq (f := r.fs[k]) (by simp [hk, hlt]) hq
        have hm : (r.fs.map XField.e).set k [.str r.fs[k].name, .int .i64 n] = (setF r.fs nm n).map XField.e := by rw [hs, List.map_set, hq]; rfl
        have hqb : (r.fs[k].name == nm) = true := by simpa using hq
        cases c1 : isRecX r <;> rw [c1] at e2
        · rw [setR_bad c1]
          simp [b_spec_SetField_0, hlt, hx, ↓l1, hqb, hm, e2, e1, recRes]
        · rw [setR_valid (b := isRecX ⟨setF r.fs nm n⟩) c1 rfl]
          generalize isRecX ⟨setF r.fs nm n⟩ = c at e3
          generalize setF r.fs nm n = F at hm e3
          cases c
          · simp [b_spec_SetField_0, hlt, hx, ↓l1, hqb, hm, e2, e3, e1, recRes]
          · simp [b_spec_SetField_0, hlt, hx, ↓l1, hqb, hm, e2, e3, recRes]
      · have hs : setF r.fs nm n = r.fs.take k ++ (⟨nm, n⟩ :: r.fs.drop k) := by
          rw [← hk]
          refine setF_ne fun f hf => ?_
          rw [hk, List.getElem?_eq_getElem hlt] at hf
          cases hf
          exact hq
        have hm : (r.fs.map XField.e).take k ++ ([.str nm, .int .i64 n] :: (r.fs.map XField.e).drop k) = (setF r.fs nm n).map XField.e := by rw [hs, ins_map]
        have hqc : (r.fs[k].name == nm) = false := by simpa using hq
        have q0 := map_len XField.len r.fs
        have m0 := lims (m := k) (z := 24) (by omega) (by omega)
        have m1 := lims (m := k + 1) (z := 24) (by omega) (by omega)
        have m2 := lims (m := r.fs.length + 1) (z := 24) (by omega) (by omega)
        have m3 : k + 1 + (r.fs.length - k) = r.fs.length + 1 := by omega
        have q1 := take_len2 r.fs k
        have tk : ((r.fs.map XField.e).drop k).take (r.fs.length - k) = (r.fs.map XField.e).drop k := List.take_of_length_le (by simp)
        have q2 := drop_len2 r.fs k
        have b1 : min k r.fs.length = k := by omega
        cases c1 : isRecX r <;> rw [c1] at e2
        · rw [setR_bad c1]
          simp [b_spec_SetField_0, hlt, hx, ↓l1, hqc, hm, e2, e1, recRes, ↓q0, ↓q1, ↓q2, ↓tk, b1, hp, m0, m1, m2, m3]
        · rw [setR_valid (b := isRecX ⟨setF r.fs nm n⟩) c1 rfl]
          generalize isRecX ⟨setF r.fs nm n⟩ = c at e3
          generalize setF r.fs nm n = F at hm e3
          cases c
          · simp [b_spec_SetField_0, hlt, hx, ↓l1, hqc, hm, e2, e3, e1, recRes, ↓q0, ↓q1, ↓q2, ↓tk, b1, hp, m0, m1, m2, m3]
          · simp [b_spec_SetField_0, hlt, hx, ↓l1, hqc, hm, e2, e3, recRes, ↓q0, ↓q1, ↓q2, ↓tk, b1, hp, m0, m1, m2, m3]
    · have hke : k = r.fs.length := by omega
      subst hke
      have tk : (r.fs.map XField.e).take r.fs.length = r.fs.map XField.e := List.take_of_length_le (by simp)
      have td : (r.fs.map XField.e).drop r.fs.length = [] := List.drop_of_length_le (by simp)
      have hs : setF r.fs nm n = r.fs.take r.fs.length ++ (⟨nm, n⟩ :: r.fs.drop r.fs.length) := by
        rw [setF_ne (fun f hf => by rw [hk, List.getElem?_eq_none (Nat.le_refl _)] at hf; cases hf), hk]
      have hm : (r.fs.map XField.e) ++ [[.str nm, .int .i64 n]] = (setF r.fs nm n).map XField.e := by
        rw [hs, ins_map, tk, td]
      have q0 := map_len XField.len r.fs
      have m0 := lims (m := r.fs.length) (z := 24) (by omega) (by omega)
      have m2 := lims (m := r.fs.length + 1) (z := 24) (by omega) (by omega)
      have m5 := lims (m := (setF r.fs nm n).length) (z := 24) (by have := setF_len r.fs nm n; omega) (by omega)
      cases c1 : isRecX r <;> rw [c1] at e2
      · rw [setR_bad c1]
        simp [b_spec_SetField_0, ↓tk, ↓td, ↓q0, hm, m0, m2, m5, e2, e1, recRes]
      · rw [setR_valid (b := isRecX ⟨setF r.fs nm n⟩) c1 rfl]
        generalize isRecX ⟨setF r.fs nm n⟩ = c at e3
        generalize setF r.fs nm n = F at hm e3 m5
        cases c
        · simp [b_spec_SetField_0, ↓tk, ↓td, ↓q0, hm, m0, m2, m5, e2, e3, e1, recRes]
        · simp [b_spec_SetField_0, ↓tk, ↓td, ↓q0, hm, m0, m2, m5, e2, e3, recRes]
end
end Gi
