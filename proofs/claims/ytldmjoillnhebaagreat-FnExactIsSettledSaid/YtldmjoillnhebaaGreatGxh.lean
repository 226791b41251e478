/- spec.PutItem computes putX. -/
import Derived.Test.YtldmjoillnhebaaGreatGxf
namespace Gi
open Go Go.RowKit
set_option linter.unusedSimpArgs false
set_option linter.unusedVariables false
set_option maxHeartbeats 16000000
set_option maxRecDepth 4000
attribute [local simp] start execOps stepO wants fop eop Opd.ev put V.cells plain loadV cut isInt isStr isBool bin binInt binStr_neq binStr_eql un asList L.view viewArgs V.view viewL finish resultsOf resultOf comps comp giveLs giveL arrs_e arrs_pv arrs_nil arrs_arr arrs_dat view_dat plain_dat mut_dat freeze_dat give_dat ren_dat notArr_dat setL_own setL_dat flat_dat thaw_dat thawT fillL cellsP rowsP isVar bound loadV V.flat L.flat setV setL storeV putAt thaw thawL freezeVs freezeLs freezeL V.mut L.mut elemPtr viewRows wp_seq wp_block wp_region wp_cond wp_skip wp_exit wp_ret wp_end wp_sqN wp_sqR wp_sqE wp_bkN wp_bkR wp_bkE Fin_ret Fin_normal L.notArr keepM_t keepM_f keepM_n setT_c setT_n

section
variable {B : Nat} {s : XStore} {k : XKey} {r : XRecord}
theorem putX_norec (h : isRecX r = false) : putX s k r = (s, false) := by
  unfold putX
  rw [if_neg]
  simp [h]
theorem putX_full (hs : isStoreX s = true) (hk : isKeyX k = true) (hf : fndX s k < 0) (h : 16 ≤ s.items.length) : putX s k r = (s, false) := by
  rw [putX_ins hs hk hf]
  have : decide (s.items.length + 1 ≤ 16) = false := by simp; omega
  rw [this, Bool.and_false]
  rfl
theorem putX_room (hs : isStoreX s = true) (hk : isKeyX k = true) (hr : isRecX r = true) (hf : fndX s k < 0) (h : ¬ 16 ≤ s.items.length) : putX s k r = (⟨s.name, insX s k r, autoN s k⟩, true) := by
  rw [putX_ins hs hk hf, hr]
  have : decide (s.items.length + 1 ≤ 16) = true := by simp; omega
  rw [this]
  rfl
theorem takeI_len (xs : List XItem) (k : Nat) : ((xs.map XItem.e).take k).all (fun e => e.length == 4) = true := by rw [← List.map_take]; exact map_len XItem.len _
theorem dropI_len (xs : List XItem) (k : Nat) : ((xs.map XItem.e).drop k).all (fun e => e.length == 4) = true := by rw [← List.map_drop]; exact map_len XItem.len _
theorem auto_le (hs : isStoreX s = true) : 0 ≤ s.auto ∧ s.auto ≤ 1000000 := by
  unfold isStoreX at hs
  simp only [Bool.and_eq_true, decide_eq_true_eq] at hs
  exact hs.2.2.2
theorem spec_PutItem_ok (hB : B ≤ 1048576) (hs : s.Ok B) (hk : k.Ok B) (hr : r.Ok B) : callL Ph extF 339 [.agg [.pv (.str s.name), .pv (.lst (s.items.map XItem.e)), .pv (.int .i64 s.auto)], .agg [.pv (.int .i64 k.kind), .pv (.int .i64 k.n), .pv (.str k.text)], .agg [.pv (.lst (r.fs.map XField.e))]] = some (putRes (putX s k r)) := by
  have hM : B ≤ maxLen := by unfold maxLen; omega
  have e1 := spec_IsStore_ok hM hs
  have e2 := spec_IsKeyX_ok (Nat.le_trans hk.2.2 hM)
  have e2r := spec_IsRecordX_ok hM hr
  have e3 := spec_copyStoreX_ok hB hs
  have e4 := spec_copyRecX_ok hB hr
  have e5 := spec_FindItemX_ok (k := k) hM hs
  have hl : s.items.length ≤ 1048576 := Nat.le_trans hs.2.1.1 hB
  unfold stRes at e3
  refine callL_wp (fn := f_spec_PutItem) rfl ?_
  have bad : ∀ {b1 b2 b3 : Bool}, isStoreX s = b1 → isKeyX k = b2 → isRecX r = b3 → (b1 && (b2 && b3)) = false → wp (callL Ph extF) (Fin f_spec_PutItem.results (putRes (s, false))) [] (exec (callL Ph extF) loopL f_spec_PutItem.body (start f_spec_PutItem [.agg [.pv (.str s.name), .pv (.lst (s.items.map XItem.e)), .pv (.int .i64 s.auto)], .agg [.pv (.int .i64 k.kind), .pv (.int .i64 k.n), .pv (.str k.text)], .agg [.pv (.lst (r.fs.map XField.e))]])) := by
    intro b1 b2 b3 h1 h2 h3 hb
    rw [h1] at e1
    rw [h2] at e2
    rw [h3] at e2r
    unfold putRes
    cases hq : s.items with
    | nil =>
      rw [hq] at e1 e3
      simp only [List.map_nil, ownZ] at e1 e3
      cases b1
      · simp [f_spec_PutItem, e1, e3, ownZ]
      cases b2
      · simp [f_spec_PutItem, e1, e2, e3, ownZ]
      cases b3
      · simp [f_spec_PutItem, e1, e2, e2r, e3, ownZ]
      cases hb
    | cons x xs =>
      rw [← hq]
      have hne : s.items.map XItem.e ≠ [] := by rw [hq]; simp
      rw [ownZ_ne hne] at e3 ⊢
      cases b1
      · simp [f_spec_PutItem, e1, e3]
      cases b2
      · simp [f_spec_PutItem, e1, e2, e3]
      cases b3
      · simp [f_spec_PutItem, e1, e2, e2r, e3]
      cases hb
  cases c1 : isStoreX s
  · rw [putX_bad (.inl c1)]
    exact bad c1 rfl rfl rfl
  cases c2 : isKeyX k
  · rw [putX_bad (.inr c2)]
    exact bad c1 c2 rfl rfl
  cases c3 : isRecX r
  · rw [putX_norec c3]
    exact bad c1 c2 c3 rfl
  clear bad
  rw [c1] at e1
  rw [c2] at e2
  rw [c3] at e2r
  by_cases hneg : fndX s k < 0
  · by_cases hfull : 16 ≤ s.items.length
    · rw [putX_full c1 c2 hneg hfull]
      generalize fndX s k = I at e5 hneg
      have hneg2 : ¬ 0 ≤ I := by omega
      have hne : s.items.map XItem.e ≠ [] := fun h => by
        have : (s.items.map XItem.e).length = 0 := by rw [h]; rfl
        simp at this
        rw [this] at hfull
        simp at hfull
      rw [ownZ_ne hne] at e3
      unfold putRes
      simp only [ownZ_ne hne]
      have hf2 : (16 : Int) ≤ (s.items.length : Int) := by omega
      simp [f_spec_PutItem, e1, e2, e2r, e3, e5, hneg2, hfull, hf2]
    · rw [putX_room c1 c2 c3 hneg hfull]
      have hf2 : ¬ (16 : Int) ≤ (s.items.length : Int) := by omega
      have e6 : ∀ j (hj : j < s.items.length), callL Ph extF 351 [.agg [.pv (.int .i64 s.items[j].key.kind), .pv (.int .i64 s.items[j].key.n), .pv (.str s.items[j].key.text)], .agg [.pv (.int .i64 k.kind), .pv (.int .i64 k.n), .pv (.str k.text)]] = some (vint .i64 (cmpK s.items[j].key k)) := fun j hj => spec_CompareKeys_ok (Nat.le_trans (hs.2.1.2 _ (List.getElem_mem hj)).1.2.2 hM) (Nat.le_trans hk.2.2 hM)
      have hp := posI_le s.items k
      have hm : (insX s k r).map XItem.e = (s.items.map XItem.e).take (posI s.items k) ++ ([.int .i64 k.kind, .int .i64 k.n, .str k.text, .lst (r.fs.map XField.e)] :: (s.items.map XItem.e).drop (posI s.items k)) := insI_map k r s.items _
      have hmne : (insX s k r).map XItem.e ≠ [] := by unfold insX; simp
      obtain ⟨ha1, ha2⟩ := auto_le c1
      have hw : IntKind.i64.wrap (s.auto + 1) = s.auto + 1 := by rw [IntKind.wrap_i64]; omega
      have e8 := spec_l1In_ok k.n (s.auto + 1) 1000000
      have hau : (k.kind = 1 ∧ (decide (s.auto + 1 ≤ k.n) && decide (k.n ≤ 1000000)) = true ∧ autoN s k = k.n) ∨ (autoN s k = s.auto ∧ (¬ k.kind = 1 ∨ (k.kind = 1 ∧ (decide (s.auto + 1 ≤ k.n) && decide (k.n ≤ 1000000)) = false))) := by
        unfold autoN
        by_cases q1 : k.kind = 1
        · by_cases q2 : s.auto < k.n
          · by_cases q3 : k.n ≤ 1000000
            · refine .inl ⟨q1, by simp [q3]; omega, by simp [q1, q2, q3]⟩
            · simp [q1, q2, q3]
          · have : ¬ s.auto + 1 ≤ k.n := by omega
            simp [q1, q2, this]
        · simp [q1]
      generalize hI : fndX s k = I at e5 hneg
      have hneg2 : ¬ 0 ≤ I := by omega
      generalize (decide (s.auto + 1 ≤ k.n) && decide (k.n ≤ 1000000)) = d at e8 hau
      have hE : ownZ 4 ((insX s k r).map XItem.e) = .own 4 ((s.items.map XItem.e).take (posI s.items k) ++ ([.int .i64 k.kind, .int .i64 k.n, .str k.text, .lst (r.fs.map XField.e)] :: (s.items.map XItem.e).drop (posI s.items k))) := by rw [ownZ_ne hmne, hm]
      unfold putRes
      simp only [hE]
      clear hE hm hmne
      cases hq : s.items with
      | nil =>
        have hr0 : s.items.map XItem.e = [] := by rw [hq]; rfl
        rw [← hq]
        rw [hr0] at e1 e3 e5 ⊢
        simp only [ownZ] at e3
        simp only [List.take_nil, List.drop_nil, List.nil_append]
        clear e6 hp hl hs
        have m1 := lims (m := 1) (z := 56) (by decide) (by decide)
        rcases hau with ⟨q1, rfl, q4⟩ | ⟨q4, q1 | ⟨q1, rfl⟩⟩ <;> simp only [q4]
        · have q1b : (k.kind == 1) = true := by simpa using q1
          simp [f_spec_PutItem, b_spec_PutItem_0, wp_round, e1, e2, e2r, e3, e5, hneg, hneg2, e4, m1, q1b, hw, e8]
        · have q1b : (k.kind == 1) = false := by simpa using q1
          simp [f_spec_PutItem, b_spec_PutItem_0, wp_round, e1, e2, e2r, e3, e5, hneg, hneg2, e4, m1, q1b]
        · have q1b : (k.kind == 1) = true := by simpa using q1
          simp [f_spec_PutItem, b_spec_PutItem_0, wp_round, e1, e2, e2r, e3, e5, hneg, hneg2, e4, m1, q1b, hw, e8]
      | cons x xs =>
        rw [← hq]
        have hne : s.items.map XItem.e ≠ [] := by rw [hq]; simp
        rw [ownZ_ne hne] at e3
        simp [f_spec_PutItem, e1, e2, e2r, e3, e5, hneg, hneg2, hfull, hf2]
        generalize hpp : posI s.items k = p at hp
        refine wp_cntE tidyF Cl.fin p [false, false, false, true, true, true, true, false, true, false, true, false, false, false, false, false, false, false, false, false, false, false, false, false, false, false, false, false, false, false, false, false, false, false, false, false, false, false, false, false, false, false, false, false, false, false, false, false, false, false, false, false, false, false, false, false, false, false, false, false, false, false, false, false, false, false, false, false, false, false, false, false, false, false, false, false, false, false, false, false, false, false, false, false, false, false, false, false, false, false, false, false, false, false, false, false, false, false, false, false] (fun k => [(10, vint .i64 k)]) (fun _ => [.box [.pv (.str s.name), .pv (.lst (s.items.map XItem.e)), .pv (.int .i64 s.auto)], .box [.pv (.int .i64 k.kind), .pv (.int .i64 k.n), .pv (.str k.text)], .box [.pv (.lst (r.fs.map XField.e))], .box [.pv (.str []), .nil, .pv (.int .i64 0)], .arr 4 (s.items.map XItem.e), .box [.pv (.str s.name), .arr 4, .pv (.int .i64 s.auto)]]) 0 rfl ?_ ?_ ?_ ?_
        · exact Kn.of [0, 1, 2, 3, 4, 5] (by decide) (by simp [keepM_t, keepM_f, keepM_n, setT_c, setT_n, relVs, relV, relLs, relL, relTs, relObs, relOb, L.ren, ren_dat]) (by simp [keepM_t, keepM_f, keepM_n, setT_c, setT_n, relVs, relV, relLs, relL, relTs, relObs, relOb, L.ren, ren_dat])
        · intro j hj
          have hj2 : j < s.items.length := by omega
          have hwj := wrap_small (k := j) (by omega)
          have e6j := e6 j hj2
          have hlt : cmpK s.items[j].key k < 0 := posI_lt (by rw [hpp]; exact hj) hj2
          generalize cmpK s.items[j].key k = C at e6j hlt
          simp [b_spec_PutItem_0, hj2, XItem_e s.items[j], e6j, hlt, hwj]
          exact Kn.of [0, 1, 2, 3, 4, 5] (by decide) (by simp [keepM_t, keepM_f, keepM_n, setT_c, setT_n, relVs, relV, relLs, relL, relTs, relObs, relOb, L.ren, ren_dat]) (by simp [keepM_t, keepM_f, keepM_n, setT_c, setT_n, relVs, relV, relLs, relL, relTs, relObs, relOb, L.ren, ren_dat])
        · by_cases hlt : p < s.items.length
          · have e6j := e6 p hlt
            have hge : ¬ cmpK s.items[p].key k < 0 := by subst hpp; exact posI_at hlt
            generalize cmpK s.items[p].key k = C at e6j hge
            simp [b_spec_PutItem_0, hlt, XItem_e s.items[p], e6j, hge]
            exact Kn.of [0, 1, 2, 3, 4, 5] (by decide) (by simp [keepM_t, keepM_f, keepM_n, setT_c, setT_n, relVs, relV, relLs, relL, relTs, relObs, relOb, L.ren, ren_dat]) (by simp [keepM_t, keepM_f, keepM_n, setT_c, setT_n, relVs, relV, relLs, relL, relTs, relObs, relOb, L.ren, ren_dat])
          · simp [b_spec_PutItem_0, hlt]
            exact Kn.of [0, 1, 2, 3, 4, 5] (by decide) (by simp [keepM_t, keepM_f, keepM_n, setT_c, setT_n, relVs, relV, relLs, relL, relTs, relObs, relOb, L.ren, ren_dat]) (by simp [keepM_t, keepM_f, keepM_n, setT_c, setT_n, relVs, relV, relLs, relL, relTs, relObs, relOb, L.ren, ren_dat])
        · have m0 := lims (m := p) (z := 56) (by omega) (by omega)
          have m1 := lims (m := p + 1) (z := 56) (by omega) (by omega)
          have m2 := lims (m := s.items.length + 1) (z := 56) (by omega) (by omega)
          have m3 : p + 1 + (s.items.length - p) = s.items.length + 1 := by omega
          have q0 := map_len XItem.len s.items
          have t1 := takeI_len s.items p
          have t2 := dropI_len s.items p
          have tk : ((s.items.map XItem.e).drop p).take (s.items.length - p) = (s.items.map XItem.e).drop p := List.take_of_length_le (by simp)
          have b1 : min p s.items.length = p := by omega
          rcases hau with ⟨q1, rfl, q4⟩ | ⟨q4, q1 | ⟨q1, rfl⟩⟩ <;> simp only [q4]
          · have q1b : (k.kind == 1) = true := by simpa using q1
            simp [e4, hp, ↓q0, ↓t1, ↓t2, ↓tk, b1, m0, m1, m2, m3, q1b, hw, e8]
          · have q1b : (k.kind == 1) = false := by simpa using q1
            simp [e4, hp, ↓q0, ↓t1, ↓t2, ↓tk, b1, m0, m1, m2, m3, q1b]
          · have q1b : (k.kind == 1) = true := by simpa using q1
            simp [e4, hp, ↓q0, ↓t1, ↓t2, ↓tk, b1, m0, m1, m2, m3, q1b, hw, e8]
  · obtain ⟨j, hj, hfi, hkk⟩ := fndX_at hneg
    rw [putX_set c1 c2 hfi, c3]
    rw [hfi] at e5
    have hm := isK_map (r := r) hj hkk
    have hx := XItem_e s.items[j]
    have hne : s.items.map XItem.e ≠ [] := fun h => by
      have : (s.items.map XItem.e).length = 0 := by rw [h]; rfl
      simp at this
      rw [this] at hj
      simp at hj
    have hne2 : (s.items.set j ⟨k, r⟩).map XItem.e ≠ [] := fun h => by
      have : ((s.items.set j ⟨k, r⟩).map XItem.e).length = 0 := by rw [h]; rfl
      simp at this
      rw [this] at hj
      simp at hj
    rw [ownZ_ne hne] at e3
    unfold putRes
    have hE : ownZ 4 ((s.items.set j ⟨k, r⟩).map XItem.e) = .own 4 ((s.items.map XItem.e).set j [.int .i64 s.items[j].key.kind, .int .i64 s.items[j].key.n, .str s.items[j].key.text, .lst (r.fs.map XField.e)]) := by rw [ownZ_ne hne2, ← hm]
    simp only [cond_true, hE]
    simp [f_spec_PutItem, e1, e2, e2r, e3, e4, e5, hj, hx]
end
end Gi
