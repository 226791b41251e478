/- Stores copied, by the new rules. -/
import Derived.Test.YtldmjoillnhebaaGreatGxb
namespace Gi
open Go Go.RowKit
set_option linter.unusedSimpArgs false
set_option linter.unusedVariables false
set_option maxHeartbeats 4000000
set_option maxRecDepth 4000
attribute [local simp] start execOps stepO wants fop eop Opd.ev put V.cells plain loadV cut isInt isStr isBool bin binInt binStr_neq binStr_eql un asList L.view viewArgs V.view viewL finish resultsOf resultOf comps comp giveLs giveL arrs_e arrs_pv arrs_nil arrs_arr arrs_dat view_dat plain_dat mut_dat freeze_dat give_dat ren_dat notArr_dat setL_own setL_dat flat_dat thaw_dat thawT fillL cellsP rowsP isVar bound loadV V.flat L.flat setV setL storeV putAt thaw thawL freezeVs freezeLs freezeL V.mut L.mut elemPtr viewRows wp_seq wp_block wp_region wp_cond wp_skip wp_exit wp_ret wp_end wp_sqN wp_sqR wp_sqE wp_bkN wp_bkR wp_bkE Fin_ret Fin_normal L.notArr keepM_t keepM_f keepM_n setT_c setT_n

section
variable {B : Nat} {s : XStore}
theorem impl_copyItemX_ok (hB : B ≤ 1048576) {x : XItem} (h : x.Ok B) : callL Ph extF 218 [.agg [.pv (.int .i64 x.key.kind), .pv (.int .i64 x.key.n), .pv (.str x.key.text), .pv (.lst (x.rcd.fs.map XField.e))]] = some (.agg [.pv (.int .i64 x.key.kind), .pv (.int .i64 x.key.n), .pv (.str x.key.text), .pv (.lst (x.rcd.fs.map XField.e))]) :=
  impl_copyItem_ok (has_map (fun _ q => XField.has (by unfold maxLen; omega) q) (by unfold maxLen; omega) h.2) (by rw [List.length_map]; have := h.2.1; omega)
theorem spec_copyItemX_ok (hB : B ≤ 1048576) {x : XItem} (h : x.Ok B) : callL Ph extF 214 [.agg [.pv (.int .i64 x.key.kind), .pv (.int .i64 x.key.n), .pv (.str x.key.text), .pv (.lst (x.rcd.fs.map XField.e))]] = some (.agg [.pv (.int .i64 x.key.kind), .pv (.int .i64 x.key.n), .pv (.str x.key.text), .pv (.lst (x.rcd.fs.map XField.e))]) :=
  spec_l6Item_ok (has_map (fun _ q => XField.has (by unfold maxLen; omega) q) (by unfold maxLen; omega) h.2) (by rw [List.length_map]; have := h.2.1; omega)
def hcs (b0 b1 : AObj) (nm : List UInt8) (au : Int) (rows : List (List PV)) : Nat → List AObj
  | 0 => [b0, b1, .box [.pv (.str nm), .nil, .pv (.int .i64 au)]]
  | k + 1 => [b0, b1, .box [.pv (.str nm), .arr 3, .pv (.int .i64 au)], .arr 4 (rows.take (k + 1))]
theorem take_next {xs : List XItem} {k : Nat} (hk : k < xs.length) : (xs.map XItem.e).take (k + 1) = (xs.map XItem.e).take k ++ [xs[k].e] := by
  rw [List.take_succ_eq_append_getElem (by simpa using hk)]; simp
def stRes (s : XStore) : V := .agg [.pv (.str s.name), ownZ 4 (s.items.map XItem.e), .pv (.int .i64 s.auto)]
theorem impl_copyStoreX_ok (hB : B ≤ 1048576) (h : s.Ok B) : callL Ph extF 191 [.agg [.pv (.str s.name), .pv (.lst (s.items.map XItem.e)), .pv (.int .i64 s.auto)]] = some (stRes s) := by
  obtain ⟨hn, ⟨hl, hi⟩, ha⟩ := h
  have e1 : ∀ k (hk : k < s.items.length), _ := fun k hk => impl_copyItemX_ok hB (hi _ (List.getElem_mem hk))
  have hl' : s.items.length ≤ 1048576 := Nat.le_trans hl hB
  refine callL_wp (fn := f_impl_copyStore) rfl ?_
  simp [f_impl_copyStore]
  refine wp_count tidyF Cl.fin s.items.length [false, false, true, true, false, false, false, false, false, false, false, false, true, true, true, false, false, false, false, false, false, false, false, false, false, false, false] (fun k => [(14, vint .i64 k)]) (hcs (.box [.pv (.str s.name), .pv (.lst (s.items.map XItem.e)), .pv (.int .i64 s.auto)]) (.box [.pv (.str []), .nil, .pv (.int .i64 0)]) s.name s.auto (s.items.map XItem.e)) rfl ?_ ?_ ?_
  · exact Kn.of [0, 1, 2] (by decide) (by simp [hcs, keepM_t, keepM_f, keepM_n, setT_c, setT_n, relVs, relV, relLs, relL, relTs, relObs, relOb, L.ren, ren_dat]) (by simp [keepM_t, keepM_f, keepM_n, setT_c, setT_n, relVs, relV, relLs, relL, relTs, relObs, relOb, L.ren, ren_dat])
  · intro k hk
    have e1k := e1 k hk
    have hx := XItem_e s.items[k]
    have ht := take_next hk
    rw [hx] at ht
    cases k with
    | zero =>
      simp only [hcs, ht]
      simp [b_impl_copyStore_0, hk, hx, e1k, wrap_1]
      exact Kn.of [0, 1, 2, 5] (by decide) (by simp [keepM_t, keepM_f, keepM_n, setT_c, setT_n, relVs, relV, relLs, relL, relTs, relObs, relOb, L.ren, ren_dat]) (by simp [keepM_t, keepM_f, keepM_n, setT_c, setT_n, relVs, relV, relLs, relL, relTs, relObs, relOb, L.ren, ren_dat])
    | succ k =>
      obtain ⟨i1, i2, i3, i4, i5, i6⟩ := idxS (n := s.items.length) (by unfold maxLen; omega) hk
      have b1 : min (k + 1) s.items.length = k + 1 := by omega
      have m1 := lims (m := k + 1 + 1) (z := 56) (by omega) (by omega)
      simp only [hcs, ht]
      generalize hT : (s.items.map XItem.e).take (k + 1) = T
      have hTl : T.length = k + 1 := by rw [← hT]; simp; omega
      simp [b_impl_copyStore_0, hk, hx, e1k, i1, i2, i3, i4, i5, i6, hTl, m1]
      exact Kn.of [0, 1, 2, 6] (by decide) (by simp [keepM_t, keepM_f, keepM_n, setT_c, setT_n, relVs, relV, relLs, relL, relTs, relObs, relOb, L.ren, ren_dat]) (by simp [keepM_t, keepM_f, keepM_n, setT_c, setT_n, relVs, relV, relLs, relL, relTs, relObs, relOb, L.ren, ren_dat])
  · unfold stRes
    cases hq : s.items with
    | nil => simp [b_impl_copyStore_0, hcs, ownZ]
    | cons x xs =>
      have hT : (s.items.map XItem.e).take (xs.length + 1) = s.items.map XItem.e := List.take_of_length_le (by rw [hq]; simp)
      rw [hq] at hT
      simp only [List.length_cons, hcs, hT]
      simp [b_impl_copyStore_0, ownZ]
theorem spec_copyStoreX_ok (hB : B ≤ 1048576) (h : s.Ok B) : callL Ph extF 187 [.agg [.pv (.str s.name), .pv (.lst (s.items.map XItem.e)), .pv (.int .i64 s.auto)]] = some (stRes s) := by
  obtain ⟨hn, ⟨hl, hi⟩, ha⟩ := h
  have e1 : ∀ k (hk : k < s.items.length), _ := fun k hk => spec_copyItemX_ok hB (hi _ (List.getElem_mem hk))
  have hl' : s.items.length ≤ 1048576 := Nat.le_trans hl hB
  refine callL_wp (fn := f_spec_l6Copy) rfl ?_
  simp [f_spec_l6Copy]
  refine wp_count tidyF Cl.fin s.items.length [false, true, true, true, true, false, false, false, false, false, false, false, false, false, false, false, false, false, false, false, false, false, false, false, false, false, false, false, false] (fun k => [(4, vint .i64 k)]) (hcs (.box [.pv (.str s.name), .pv (.lst (s.items.map XItem.e)), .pv (.int .i64 s.auto)]) (.box [.pv (.str []), .nil, .pv (.int .i64 0)]) s.name s.auto (s.items.map XItem.e)) rfl ?_ ?_ ?_
  · exact Kn.of [0, 1, 2] (by decide) (by simp [hcs, keepM_t, keepM_f, keepM_n, setT_c, setT_n, relVs, relV, relLs, relL, relTs, relObs, relOb, L.ren, ren_dat]) (by simp [keepM_t, keepM_f, keepM_n, setT_c, setT_n, relVs, relV, relLs, relL, relTs, relObs, relOb, L.ren, ren_dat])
  · intro k hk
    have e1k := e1 k hk
    have hx := XItem_e s.items[k]
    have ht := take_next hk
    rw [hx] at ht
    cases k with
    | zero =>
      simp only [hcs, ht]
      simp [b_spec_l6Copy_0, hk, hx, e1k, wrap_1]
      exact Kn.of [0, 1, 2, 4] (by decide) (by simp [keepM_t, keepM_f, keepM_n, setT_c, setT_n, relVs, relV, relLs, relL, relTs, relObs, relOb, L.ren, ren_dat]) (by simp [keepM_t, keepM_f, keepM_n, setT_c, setT_n, relVs, relV, relLs, relL, relTs, relObs, relOb, L.ren, ren_dat])
    | succ k =>
      obtain ⟨i1, i2, i3, i4, i5, i6⟩ := idxS (n := s.items.length) (by unfold maxLen; omega) hk
      have b1 : min (k + 1) s.items.length = k + 1 := by omega
      have m1 := lims (m := k + 1 + 1) (z := 56) (by omega) (by omega)
      simp only [hcs, ht]
      generalize hT : (s.items.map XItem.e).take (k + 1) = T
      have hTl : T.length = k + 1 := by rw [← hT]; simp; omega
      simp [b_spec_l6Copy_0, hk, hx, e1k, i1, i2, i3, i4, i5, i6, hTl, m1]
      exact Kn.of [0, 1, 2, 5] (by decide) (by simp [keepM_t, keepM_f, keepM_n, setT_c, setT_n, relVs, relV, relLs, relL, relTs, relObs, relOb, L.ren, ren_dat]) (by simp [keepM_t, keepM_f, keepM_n, setT_c, setT_n, relVs, relV, relLs, relL, relTs, relObs, relOb, L.ren, ren_dat])
  · unfold stRes
    cases hq : s.items with
    | nil => simp [b_spec_l6Copy_0, hcs, ownZ]
    | cons x xs =>
      have hT : (s.items.map XItem.e).take (xs.length + 1) = s.items.map XItem.e := List.take_of_length_le (by rw [hq]; simp)
      rw [hq] at hT
      simp only [List.length_cons, hcs, hT]
      simp [b_spec_l6Copy_0, ownZ]
end
end Gi
