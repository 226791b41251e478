/- Of this proof. -/
import Derived.Test.YthaajpjcibaopaaGreatGcf
namespace Gi
open Go Go.RowKit
set_option linter.unusedSimpArgs false
set_option linter.unusedVariables false
set_option maxHeartbeats 8000000
set_option maxRecDepth 4000
attribute [local simp] start execOps stepO wants fop eop Opd.ev put V.cells plain loadV cut isInt isStr isBool bin binInt binStr_neq binStr_eql un asList L.view viewArgs V.view viewL finish resultsOf resultOf comps comp giveLs giveL arrs_e arrs_pv arrs_nil arrs_arr arrs_dat view_dat plain_dat mut_dat freeze_dat give_dat ren_dat notArr_dat setL_own setL_nd setL_dat flat_dat thaw_dat V.flat L.flat setV setL storeV putAt thaw thawL thawT freezeVs freezeLs freezeL V.mut L.mut elemPtr viewRows fillL cellsP rowsP isVar bound wp_seq wp_block wp_region wp_cond wp_skip wp_exit wp_ret wp_end wp_sqN wp_sqR wp_sqE wp_bkN wp_bkR wp_bkE Fin_ret Fin_normal L.notArr keepM_t keepM_f keepM_n setT_c setT_n storeD deepOf srcD srcRows srcNot srcDead ysD L.mov L.closed V.closed PV.bare PV.flat
def h_impl_copyStorage (b0 b1 : AObj) (rows : List (List PV)) : Nat → List AObj
 | 0 => [b0, b1, .box [.nil]]
 | k + 1 => [b0, b1, .box [.arr 3], .darr 24 (rows.take (k + 1))]
theorem impl_copyStorage_ok {B : Nat} (hB : B ≤ 1048576) {x : XStorage} (h : x.Ok B) : callL Ph extF 456 [.agg [.pv (.lst (x.buckets.map XBucket.e))]] = some (.agg [nd 24 (x.buckets.map XBucket.e)]) := by
 have h_buckets := h
 have e1 : ∀ k (hk : k < x.buckets.length), _ := fun k hk => impl_copyBucket_ok hB (h_buckets.2 _ (List.getElem_mem hk))
 have hl : x.buckets.length ≤ 1048576 := Nat.le_trans h_buckets.1 hB
 refine callL_wp (fn := f_impl_copyStorage) rfl ?_
 simp [f_impl_copyStorage]
 refine wp_count tidyF Cl.fin x.buckets.length [false, false, true, true, false, false, false, false, true, true, true, false, false, false, false, false, false, false, false, false, false, false, false] (fun k => [(10, vint .i64 k)]) (h_impl_copyStorage (.box [.pv (.lst (x.buckets.map XBucket.e))]) (.box [.nil]) (x.buckets.map XBucket.e)) rfl ?_ ?_ ?_
 ·exact Kn.of [0, 1, 2] (by decide) (by simp [h_impl_copyStorage, keepM_t, keepM_f, keepM_n, setT_c, setT_n, relVs, relV, relLs, relL, relTs, relObs, relOb, L.ren, ren_dat]) (by simp [keepM_t, keepM_f, keepM_n, setT_c, setT_n, relVs, relV, relLs, relL, relTs, relObs, relOb, L.ren, ren_dat])
 ·intro k hk
  have ek := e1 k hk
  have hx := XBucket_e x.buckets[k]
  have ht := take_nextE (e := XBucket.e) hk
  rw [hx] at ht
  have N0 := nd_or 2 (x.buckets[k].caches.caches.map XCache.e)
  generalize nd 2 (x.buckets[k].caches.caches.map XCache.e) = n0 at N0 ek
  have N1 := nd_or 3 (x.buckets[k].disk.base.stores.map XStore.e)
  generalize nd 3 (x.buckets[k].disk.base.stores.map XStore.e) = n1 at N1 ek
  have N2 := nd_or 4 (x.buckets[k].replica.base.items.map XItem.e)
  generalize nd 4 (x.buckets[k].replica.base.items.map XItem.e) = n2 at N2 ek
  cases k with
  | zero =>
   simp only [h_impl_copyStorage, ht]
   rcases N0 with ⟨q0, rfl⟩ | ⟨q0, rfl⟩ <;> rcases N1 with ⟨q1, rfl⟩ | ⟨q1, rfl⟩ <;> rcases N2 with ⟨q2, rfl⟩ | ⟨q2, rfl⟩
   ·simp only [q0, q1, q2] at ek
    simp [b_impl_copyStorage_0, hk, hx, ek, wrap_1, q0, q1, q2]
    exact Kn.q [0, 1, 2, 8]
   ·simp only [q0, q1] at ek
    simp [b_impl_copyStorage_0, hk, hx, ek, wrap_1, q0, q1]
    exact Kn.q [0, 1, 2, 9]
   ·simp only [q0, q2] at ek
    simp [b_impl_copyStorage_0, hk, hx, ek, wrap_1, q0, q2]
    exact Kn.q [0, 1, 2, 9]
   ·simp only [q0] at ek
    simp [b_impl_copyStorage_0, hk, hx, ek, wrap_1, q0]
    exact Kn.q [0, 1, 2, 10]
   ·simp only [q1, q2] at ek
    simp [b_impl_copyStorage_0, hk, hx, ek, wrap_1, q1, q2]
    exact Kn.q [0, 1, 2, 9]
   ·simp only [q1] at ek
    simp [b_impl_copyStorage_0, hk, hx, ek, wrap_1, q1]
    exact Kn.q [0, 1, 2, 10]
   ·simp only [q2] at ek
    simp [b_impl_copyStorage_0, hk, hx, ek, wrap_1, q2]
    exact Kn.q [0, 1, 2, 10]
   ·simp [b_impl_copyStorage_0, hk, hx, ek, wrap_1]
    exact Kn.q [0, 1, 2, 11]
  | succ k =>
   obtain ⟨i1, i2, i3, i4, i5, i6⟩ := idxS (n := x.buckets.length) (by unfold maxLen; omega) hk
   have b1 : min (k + 1) x.buckets.length = k + 1 := by omega
   have m1 := lims (m := k + 1 + 1) (z := 328) (by omega) (by omega)
   simp only [h_impl_copyStorage, ht]
   generalize hT : List.take (k + 1) _ = T
   have hTl : T.length = k + 1 := by rw [← hT]; simp; omega
   rcases N0 with ⟨q0, rfl⟩ | ⟨q0, rfl⟩ <;> rcases N1 with ⟨q1, rfl⟩ | ⟨q1, rfl⟩ <;> rcases N2 with ⟨q2, rfl⟩ | ⟨q2, rfl⟩
   ·simp only [q0, q1, q2] at ek
    simp [b_impl_copyStorage_0, hk, hx, ek, i1, i2, i3, i4, i5, i6, hTl, m1, q0, q1, q2]
    exact Kn.q [0, 1, 2, 9]
   ·simp only [q0, q1] at ek
    simp [b_impl_copyStorage_0, hk, hx, ek, i1, i2, i3, i4, i5, i6, hTl, m1, q0, q1]
    exact Kn.q [0, 1, 2, 10]
   ·simp only [q0, q2] at ek
    simp [b_impl_copyStorage_0, hk, hx, ek, i1, i2, i3, i4, i5, i6, hTl, m1, q0, q2]
    exact Kn.q [0, 1, 2, 10]
   ·simp only [q0] at ek
    simp [b_impl_copyStorage_0, hk, hx, ek, i1, i2, i3, i4, i5, i6, hTl, m1, q0]
    exact Kn.q [0, 1, 2, 11]
   ·simp only [q1, q2] at ek
    simp [b_impl_copyStorage_0, hk, hx, ek, i1, i2, i3, i4, i5, i6, hTl, m1, q1, q2]
    exact Kn.q [0, 1, 2, 10]
   ·simp only [q1] at ek
    simp [b_impl_copyStorage_0, hk, hx, ek, i1, i2, i3, i4, i5, i6, hTl, m1, q1]
    exact Kn.q [0, 1, 2, 11]
   ·simp only [q2] at ek
    simp [b_impl_copyStorage_0, hk, hx, ek, i1, i2, i3, i4, i5, i6, hTl, m1, q2]
    exact Kn.q [0, 1, 2, 11]
   ·simp [b_impl_copyStorage_0, hk, hx, ek, i1, i2, i3, i4, i5, i6, hTl, m1]
    exact Kn.q [0, 1, 2, 12]
 ·cases hq : x.buckets with
  | nil => simp [b_impl_copyStorage_0, h_impl_copyStorage, nd]
  | cons q qs =>
   have hT : (x.buckets.map XBucket.e).take (qs.length + 1) = x.buckets.map XBucket.e := List.take_of_length_le (by rw [hq]; simp)
   rw [hq] at hT
   simp only [List.length_cons, h_impl_copyStorage, hT]
   simp [b_impl_copyStorage_0, nd]
def h_spec_l28Copy (b0 b1 : AObj) (rows : List (List PV)) : Nat → List AObj
 | 0 => [b0, b1, .box [.nil]]
 | k + 1 => [b0, b1, .box [.arr 3], .darr 24 (rows.take (k + 1))]
theorem spec_l28Copy_ok {B : Nat} (hB : B ≤ 1048576) {x : XStorage} (h : x.Ok B) : callL Ph extF 450 [.agg [.pv (.lst (x.buckets.map XBucket.e))]] = some (.agg [nd 24 (x.buckets.map XBucket.e)]) := by
 have h_buckets := h
 have e1 : ∀ k (hk : k < x.buckets.length), _ := fun k hk => spec_l27Copy_ok hB (h_buckets.2 _ (List.getElem_mem hk))
 have hl : x.buckets.length ≤ 1048576 := Nat.le_trans h_buckets.1 hB
 refine callL_wp (fn := f_spec_l28Copy) rfl ?_
 simp [f_spec_l28Copy]
 refine wp_count tidyF Cl.fin x.buckets.length [false, true, true, true, true, false, false, false, false, false, false, false, false, false, false, false, false, false, false, false, false, false, false, false, false] (fun k => [(4, vint .i64 k)]) (h_spec_l28Copy (.box [.pv (.lst (x.buckets.map XBucket.e))]) (.box [.nil]) (x.buckets.map XBucket.e)) rfl ?_ ?_ ?_
 ·exact Kn.of [0, 1, 2] (by decide) (by simp [h_spec_l28Copy, keepM_t, keepM_f, keepM_n, setT_c, setT_n, relVs, relV, relLs, relL, relTs, relObs, relOb, L.ren, ren_dat]) (by simp [keepM_t, keepM_f, keepM_n, setT_c, setT_n, relVs, relV, relLs, relL, relTs, relObs, relOb, L.ren, ren_dat])
 ·intro k hk
  have ek := e1 k hk
  have hx := XBucket_e x.buckets[k]
  have ht := take_nextE (e := XBucket.e) hk
  rw [hx] at ht
  have N0 := nd_or 2 (x.buckets[k].caches.caches.map XCache.e)
  generalize nd 2 (x.buckets[k].caches.caches.map XCache.e) = n0 at N0 ek
  have N1 := nd_or 3 (x.buckets[k].disk.base.stores.map XStore.e)
  generalize nd 3 (x.buckets[k].disk.base.stores.map XStore.e) = n1 at N1 ek
  have N2 := nd_or 4 (x.buckets[k].replica.base.items.map XItem.e)
  generalize nd 4 (x.buckets[k].replica.base.items.map XItem.e) = n2 at N2 ek
  cases k with
  | zero =>
   simp only [h_spec_l28Copy, ht]
   rcases N0 with ⟨q0, rfl⟩ | ⟨q0, rfl⟩ <;> rcases N1 with ⟨q1, rfl⟩ | ⟨q1, rfl⟩ <;> rcases N2 with ⟨q2, rfl⟩ | ⟨q2, rfl⟩
   ·simp only [q0, q1, q2] at ek
    simp [b_spec_l28Copy_0, hk, hx, ek, wrap_1, q0, q1, q2]
    exact Kn.q [0, 1, 2, 7]
   ·simp only [q0, q1] at ek
    simp [b_spec_l28Copy_0, hk, hx, ek, wrap_1, q0, q1]
    exact Kn.q [0, 1, 2, 8]
   ·simp only [q0, q2] at ek
    simp [b_spec_l28Copy_0, hk, hx, ek, wrap_1, q0, q2]
    exact Kn.q [0, 1, 2, 8]
   ·simp only [q0] at ek
    simp [b_spec_l28Copy_0, hk, hx, ek, wrap_1, q0]
    exact Kn.q [0, 1, 2, 9]
   ·simp only [q1, q2] at ek
    simp [b_spec_l28Copy_0, hk, hx, ek, wrap_1, q1, q2]
    exact Kn.q [0, 1, 2, 8]
   ·simp only [q1] at ek
    simp [b_spec_l28Copy_0, hk, hx, ek, wrap_1, q1]
    exact Kn.q [0, 1, 2, 9]
   ·simp only [q2] at ek
    simp [b_spec_l28Copy_0, hk, hx, ek, wrap_1, q2]
    exact Kn.q [0, 1, 2, 9]
   ·simp [b_spec_l28Copy_0, hk, hx, ek, wrap_1]
    exact Kn.q [0, 1, 2, 10]
  | succ k =>
   obtain ⟨i1, i2, i3, i4, i5, i6⟩ := idxS (n := x.buckets.length) (by unfold maxLen; omega) hk
   have b1 : min (k + 1) x.buckets.length = k + 1 := by omega
   have m1 := lims (m := k + 1 + 1) (z := 328) (by omega) (by omega)
   simp only [h_spec_l28Copy, ht]
   generalize hT : List.take (k + 1) _ = T
   have hTl : T.length = k + 1 := by rw [← hT]; simp; omega
   rcases N0 with ⟨q0, rfl⟩ | ⟨q0, rfl⟩ <;> rcases N1 with ⟨q1, rfl⟩ | ⟨q1, rfl⟩ <;> rcases N2 with ⟨q2, rfl⟩ | ⟨q2, rfl⟩
   ·simp only [q0, q1, q2] at ek
    simp [b_spec_l28Copy_0, hk, hx, ek, i1, i2, i3, i4, i5, i6, hTl, m1, q0, q1, q2]
    exact Kn.q [0, 1, 2, 8]
   ·simp only [q0, q1] at ek
    simp [b_spec_l28Copy_0, hk, hx, ek, i1, i2, i3, i4, i5, i6, hTl, m1, q0, q1]
    exact Kn.q [0, 1, 2, 9]
   ·simp only [q0, q2] at ek
    simp [b_spec_l28Copy_0, hk, hx, ek, i1, i2, i3, i4, i5, i6, hTl, m1, q0, q2]
    exact Kn.q [0, 1, 2, 9]
   ·simp only [q0] at ek
    simp [b_spec_l28Copy_0, hk, hx, ek, i1, i2, i3, i4, i5, i6, hTl, m1, q0]
    exact Kn.q [0, 1, 2, 10]
   ·simp only [q1, q2] at ek
    simp [b_spec_l28Copy_0, hk, hx, ek, i1, i2, i3, i4, i5, i6, hTl, m1, q1, q2]
    exact Kn.q [0, 1, 2, 9]
   ·simp only [q1] at ek
    simp [b_spec_l28Copy_0, hk, hx, ek, i1, i2, i3, i4, i5, i6, hTl, m1, q1]
    exact Kn.q [0, 1, 2, 10]
   ·simp only [q2] at ek
    simp [b_spec_l28Copy_0, hk, hx, ek, i1, i2, i3, i4, i5, i6, hTl, m1, q2]
    exact Kn.q [0, 1, 2, 10]
   ·simp [b_spec_l28Copy_0, hk, hx, ek, i1, i2, i3, i4, i5, i6, hTl, m1]
    exact Kn.q [0, 1, 2, 11]
 ·cases hq : x.buckets with
  | nil => simp [b_spec_l28Copy_0, h_spec_l28Copy, nd]
  | cons q qs =>
   have hT : (x.buckets.map XBucket.e).take (qs.length + 1) = x.buckets.map XBucket.e := List.take_of_length_le (by rw [hq]; simp)
   rw [hq] at hT
   simp only [List.length_cons, h_spec_l28Copy, hT]
   simp [b_spec_l28Copy_0, nd]
def hp_ (rows : List (List PV)) (k : Nat) : List AObj := [.darr 11 (rows.take k)]
theorem impl_copyPages_ok {B : Nat} (hB : B ≤ 1048576) {xs : List XPage} (h : xs.length ≤ B ∧ ∀ x ∈ xs, x.Ok B) : callL Ph extF 457 [vlst (xs.map XPage.e)] = some (.one (.down 11 (xs.map XPage.e))) := by
 have hl : xs.length ≤ 1048576 := Nat.le_trans h.1 hB
 have e1 : ∀ k (hk : k < xs.length), _ := fun k hk => impl_copyPage_ok hB (h.2 _ (List.getElem_mem hk))
 refine callL_wp (fn := f_impl_copyPages) rfl ?_
 simp [f_impl_copyPages]
 refine wp_count tidyF Cl.fin xs.length [false, false, false, true, false, false, false, true, true, true, false, false, false, false, false, false, false, false, false, false] (fun k => [(3, .one (.arr 0)), (9, vint .i64 k)]) (hp_ (xs.map XPage.e)) rfl ?_ ?_ ?_
 ·exact Kn.of [0] (by decide) (by simp [hp_, keepM_t, keepM_f, keepM_n, setT_c, setT_n, relVs, relV, relLs, relL, relTs, relObs, relOb, L.ren, ren_dat]) (by simp [keepM_t, keepM_f, keepM_n, setT_c, setT_n, relVs, relV, relLs, relL, relTs, relObs, relOb, L.ren, ren_dat])
 ·intro k hk
  have ek := e1 k hk
  have hx := XPage_e xs[k]
  have ht := take_nextE (e := XPage.e) hk
  rw [hx] at ht
  cases k with
  | zero =>
   simp only [hp_, ht]
   simp [b_impl_copyPages_0, hk, hx, ek, wrap_1]
   exact Kn.q [6]
  | succ k =>
   obtain ⟨i1, i2, i3, i4, i5, i6⟩ := idxS (n := xs.length) (by unfold maxLen; omega) hk
   have m1 := lims (m := k + 1 + 1) (z := 144) (by omega) (by omega)
   simp only [hp_, ht]
   generalize hT : List.take (k + 1) _ = T
   have hTl : T.length = k + 1 := by rw [← hT]; simp; omega
   simp [b_impl_copyPages_0, hk, hx, ek, i1, i2, i3, i4, i5, i6, hTl, m1]
   exact Kn.q [6]
 ·have hT : (xs.map XPage.e).take xs.length = xs.map XPage.e := List.take_of_length_le (by simp)
  simp only [hp_, hT]
  simp [b_impl_copyPages_0]
end Gi
