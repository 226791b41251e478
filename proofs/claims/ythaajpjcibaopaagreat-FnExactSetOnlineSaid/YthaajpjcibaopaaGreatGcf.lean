/- Of this proof. -/
import Derived.Test.YthaajpjcibaopaaGreatGcd
namespace Gi
open Go Go.RowKit
set_option linter.unusedSimpArgs false
set_option linter.unusedVariables false
set_option maxHeartbeats 8000000
set_option maxRecDepth 4000
attribute [local simp] start execOps stepO wants fop eop Opd.ev put V.cells plain loadV cut isInt isStr isBool bin binInt binStr_neq binStr_eql un asList L.view viewArgs V.view viewL finish resultsOf resultOf comps comp giveLs giveL arrs_e arrs_pv arrs_nil arrs_arr arrs_dat view_dat plain_dat mut_dat freeze_dat give_dat ren_dat notArr_dat setL_own setL_nd setL_dat flat_dat thaw_dat V.flat L.flat setV setL storeV putAt thaw thawL thawT freezeVs freezeLs freezeL V.mut L.mut elemPtr viewRows fillL cellsP rowsP isVar bound wp_seq wp_block wp_region wp_cond wp_skip wp_exit wp_ret wp_end wp_sqN wp_sqR wp_sqE wp_bkN wp_bkR wp_bkE Fin_ret Fin_normal L.notArr keepM_t keepM_f keepM_n setT_c setT_n storeD deepOf srcD srcRows srcNot srcDead ysD L.mov L.closed V.closed PV.bare PV.flat
def h_impl_copyDatabase (b0 b1 : AObj) (nm : List UInt8) (ver : Int) (U rows : List (List PV)) : Nat → List AObj
 | 0 => [b0, b1, .box [.pv (.str nm), .pv (.int .i64 ver), .nil, .arr 3], .darr 2 U]
 | k + 1 => [b0, b1, .box [.pv (.str nm), .pv (.int .i64 ver), .arr 4, .arr 3], .darr 2 U, .darr 3 (rows.take (k + 1))]
theorem impl_copyDatabase_ok {B : Nat} (hB : B ≤ 1048576) {x : XDatabase} (h : x.Ok B) : callL Ph extF 498 [.agg [.pv (.str x.name), .pv (.int .i64 x.version), .pv (.lst (x.stores.map XStore.e)), .pv (.lst (x.unique.map XIndexDef.e))]] = some (.agg [.pv (.str x.name), .pv (.int .i64 x.version), nd 3 (x.stores.map XStore.e), .down 2 (x.unique.map XIndexDef.e)]) := by
 obtain ⟨h_name, h_version, h_stores, h_unique⟩ := h
 have F0 : Flat 2 (x.unique.map XIndexDef.e) := ⟨flat_map (e := XIndexDef.e) (fun _ => rfl) _, wid_map (e := XIndexDef.e) (z := 2) (fun _ => rfl) _, by rw [List.length_map]; have := h_unique.1; omega⟩
 have hf0 := F0.flat
 have hw0 := F0.wid
 have m0 := lims (m := (x.unique.map XIndexDef.e).length) (z := 32) (by have := F0.len; omega) (by omega)
 generalize (x.unique.map XIndexDef.e) = R0 at F0 hf0 hw0 m0 ⊢
 have e1 : ∀ k (hk : k < x.stores.length), _ := fun k hk => impl_copyStore_ok hB (h_stores.2 _ (List.getElem_mem hk))
 have hl : x.stores.length ≤ 1048576 := Nat.le_trans h_stores.1 hB
 refine callL_wp (fn := f_impl_copyDatabase) rfl ?_
 simp [f_impl_copyDatabase, hf0, hw0, m0]
 refine wp_count tidyF Cl.fin x.stores.length [false, false, true, true, false, false, false, false, false, false, false, false, false, false, false, false, true, true, true, false, false, false, false, false, false, false, false, false, false, false, false] (fun k => [(18, vint .i64 k)]) (h_impl_copyDatabase (.box [.pv (.str x.name), .pv (.int .i64 x.version), .pv (.lst (x.stores.map XStore.e)), .pv (.lst R0)]) (.box [.pv (.str []), .pv (.int .i64 0), .nil, .nil]) x.name x.version R0 (x.stores.map XStore.e)) rfl ?_ ?_ ?_
 ·exact Kn.of [0, 1, 2, 3] (by decide) (by simp [h_impl_copyDatabase, keepM_t, keepM_f, keepM_n, setT_c, setT_n, relVs, relV, relLs, relL, relTs, relObs, relOb, L.ren, ren_dat]) (by simp [keepM_t, keepM_f, keepM_n, setT_c, setT_n, relVs, relV, relLs, relL, relTs, relObs, relOb, L.ren, ren_dat])
 ·intro k hk
  have ek := e1 k hk
  have hx := XStore_e x.stores[k]
  have ht := take_nextE (e := XStore.e) hk
  rw [hx] at ht
  have N0 := nd_or 4 (x.stores[k].items.map XItem.e)
  generalize nd 4 (x.stores[k].items.map XItem.e) = n0 at N0 ek
  cases k with
  | zero =>
   simp only [h_impl_copyDatabase, ht]
   rcases N0 with ⟨q0, rfl⟩ | ⟨q0, rfl⟩
   ·simp only [q0] at ek
    simp [b_impl_copyDatabase_0, hk, hx, ek, wrap_1, q0]
    exact Kn.q [0, 1, 2, 3, 6]
   ·simp [b_impl_copyDatabase_0, hk, hx, ek, wrap_1]
    exact Kn.q [0, 1, 2, 3, 7]
  | succ k =>
   obtain ⟨i1, i2, i3, i4, i5, i6⟩ := idxS (n := x.stores.length) (by unfold maxLen; omega) hk
   have b1 : min (k + 1) x.stores.length = k + 1 := by omega
   have m1 := lims (m := k + 1 + 1) (z := 48) (by omega) (by omega)
   simp only [h_impl_copyDatabase, ht]
   generalize hT : List.take (k + 1) _ = T
   have hTl : T.length = k + 1 := by rw [← hT]; simp; omega
   rcases N0 with ⟨q0, rfl⟩ | ⟨q0, rfl⟩
   ·simp only [q0] at ek
    simp [b_impl_copyDatabase_0, hk, hx, ek, i1, i2, i3, i4, i5, i6, hTl, m1, q0]
    exact Kn.q [0, 1, 2, 3, 7]
   ·simp [b_impl_copyDatabase_0, hk, hx, ek, i1, i2, i3, i4, i5, i6, hTl, m1]
    exact Kn.q [0, 1, 2, 3, 8]
 ·cases hq : x.stores with
  | nil => simp [b_impl_copyDatabase_0, h_impl_copyDatabase, nd]
  | cons q qs =>
   have hT : (x.stores.map XStore.e).take (qs.length + 1) = x.stores.map XStore.e := List.take_of_length_le (by rw [hq]; simp)
   rw [hq] at hT
   simp only [List.length_cons, h_impl_copyDatabase, hT]
   simp [b_impl_copyDatabase_0, nd]
def h_spec_l8Copy (b0 b1 : AObj) (nm : List UInt8) (ver : Int) (U rows : List (List PV)) : Nat → List AObj
 | 0 => [b0, b1, .box [.pv (.str nm), .pv (.int .i64 ver), .nil, .arr 3], .darr 2 U]
 | k + 1 => [b0, b1, .box [.pv (.str nm), .pv (.int .i64 ver), .arr 4, .arr 3], .darr 2 U, .darr 3 (rows.take (k + 1))]
theorem spec_l8Copy_ok {B : Nat} (hB : B ≤ 1048576) {x : XDatabase} (h : x.Ok B) : callL Ph extF 496 [.agg [.pv (.str x.name), .pv (.int .i64 x.version), .pv (.lst (x.stores.map XStore.e)), .pv (.lst (x.unique.map XIndexDef.e))]] = some (.agg [.pv (.str x.name), .pv (.int .i64 x.version), nd 3 (x.stores.map XStore.e), .down 2 (x.unique.map XIndexDef.e)]) := by
 obtain ⟨h_name, h_version, h_stores, h_unique⟩ := h
 have F0 : Flat 2 (x.unique.map XIndexDef.e) := ⟨flat_map (e := XIndexDef.e) (fun _ => rfl) _, wid_map (e := XIndexDef.e) (z := 2) (fun _ => rfl) _, by rw [List.length_map]; have := h_unique.1; omega⟩
 have hf0 := F0.flat
 have hw0 := F0.wid
 have m0 := lims (m := (x.unique.map XIndexDef.e).length) (z := 32) (by have := F0.len; omega) (by omega)
 generalize (x.unique.map XIndexDef.e) = R0 at F0 hf0 hw0 m0 ⊢
 have e1 : ∀ k (hk : k < x.stores.length), _ := fun k hk => spec_l6Copy_ok hB (h_stores.2 _ (List.getElem_mem hk))
 have hl : x.stores.length ≤ 1048576 := Nat.le_trans h_stores.1 hB
 refine callL_wp (fn := f_spec_l8Copy) rfl ?_
 simp [f_spec_l8Copy, hf0, hw0, m0]
 refine wp_count tidyF Cl.fin x.stores.length [false, true, true, true, true, false, false, false, false, false, false, false, false, false, false, false, false, false, false, false, false, false, false, false, false, false, false, false, false, false, false, false, false] (fun k => [(4, vint .i64 k)]) (h_spec_l8Copy (.box [.pv (.str x.name), .pv (.int .i64 x.version), .pv (.lst (x.stores.map XStore.e)), .pv (.lst R0)]) (.box [.pv (.str []), .pv (.int .i64 0), .nil, .nil]) x.name x.version R0 (x.stores.map XStore.e)) rfl ?_ ?_ ?_
 ·exact Kn.of [0, 1, 2, 3] (by decide) (by simp [h_spec_l8Copy, keepM_t, keepM_f, keepM_n, setT_c, setT_n, relVs, relV, relLs, relL, relTs, relObs, relOb, L.ren, ren_dat]) (by simp [keepM_t, keepM_f, keepM_n, setT_c, setT_n, relVs, relV, relLs, relL, relTs, relObs, relOb, L.ren, ren_dat])
 ·intro k hk
  have ek := e1 k hk
  have hx := XStore_e x.stores[k]
  have ht := take_nextE (e := XStore.e) hk
  rw [hx] at ht
  have N0 := nd_or 4 (x.stores[k].items.map XItem.e)
  generalize nd 4 (x.stores[k].items.map XItem.e) = n0 at N0 ek
  cases k with
  | zero =>
   simp only [h_spec_l8Copy, ht]
   rcases N0 with ⟨q0, rfl⟩ | ⟨q0, rfl⟩
   ·simp only [q0] at ek
    simp [b_spec_l8Copy_0, hk, hx, ek, wrap_1, q0]
    exact Kn.q [0, 1, 2, 3, 5]
   ·simp [b_spec_l8Copy_0, hk, hx, ek, wrap_1]
    exact Kn.q [0, 1, 2, 3, 6]
  | succ k =>
   obtain ⟨i1, i2, i3, i4, i5, i6⟩ := idxS (n := x.stores.length) (by unfold maxLen; omega) hk
   have b1 : min (k + 1) x.stores.length = k + 1 := by omega
   have m1 := lims (m := k + 1 + 1) (z := 48) (by omega) (by omega)
   simp only [h_spec_l8Copy, ht]
   generalize hT : List.take (k + 1) _ = T
   have hTl : T.length = k + 1 := by rw [← hT]; simp; omega
   rcases N0 with ⟨q0, rfl⟩ | ⟨q0, rfl⟩
   ·simp only [q0] at ek
    simp [b_spec_l8Copy_0, hk, hx, ek, i1, i2, i3, i4, i5, i6, hTl, m1, q0]
    exact Kn.q [0, 1, 2, 3, 6]
   ·simp [b_spec_l8Copy_0, hk, hx, ek, i1, i2, i3, i4, i5, i6, hTl, m1]
    exact Kn.q [0, 1, 2, 3, 7]
 ·cases hq : x.stores with
  | nil => simp [b_spec_l8Copy_0, h_spec_l8Copy, nd]
  | cons q qs =>
   have hT : (x.stores.map XStore.e).take (qs.length + 1) = x.stores.map XStore.e := List.take_of_length_le (by rw [hq]; simp)
   rw [hq] at hT
   simp only [List.length_cons, h_spec_l8Copy, hT]
   simp [b_spec_l8Copy_0, nd]
theorem impl_copyDisk_ok {B : Nat} (hB : B ≤ 1048576) {x : XDisk} (h : x.Ok B) : callL Ph extF 491 [.agg [.pv (.str x.base.name), .pv (.int .i64 x.base.version), .pv (.lst (x.base.stores.map XStore.e)), .pv (.lst (x.base.unique.map XIndexDef.e)), .pv (.lst (ofBytes x.log)), .pv (.int .i64 x.count)]] = some (.agg [.pv (.str x.base.name), .pv (.int .i64 x.base.version), nd 3 (x.base.stores.map XStore.e), .down 2 (x.base.unique.map XIndexDef.e), .down 1 (ofBytes x.log), .pv (.int .i64 x.count)]) := by
 obtain ⟨h_base, h_log, h_count⟩ := h
 have c0 := impl_copyDatabase_ok hB h_base
 have c1 := impl_copyBytes_ok (R := ofBytes x.log) ⟨flat_bytes _, wid_bytes _, by rw [ofBytes_len]; omega⟩
 have N0 := nd_or 3 (x.base.stores.map XStore.e)
 generalize nd 3 (x.base.stores.map XStore.e) = n0 at N0 c0 c1 ⊢
 rcases N0 with ⟨-, rfl⟩ | ⟨-, rfl⟩ <;> (refine callL_wp (fn := f_impl_copyDisk) rfl ?_; simp [f_impl_copyDisk, c0, c1])
theorem spec_l12Copy_ok {B : Nat} (hB : B ≤ 1048576) {x : XDisk} (h : x.Ok B) : callL Ph extF 487 [.agg [.pv (.str x.base.name), .pv (.int .i64 x.base.version), .pv (.lst (x.base.stores.map XStore.e)), .pv (.lst (x.base.unique.map XIndexDef.e)), .pv (.lst (ofBytes x.log)), .pv (.int .i64 x.count)]] = some (.agg [.pv (.str x.base.name), .pv (.int .i64 x.base.version), nd 3 (x.base.stores.map XStore.e), .down 2 (x.base.unique.map XIndexDef.e), .down 1 (ofBytes x.log), .pv (.int .i64 x.count)]) := by
 obtain ⟨h_base, h_log, h_count⟩ := h
 have c0 := spec_l8Copy_ok hB h_base
 have F0 : Flat 1 (ofBytes x.log) := ⟨flat_bytes _, wid_bytes _, by rw [ofBytes_len]; omega⟩
 have hf0 := F0.flat
 have hw0 := F0.wid
 have m0 := lims (m := (ofBytes x.log).length) (z := 1) (by have := F0.len; omega) (by omega)
 rw [Nat.mul_one] at m0
 generalize (ofBytes x.log) = R0 at F0 hf0 hw0 m0 ⊢
 have N0 := nd_or 3 (x.base.stores.map XStore.e)
 generalize nd 3 (x.base.stores.map XStore.e) = n0 at N0 c0 ⊢
 rcases N0 with ⟨-, rfl⟩ | ⟨-, rfl⟩ <;> (refine callL_wp (fn := f_spec_l12Copy) rfl ?_; simp [f_spec_l12Copy, c0, hf0, hw0, m0])
def h_spec_l17Cache (b0 b1 : AObj) (ver : Int) (rows : List (List PV)) : Nat → List AObj
 | 0 => [b0, b1, .box [.pv (.int .i64 ver), .nil]]
 | k + 1 => [b0, b1, .box [.pv (.int .i64 ver), .arr 3], .darr 7 (rows.take (k + 1))]
theorem spec_l17Cache_ok {B : Nat} (hB : B ≤ 1048576) {x : XCache} (h : x.Ok B) : callL Ph extF 495 [.agg [.pv (.int .i64 x.version), .pv (.lst (x.entries.map XCached.e))]] = some (.agg [.pv (.int .i64 x.version), nd 7 (x.entries.map XCached.e)]) := by
 obtain ⟨h_version, h_entries⟩ := h
 have e1 : ∀ k (hk : k < x.entries.length), _ := fun k hk => spec_l15Copy_ok hB (h_entries.2 _ (List.getElem_mem hk)).2.2
 have hl : x.entries.length ≤ 1048576 := Nat.le_trans h_entries.1 hB
 refine callL_wp (fn := f_spec_l17Cache) rfl ?_
 simp [f_spec_l17Cache]
 refine wp_count tidyF Cl.fin x.entries.length [false, true, true, true, true, false, false, false, false, false, false, false, false, false, false, false, false, false, false, false, false, false, false, false, false, false, false, false, false, false, false, false, false, false, false, false] (fun k => [(4, vint .i64 k)]) (h_spec_l17Cache (.box [.pv (.int .i64 x.version), .pv (.lst (x.entries.map XCached.e))]) (.box [.pv (.int .i64 0), .nil]) x.version (x.entries.map XCached.e)) rfl ?_ ?_ ?_
 ·exact Kn.of [0, 1, 2] (by decide) (by simp [h_spec_l17Cache, keepM_t, keepM_f, keepM_n, setT_c, setT_n, relVs, relV, relLs, relL, relTs, relObs, relOb, L.ren, ren_dat]) (by simp [keepM_t, keepM_f, keepM_n, setT_c, setT_n, relVs, relV, relLs, relL, relTs, relObs, relOb, L.ren, ren_dat])
 ·intro k hk
  have ek := e1 k hk
  have hx := XCached_e x.entries[k]
  have ht := take_nextE (e := XCached.e) hk
  rw [hx] at ht
  cases k with
  | zero =>
   simp only [h_spec_l17Cache, ht]
   simp [b_spec_l17Cache_0, hk, hx, ek, wrap_1]
   exact Kn.q [0, 1, 2, 6]
  | succ k =>
   obtain ⟨i1, i2, i3, i4, i5, i6⟩ := idxS (n := x.entries.length) (by unfold maxLen; omega) hk
   have b1 : min (k + 1) x.entries.length = k + 1 := by omega
   have m1 := lims (m := k + 1 + 1) (z := 88) (by omega) (by omega)
   simp only [h_spec_l17Cache, ht]
   generalize hT : List.take (k + 1) _ = T
   have hTl : T.length = k + 1 := by rw [← hT]; simp; omega
   simp [b_spec_l17Cache_0, hk, hx, ek, i1, i2, i3, i4, i5, i6, hTl, m1]
   exact Kn.q [0, 1, 2, 7]
 ·cases hq : x.entries with
  | nil => simp [b_spec_l17Cache_0, h_spec_l17Cache, nd]
  | cons q qs =>
   have hT : (x.entries.map XCached.e).take (qs.length + 1) = x.entries.map XCached.e := List.take_of_length_le (by rw [hq]; simp)
   rw [hq] at hT
   simp only [List.length_cons, h_spec_l17Cache, hT]
   simp [b_spec_l17Cache_0, nd]
def h_spec_l17Copy (b0 b1 : AObj) (rows : List (List PV)) : Nat → List AObj
 | 0 => [b0, b1, .box [.nil]]
 | k + 1 => [b0, b1, .box [.arr 3], .darr 2 (rows.take (k + 1))]
theorem spec_l17Copy_ok {B : Nat} (hB : B ≤ 1048576) {x : XCacheSet} (h : x.Ok B) : callL Ph extF 486 [.agg [.pv (.lst (x.caches.map XCache.e))]] = some (.agg [nd 2 (x.caches.map XCache.e)]) := by
 have h_caches := h
 have e1 : ∀ k (hk : k < x.caches.length), _ := fun k hk => spec_l17Cache_ok hB (h_caches.2 _ (List.getElem_mem hk))
 have hl : x.caches.length ≤ 1048576 := Nat.le_trans h_caches.1 hB
 refine callL_wp (fn := f_spec_l17Copy) rfl ?_
 simp [f_spec_l17Copy]
 refine wp_count tidyF Cl.fin x.caches.length [false, true, true, true, true, false, false, false, false, false, false, false, false, false, false, false, false, false, false, false, false, false, false, false, false] (fun k => [(4, vint .i64 k)]) (h_spec_l17Copy (.box [.pv (.lst (x.caches.map XCache.e))]) (.box [.nil]) (x.caches.map XCache.e)) rfl ?_ ?_ ?_
 ·exact Kn.of [0, 1, 2] (by decide) (by simp [h_spec_l17Copy, keepM_t, keepM_f, keepM_n, setT_c, setT_n, relVs, relV, relLs, relL, relTs, relObs, relOb, L.ren, ren_dat]) (by simp [keepM_t, keepM_f, keepM_n, setT_c, setT_n, relVs, relV, relLs, relL, relTs, relObs, relOb, L.ren, ren_dat])
 ·intro k hk
  have ek := e1 k hk
  have hx := XCache_e x.caches[k]
  have ht := take_nextE (e := XCache.e) hk
  rw [hx] at ht
  have N0 := nd_or 7 (x.caches[k].entries.map XCached.e)
  generalize nd 7 (x.caches[k].entries.map XCached.e) = n0 at N0 ek
  cases k with
  | zero =>
   simp only [h_spec_l17Copy, ht]
   rcases N0 with ⟨q0, rfl⟩ | ⟨q0, rfl⟩
   ·simp only [q0] at ek
    simp [b_spec_l17Copy_0, hk, hx, ek, wrap_1, q0]
    exact Kn.q [0, 1, 2, 4]
   ·simp [b_spec_l17Copy_0, hk, hx, ek, wrap_1]
    exact Kn.q [0, 1, 2, 5]
  | succ k =>
   obtain ⟨i1, i2, i3, i4, i5, i6⟩ := idxS (n := x.caches.length) (by unfold maxLen; omega) hk
   have b1 : min (k + 1) x.caches.length = k + 1 := by omega
   have m1 := lims (m := k + 1 + 1) (z := 32) (by omega) (by omega)
   simp only [h_spec_l17Copy, ht]
   generalize hT : List.take (k + 1) _ = T
   have hTl : T.length = k + 1 := by rw [← hT]; simp; omega
   rcases N0 with ⟨q0, rfl⟩ | ⟨q0, rfl⟩
   ·simp only [q0] at ek
    simp [b_spec_l17Copy_0, hk, hx, ek, i1, i2, i3, i4, i5, i6, hTl, m1, q0]
    exact Kn.q [0, 1, 2, 5]
   ·simp [b_spec_l17Copy_0, hk, hx, ek, i1, i2, i3, i4, i5, i6, hTl, m1]
    exact Kn.q [0, 1, 2, 6]
 ·cases hq : x.caches with
  | nil => simp [b_spec_l17Copy_0, h_spec_l17Copy, nd]
  | cons q qs =>
   have hT : (x.caches.map XCache.e).take (qs.length + 1) = x.caches.map XCache.e := List.take_of_length_le (by rw [hq]; simp)
   rw [hq] at hT
   simp only [List.length_cons, h_spec_l17Copy, hT]
   simp [b_spec_l17Copy_0, nd]
def hc_o (b0 b1 : AObj) (rows : List (List PV)) : Nat → List AObj
 | 0 => [b0, b1, .box [.nil]]
 | k + 1 => [b0, b1, .box [.arr 3], .darr 2 (rows.take (k + 1))]
def hc_i (p : Nat) (pre : List AObj) (b5 : AObj) (ver : Int) (rows : List (List PV)) : Nat → List AObj
 | 0 => pre ++ [b5, .box [.pv (.int .i64 ver), .nil]]
 | j + 1 => pre ++ [b5, .box [.pv (.int .i64 ver), .arr (p + 2)], .darr 7 (rows.take (j + 1))]
theorem impl_copyCacheSet_ok {B : Nat} (hB : B ≤ 1048576) {x : XCacheSet} (h : x.Ok B) : callL Ph extF 490 [.agg [.pv (.lst (x.caches.map XCache.e))]] = some (.agg [nd 2 (x.caches.map XCache.e)]) := by
 have hl : x.caches.length ≤ 1048576 := Nat.le_trans h.1 hB
 refine callL_wp (fn := f_impl_copyCacheSet) rfl ?_
 simp [f_impl_copyCacheSet]
 refine wp_count tidyF Cl.fin x.caches.length [false, false, true, true, false, false, false, false, false, false, false, true, true, true, false, false, false, false, false, false, false, false, false, false, false, false, false, false, false, false, false, false, false, false, false, false, false, false, false, false, false, false, false, false, false, false] (fun k => [(13, vint .i64 k)]) (hc_o (.box [.pv (.lst (x.caches.map XCache.e))]) (.box [.nil]) (x.caches.map XCache.e)) rfl ?_ ?_ ?_
 ·exact Kn.of [0, 1, 2] (by decide) (by simp [hc_o, keepM_t, keepM_f, keepM_n, setT_c, setT_n, relVs, relV, relLs, relL, relTs, relObs, relOb, L.ren, ren_dat]) (by simp [keepM_t, keepM_f, keepM_n, setT_c, setT_n, relVs, relV, relLs, relL, relTs, relObs, relOb, L.ren, ren_dat])
 ·intro k hk
  have hcx := h.2 _ (List.getElem_mem hk)
  have hx := XCache_e x.caches[k]
  have ht := take_nextE (e := XCache.e) hk
  rw [hx] at ht
  have hel : x.caches[k].entries.length ≤ 1048576 := Nat.le_trans hcx.2.1 hB
  have e1 : ∀ j (hj : j < x.caches[k].entries.length), _ := fun j hj => impl_copyResponse_ok hB (hcx.2.2 _ (List.getElem_mem hj)).2.2
  cases k with
  | zero =>
   simp only [hc_o, ht]
   generalize hE : x.caches[0].entries = E at hx e1 hel ⊢
   generalize hv : x.caches[0].version = ver at hx ⊢
   simp [b_impl_copyCacheSet_1, hk, hx, wrap_1]
   refine wp_count tidyF Cl.kn E.length [false, false, true, true, false, false, true, false, false, false, false, true, true, true, false, false, false, false, false, false, false, true, true, true, false, false, false, false, false, false, false, false, false, false, false, false, false, false, false, false, false, false, false, false, false, false] (fun j => [(23, vint .i64 j)]) (hc_i 3 [.box [.pv (.lst (x.caches.map XCache.e))], .box [.nil], .box [.nil]] (.box [.pv (.int .i64 ver), .pv (.lst (E.map XCached.e))]) ver (E.map XCached.e)) rfl ?_ ?_ ?_
   ·exact Kn.of [0, 1, 2, 3, 4] (by decide) (by simp [hc_i, keepM_t, keepM_f, keepM_n, setT_c, setT_n, relVs, relV, relLs, relL, relTs, relObs, relOb, L.ren, ren_dat]) (by simp [keepM_t, keepM_f, keepM_n, setT_c, setT_n, relVs, relV, relLs, relL, relTs, relObs, relOb, L.ren, ren_dat])
   ·intro j hj
    have ek := e1 j hj
    have hy := XCached_e E[j]
    have hu := take_nextE (e := XCached.e) hj
    rw [hy] at hu
    cases j with
    | zero =>
     simp only [hc_i, hu]
     simp [b_impl_copyCacheSet_0, hj, hy, ek, wrap_1]
     exact Kn.q [0, 1, 2, 3, 4, 8]
    | succ j =>
     obtain ⟨i1, i2, i3, i4, i5, i6⟩ := idxS (n := E.length) (by unfold maxLen; omega) hj
     have m1 := lims (m := j + 1 + 1) (z := 88) (by omega) (by omega)
     simp only [hc_i, hu]
     generalize hU : List.take (j + 1) _ = U
     have hUl : U.length = j + 1 := by rw [← hU]; simp; omega
     simp [b_impl_copyCacheSet_0, hj, hy, ek, i1, i2, i3, i4, i5, i6, hUl, m1]
     exact Kn.q [0, 1, 2, 3, 4, 9]
   ·cases hq : E with
    | nil =>
     simp [b_impl_copyCacheSet_0, hc_i, hk, hx, wrap_1]
     exact Kn.q [0, 1, 2, 6]
    | cons q qs =>
     have hT2 : (E.map XCached.e).take (qs.length + 1) = E.map XCached.e := List.take_of_length_le (by rw [hq]; simp)
     rw [hq] at hT2
     simp only [List.length_cons, hc_i, hT2]
     simp [b_impl_copyCacheSet_0, hk, hx, wrap_1]
     exact Kn.q [0, 1, 2, 7]
  | succ k =>
   obtain ⟨i1, i2, i3, i4, i5, i6⟩ := idxS (n := x.caches.length) (by unfold maxLen; omega) hk
   have m1 := lims (m := k + 1 + 1) (z := 32) (by omega) (by omega)
   simp only [hc_o, ht]
   generalize hT : List.take (k + 1) _ = T
   have hTl : T.length = k + 1 := by rw [← hT]; simp; omega
   generalize hE : x.caches[k + 1].entries = E at hx e1 hel ⊢
   generalize hv : x.caches[k + 1].version = ver at hx ⊢
   simp [b_impl_copyCacheSet_1, hk, hx, i1, i2, i3, i4, i5, i6, hTl, m1]
   refine wp_count tidyF Cl.kn E.length [false, false, true, true, false, false, true, false, false, false, false, true, true, true, false, false, false, false, false, false, false, true, true, true, false, false, false, false, false, false, false, false, false, false, false, false, false, false, false, false, false, false, false, false, false, false] (fun j => [(23, vint .i64 j)]) (hc_i 4 [.box [.pv (.lst (x.caches.map XCache.e))], .box [.nil], .box [.arr 3], .darr 2 T] (.box [.pv (.int .i64 ver), .pv (.lst (E.map XCached.e))]) ver (E.map XCached.e)) rfl ?_ ?_ ?_
   ·exact Kn.of [0, 1, 2, 3, 4, 5] (by decide) (by simp [hc_i, keepM_t, keepM_f, keepM_n, setT_c, setT_n, relVs, relV, relLs, relL, relTs, relObs, relOb, L.ren, ren_dat]) (by simp [keepM_t, keepM_f, keepM_n, setT_c, setT_n, relVs, relV, relLs, relL, relTs, relObs, relOb, L.ren, ren_dat])
   ·intro j hj
    have ek := e1 j hj
    have hy := XCached_e E[j]
    have hu := take_nextE (e := XCached.e) hj
    rw [hy] at hu
    cases j with
    | zero =>
     simp only [hc_i, hu]
     simp [b_impl_copyCacheSet_0, hj, hy, ek, wrap_1]
     exact Kn.q [0, 1, 2, 3, 4, 5, 9]
    | succ j =>
     obtain ⟨i1, i2, i3, i4, i5, i6⟩ := idxS (n := E.length) (by unfold maxLen; omega) hj
     have m1 := lims (m := j + 1 + 1) (z := 88) (by omega) (by omega)
     simp only [hc_i, hu]
     generalize hU : List.take (j + 1) _ = U
     have hUl : U.length = j + 1 := by rw [← hU]; simp; omega
     simp [b_impl_copyCacheSet_0, hj, hy, ek, i1, i2, i3, i4, i5, i6, hUl, m1]
     exact Kn.q [0, 1, 2, 3, 4, 5, 10]
   ·cases hq : E with
    | nil =>
     simp [b_impl_copyCacheSet_0, hc_i, hk, hx, i1, i2, i3, i4, i5, i6, hTl, m1]
     exact Kn.q [0, 1, 2, 7]
    | cons q qs =>
     have hT2 : (E.map XCached.e).take (qs.length + 1) = E.map XCached.e := List.take_of_length_le (by rw [hq]; simp)
     rw [hq] at hT2
     simp only [List.length_cons, hc_i, hT2]
     simp [b_impl_copyCacheSet_0, hk, hx, i1, i2, i3, i4, i5, i6, hTl, m1]
     exact Kn.q [0, 1, 2, 8]
 ·cases hq : x.caches with
  | nil => simp [b_impl_copyCacheSet_1, hc_o, nd]
  | cons q qs =>
   have hT : (x.caches.map XCache.e).take (qs.length + 1) = x.caches.map XCache.e := List.take_of_length_le (by rw [hq]; simp)
   rw [hq] at hT
   simp only [List.length_cons, hc_o, hT]
   simp [b_impl_copyCacheSet_1, nd]
theorem impl_copyBucket_ok {B : Nat} (hB : B ≤ 1048576) {x : XBucket} (h : x.Ok B) : callL Ph extF 478 [.agg [.pv (.str x.site), .pv (.str x.top), .pv (.str x.reg.site), .pv (.int .i64 x.reg.installing), .pv (.int .i64 x.reg.waiting), .pv (.int .i64 x.reg.active), .pv (.lst (x.caches.caches.map XCache.e)), .pv (.str x.disk.base.name), .pv (.int .i64 x.disk.base.version), .pv (.lst (x.disk.base.stores.map XStore.e)), .pv (.lst (x.disk.base.unique.map XIndexDef.e)), .pv (.lst (ofBytes x.disk.log)), .pv (.int .i64 x.disk.count), .pv (.str x.replica.base.name), .pv (.lst (x.replica.base.items.map XItem.e)), .pv (.int .i64 x.replica.base.auto), .pv (.int .i64 x.replica.seen), .pv (.int .i64 x.replica.sync.outbox.dev), .pv (.int .i64 x.replica.sync.outbox.next), .pv (.lst (x.replica.sync.outbox.writes.map XWrite.e)), .pv (.int .i64 x.replica.sync.tries), .pv (.int .i64 x.replica.sync.wait), .pv (.int .i64 x.lastUsed), .pv (.bool x.persistent)]] = some (.agg [.pv (.str x.site), .pv (.str x.top), .pv (.str x.reg.site), .pv (.int .i64 x.reg.installing), .pv (.int .i64 x.reg.waiting), .pv (.int .i64 x.reg.active), nd 2 (x.caches.caches.map XCache.e), .pv (.str x.disk.base.name), .pv (.int .i64 x.disk.base.version), nd 3 (x.disk.base.stores.map XStore.e), .down 2 (x.disk.base.unique.map XIndexDef.e), .down 1 (ofBytes x.disk.log), .pv (.int .i64 x.disk.count), .pv (.str x.replica.base.name), nd 4 (x.replica.base.items.map XItem.e), .pv (.int .i64 x.replica.base.auto), .pv (.int .i64 x.replica.seen), .pv (.int .i64 x.replica.sync.outbox.dev), .pv (.int .i64 x.replica.sync.outbox.next), .down 7 (x.replica.sync.outbox.writes.map XWrite.e), .pv (.int .i64 x.replica.sync.tries), .pv (.int .i64 x.replica.sync.wait), .pv (.int .i64 x.lastUsed), .pv (.bool x.persistent)]) := by
 obtain ⟨h_site, h_top, h_reg, h_caches, h_disk, h_replica, h_lastUsed⟩ := h
 have c0 := impl_copyCacheSet_ok hB h_caches
 have c1 := impl_copyDisk_ok hB h_disk
 have c2 := impl_copyReplica_ok hB h_replica
 have N0 := nd_or 2 (x.caches.caches.map XCache.e)
 generalize nd 2 (x.caches.caches.map XCache.e) = n0 at N0 c0 c1 c2 ⊢
 have N1 := nd_or 3 (x.disk.base.stores.map XStore.e)
 generalize nd 3 (x.disk.base.stores.map XStore.e) = n1 at N1 c0 c1 c2 ⊢
 have N2 := nd_or 4 (x.replica.base.items.map XItem.e)
 generalize nd 4 (x.replica.base.items.map XItem.e) = n2 at N2 c0 c1 c2 ⊢
 rcases N0 with ⟨-, rfl⟩ | ⟨-, rfl⟩ <;> rcases N1 with ⟨-, rfl⟩ | ⟨-, rfl⟩ <;> rcases N2 with ⟨-, rfl⟩ | ⟨-, rfl⟩ <;> (refine callL_wp (fn := f_impl_copyBucket) rfl ?_; simp [f_impl_copyBucket, c0, c1, c2])
theorem spec_l27Copy_ok {B : Nat} (hB : B ≤ 1048576) {x : XBucket} (h : x.Ok B) : callL Ph extF 476 [.agg [.pv (.str x.site), .pv (.str x.top), .pv (.str x.reg.site), .pv (.int .i64 x.reg.installing), .pv (.int .i64 x.reg.waiting), .pv (.int .i64 x.reg.active), .pv (.lst (x.caches.caches.map XCache.e)), .pv (.str x.disk.base.name), .pv (.int .i64 x.disk.base.version), .pv (.lst (x.disk.base.stores.map XStore.e)), .pv (.lst (x.disk.base.unique.map XIndexDef.e)), .pv (.lst (ofBytes x.disk.log)), .pv (.int .i64 x.disk.count), .pv (.str x.replica.base.name), .pv (.lst (x.replica.base.items.map XItem.e)), .pv (.int .i64 x.replica.base.auto), .pv (.int .i64 x.replica.seen), .pv (.int .i64 x.replica.sync.outbox.dev), .pv (.int .i64 x.replica.sync.outbox.next), .pv (.lst (x.replica.sync.outbox.writes.map XWrite.e)), .pv (.int .i64 x.replica.sync.tries), .pv (.int .i64 x.replica.sync.wait), .pv (.int .i64 x.lastUsed), .pv (.bool x.persistent)]] = some (.agg [.pv (.str x.site), .pv (.str x.top), .pv (.str x.reg.site), .pv (.int .i64 x.reg.installing), .pv (.int .i64 x.reg.waiting), .pv (.int .i64 x.reg.active), nd 2 (x.caches.caches.map XCache.e), .pv (.str x.disk.base.name), .pv (.int .i64 x.disk.base.version), nd 3 (x.disk.base.stores.map XStore.e), .down 2 (x.disk.base.unique.map XIndexDef.e), .down 1 (ofBytes x.disk.log), .pv (.int .i64 x.disk.count), .pv (.str x.replica.base.name), nd 4 (x.replica.base.items.map XItem.e), .pv (.int .i64 x.replica.base.auto), .pv (.int .i64 x.replica.seen), .pv (.int .i64 x.replica.sync.outbox.dev), .pv (.int .i64 x.replica.sync.outbox.next), .down 7 (x.replica.sync.outbox.writes.map XWrite.e), .pv (.int .i64 x.replica.sync.tries), .pv (.int .i64 x.replica.sync.wait), .pv (.int .i64 x.lastUsed), .pv (.bool x.persistent)]) := by
 obtain ⟨h_site, h_top, h_reg, h_caches, h_disk, h_replica, h_lastUsed⟩ := h
 have c0 := spec_l17Copy_ok hB h_caches
 have c1 := spec_l12Copy_ok hB h_disk
 have c2 := spec_l23Copy_ok hB h_replica
 have N0 := nd_or 2 (x.caches.caches.map XCache.e)
 generalize nd 2 (x.caches.caches.map XCache.e) = n0 at N0 c0 c1 c2 ⊢
 have N1 := nd_or 3 (x.disk.base.stores.map XStore.e)
 generalize nd 3 (x.disk.base.stores.map XStore.e) = n1 at N1 c0 c1 c2 ⊢
 have N2 := nd_or 4 (x.replica.base.items.map XItem.e)
 generalize nd 4 (x.replica.base.items.map XItem.e) = n2 at N2 c0 c1 c2 ⊢
 rcases N0 with ⟨-, rfl⟩ | ⟨-, rfl⟩ <;> rcases N1 with ⟨-, rfl⟩ | ⟨-, rfl⟩ <;> rcases N2 with ⟨-, rfl⟩ | ⟨-, rfl⟩ <;> (refine callL_wp (fn := f_spec_l27Copy) rfl ?_; simp [f_spec_l27Copy, c0, c1, c2])
end Gi
