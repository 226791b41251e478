/- Of this proof. -/
import Derived.Test.YthaajpjcibaopaaGreatGci
namespace Gi
open Go Go.RowKit
set_option linter.unusedSimpArgs false
set_option linter.unusedVariables false
set_option maxHeartbeats 8000000
set_option maxRecDepth 4000
attribute [local simp] start execOps stepO wants fop eop Opd.ev put V.cells plain loadV cut isInt isStr isBool bin binInt binStr_neq binStr_eql un asList L.view viewArgs V.view viewL finish resultsOf resultOf comps comp giveLs giveL arrs_e arrs_pv arrs_nil arrs_arr arrs_dat view_dat plain_dat mut_dat freeze_dat give_dat ren_dat notArr_dat setL_own setL_nd setL_dat flat_dat thaw_dat V.flat L.flat setV setL storeV putAt thaw thawL thawT freezeVs freezeLs freezeL V.mut L.mut elemPtr viewRows fillL cellsP rowsP isVar bound wp_seq wp_block wp_region wp_cond wp_skip wp_exit wp_ret wp_end wp_sqN wp_sqR wp_sqE wp_bkN wp_bkR wp_bkE Fin_ret Fin_normal L.notArr keepM_t keepM_f keepM_n setT_c setT_n storeD deepOf srcD srcRows srcNot srcDead ysD L.mov L.closed V.closed PV.bare PV.flat
def hv (b0 b1 b2 : AObj) (rest : List AObj) (z : Nat) (rows : List (List PV)) (k : Nat) : List AObj := b0 :: b1 :: b2 :: (rest ++ [.darr z (rows.take k)])
theorem spec_l29Copy_ok {B : Nat} (hB : B ≤ 1048576) {x : XWorld} (h : x.Ok B) : callL Ph extF 433 [.agg [.pv (.int .i64 x.now), .pv (.bool x.online), .pv (.int .i64 x.device), .pv (.lst (x.storage.buckets.map XBucket.e)), .pv (.lst (x.pages.map XPage.e)), .pv (.int .i64 x.nextPage), .pv (.lst (x.locks.locks.map XLock.e)), .pv (.lst (x.channel.mails.map XMail.e)), .pv (.lst (x.sites.map XSite.e)), .pv (.lst (x.servers.map XServer.e))]] = some (.agg [.pv (.int .i64 x.now), .pv (.bool x.online), .pv (.int .i64 x.device), nd 24 (x.storage.buckets.map XBucket.e), .down 11 (x.pages.map XPage.e), .pv (.int .i64 x.nextPage), .down 4 (x.locks.locks.map XLock.e), .down 3 (x.channel.mails.map XMail.e), .down 4 (x.sites.map XSite.e), .down 5 (x.servers.map XServer.e)]) := by
 obtain ⟨h_now, h_device, h_storage, h_pages, h_nextPage, h_locks, h_channel, h_sites, h_servers⟩ := h
 have c0 := spec_l28Copy_ok hB h_storage
 have c2 := spec_l25Copy_ok hB h_locks
 have c3 := spec_l26Copy_ok hB h_channel
 have e_pages : ∀ k (hk : k < x.pages.length), _ := fun k hk => spec_l19Copy_ok hB (h_pages.2 _ (List.getElem_mem hk))
 have hl_pages : x.pages.length ≤ 1048576 := Nat.le_trans h_pages.1 hB
 have e_sites : ∀ k (hk : k < x.sites.length), _ := fun k hk => spec_l16Copy_ok hB (h_sites.2 _ (List.getElem_mem hk))
 have hl_sites : x.sites.length ≤ 1048576 := Nat.le_trans h_sites.1 hB
 have e_servers : ∀ k (hk : k < x.servers.length), _ := fun k hk => spec_l21Copy_ok hB (h_servers.2 _ (List.getElem_mem hk))
 have hl_servers : x.servers.length ≤ 1048576 := Nat.le_trans h_servers.1 hB
 clear h_now h_device h_storage h_pages h_nextPage h_locks h_channel h_sites h_servers
 have N := nd_or 24 (x.storage.buckets.map XBucket.e)
 generalize nd 24 (x.storage.buckets.map XBucket.e) = n at N c0 ⊢
 rcases N with ⟨-, rfl⟩ | ⟨-, rfl⟩
 ·refine callL_wp (fn := f_spec_l29Copy) rfl ?_
  simp [f_spec_l29Copy, c0, c2, c3]
  refine wp_count tidyF Cl.fin x.pages.length [false, true, true, true, true, false, false, false, false, false, false, false, false, false, false, false, false, false, false, false, false, false, false, false, false, false, false, false, false, false, false, false, false, false, false, false, false, false, false, false, false, false, false, false, false, false, false, false, false, false, false, false, false, false, false, false, false, false, false, false, false, false, false, false, false, false, false, false, false, false, false, false, false, false, false, false, false, false, false, false, false] (fun k => [(4, vint .i64 k)]) (hv (.box [.pv (.int .i64 x.now), .pv (.bool x.online), .pv (.int .i64 x.device), .pv (.lst (x.storage.buckets.map XBucket.e)), .pv (.lst (x.pages.map XPage.e)), .pv (.int .i64 x.nextPage), .pv (.lst (x.locks.locks.map XLock.e)), .pv (.lst (x.channel.mails.map XMail.e)), .pv (.lst (x.sites.map XSite.e)), .pv (.lst (x.servers.map XServer.e))]) (.box [.pv (.int .i64 0), .pv (.bool false), .pv (.int .i64 0), .nil, .nil, .pv (.int .i64 0), .nil, .nil, .nil, .nil]) (.box [.pv (.int .i64 x.now), .pv (.bool x.online), .pv (.int .i64 x.device), .nil, .arr 3, .pv (.int .i64 x.nextPage), .pv (.lst (x.locks.locks.map XLock.e)), .pv (.lst (x.channel.mails.map XMail.e)), .pv (.lst (x.sites.map XSite.e)), .pv (.lst (x.servers.map XServer.e))]) [] 11 (x.pages.map XPage.e)) rfl ?_ ?_ ?_
  ·exact Kn.of [0, 1, 2, 3] (by decide) (by simp [hv, List.cons_append, List.nil_append, List.take_zero, keepM_t, keepM_f, keepM_n, setT_c, setT_n, relVs, relV, relLs, relL, relTs, relObs, relOb, L.ren, ren_dat]) (by simp [keepM_t, keepM_f, keepM_n, setT_c, setT_n, relVs, relV, relLs, relL, relTs, relObs, relOb, L.ren, ren_dat])
  ·intro k hk
   have ek := e_pages k hk
   have hx := XPage_e x.pages[k]
   have ht := take_nextE (e := XPage.e) hk
   rw [hx] at ht
   cases k with
   | zero =>
    simp only [hv, List.cons_append, List.nil_append, List.take_zero, ht]
    simp [b_spec_l29Copy_0, hk, hx, ek, wrap_1]
    exact Kn.q [0, 1, 2, 8]
   | succ k =>
    obtain ⟨i1, i2, i3, i4, i5, i6⟩ := idxS (n := x.pages.length) (by unfold maxLen; omega) hk
    have m1 := lims (m := k + 1 + 1) (z := 144) (by omega) (by omega)
    simp only [hv, List.cons_append, List.nil_append, List.take_zero, ht]
    generalize hT : List.take (k + 1) _ = T
    have hTl : T.length = k + 1 := by rw [← hT]; simp; omega
    simp [b_spec_l29Copy_0, hk, hx, ek, i1, i2, i3, i4, i5, i6, hTl, m1]
    exact Kn.q [0, 1, 2, 8]
  have hT0 : (x.pages.map XPage.e).take x.pages.length = (x.pages.map XPage.e) := List.take_of_length_le (by simp)
  simp only [hv, hT0, List.cons_append, List.nil_append]
  simp [b_spec_l29Copy_0, c2, c3]
  refine wp_count tidyF Cl.fin x.sites.length [false, true, true, true, false, true, false, false, false, false, false, false, false, false, false, false, false, false, false, false, false, false, false, false, false, false, false, false, false, false, false, false, false, false, false, false, false, false, false, false, false, false, false, false, false, false, false, false, false, false, false, false, false, false, false, false, false, false, false, false, false, false, false, false, false, false, false, false, false, false, false, false, false, false, false, false, false, false, false, false, false] (fun k => [(5, vint .i64 k)]) (hv (.box [.pv (.int .i64 x.now), .pv (.bool x.online), .pv (.int .i64 x.device), .pv (.lst (x.storage.buckets.map XBucket.e)), .pv (.lst (x.pages.map XPage.e)), .pv (.int .i64 x.nextPage), .pv (.lst (x.locks.locks.map XLock.e)), .pv (.lst (x.channel.mails.map XMail.e)), .pv (.lst (x.sites.map XSite.e)), .pv (.lst (x.servers.map XServer.e))]) (.box [.pv (.int .i64 0), .pv (.bool false), .pv (.int .i64 0), .nil, .nil, .pv (.int .i64 0), .nil, .nil, .nil, .nil]) (.box [.pv (.int .i64 x.now), .pv (.bool x.online), .pv (.int .i64 x.device), .nil, .arr 3, .pv (.int .i64 x.nextPage), .arr 4, .arr 5, .arr 6, .pv (.lst (x.servers.map XServer.e))]) [.darr 11 (x.pages.map XPage.e), .darr 4 (x.locks.locks.map XLock.e), .darr 3 (x.channel.mails.map XMail.e)] 4 (x.sites.map XSite.e)) rfl ?_ ?_ ?_
  ·exact Kn.of [0, 1, 2, 3, 4, 5, 6] (by decide) (by simp [hv, List.cons_append, List.nil_append, List.take_zero, keepM_t, keepM_f, keepM_n, setT_c, setT_n, relVs, relV, relLs, relL, relTs, relObs, relOb, L.ren, ren_dat]) (by simp [keepM_t, keepM_f, keepM_n, setT_c, setT_n, relVs, relV, relLs, relL, relTs, relObs, relOb, L.ren, ren_dat])
  ·intro k hk
   have ek := e_sites k hk
   have hx := XSite_e x.sites[k]
   have ht := take_nextE (e := XSite.e) hk
   rw [hx] at ht
   cases k with
   | zero =>
    simp only [hv, List.cons_append, List.nil_append, List.take_zero, ht]
    simp [b_spec_l29Copy_1, hk, hx, ek, wrap_1]
    exact Kn.q [0, 1, 2, 3, 4, 5, 9]
   | succ k =>
    obtain ⟨i1, i2, i3, i4, i5, i6⟩ := idxS (n := x.sites.length) (by unfold maxLen; omega) hk
    have m1 := lims (m := k + 1 + 1) (z := 56) (by omega) (by omega)
    simp only [hv, List.cons_append, List.nil_append, List.take_zero, ht]
    generalize hT : List.take (k + 1) _ = T
    have hTl : T.length = k + 1 := by rw [← hT]; simp; omega
    simp [b_spec_l29Copy_1, hk, hx, ek, i1, i2, i3, i4, i5, i6, hTl, m1]
    exact Kn.q [0, 1, 2, 3, 4, 5, 9]
  have hT1 : (x.sites.map XSite.e).take x.sites.length = (x.sites.map XSite.e) := List.take_of_length_le (by simp)
  simp only [hv, hT1, List.cons_append, List.nil_append]
  simp [b_spec_l29Copy_1]
  refine wp_count tidyF Cl.fin x.servers.length [false, true, true, true, false, false, true, false, false, false, false, false, false, false, false, false, false, false, false, false, false, false, false, false, false, false, false, false, false, false, false, false, false, false, false, false, false, false, false, false, false, false, false, false, false, false, false, false, false, false, false, false, false, false, false, false, false, false, false, false, false, false, false, false, false, false, false, false, false, false, false, false, false, false, false, false, false, false, false, false, false] (fun k => [(6, vint .i64 k)]) (hv (.box [.pv (.int .i64 x.now), .pv (.bool x.online), .pv (.int .i64 x.device), .pv (.lst (x.storage.buckets.map XBucket.e)), .pv (.lst (x.pages.map XPage.e)), .pv (.int .i64 x.nextPage), .pv (.lst (x.locks.locks.map XLock.e)), .pv (.lst (x.channel.mails.map XMail.e)), .pv (.lst (x.sites.map XSite.e)), .pv (.lst (x.servers.map XServer.e))]) (.box [.pv (.int .i64 0), .pv (.bool false), .pv (.int .i64 0), .nil, .nil, .pv (.int .i64 0), .nil, .nil, .nil, .nil]) (.box [.pv (.int .i64 x.now), .pv (.bool x.online), .pv (.int .i64 x.device), .nil, .arr 3, .pv (.int .i64 x.nextPage), .arr 4, .arr 5, .arr 6, .arr 7]) [.darr 11 (x.pages.map XPage.e), .darr 4 (x.locks.locks.map XLock.e), .darr 3 (x.channel.mails.map XMail.e), .darr 4 (x.sites.map XSite.e)] 5 (x.servers.map XServer.e)) rfl ?_ ?_ ?_
  ·exact Kn.of [0, 1, 2, 3, 4, 5, 6, 7] (by decide) (by simp [hv, List.cons_append, List.nil_append, List.take_zero, keepM_t, keepM_f, keepM_n, setT_c, setT_n, relVs, relV, relLs, relL, relTs, relObs, relOb, L.ren, ren_dat]) (by simp [keepM_t, keepM_f, keepM_n, setT_c, setT_n, relVs, relV, relLs, relL, relTs, relObs, relOb, L.ren, ren_dat])
  ·intro k hk
   have ek := e_servers k hk
   have hx := XServer_e x.servers[k]
   have ht := take_nextE (e := XServer.e) hk
   rw [hx] at ht
   have N0 := nd_or 4 (x.servers[k].store.items.map XItem.e)
   generalize nd 4 (x.servers[k].store.items.map XItem.e) = n0 at N0 ek
   cases k with
   | zero =>
    simp only [hv, List.cons_append, List.nil_append, List.take_zero, ht]
    rcases N0 with ⟨q0, rfl⟩ | ⟨q0, rfl⟩
    ·simp only [q0] at ek
     simp [b_spec_l29Copy_2, hk, hx, ek, wrap_1, q0]
     exact Kn.q [0, 1, 2, 3, 4, 5, 6, 11]
    ·simp [b_spec_l29Copy_2, hk, hx, ek, wrap_1]
     exact Kn.q [0, 1, 2, 3, 4, 5, 6, 12]
   | succ k =>
    obtain ⟨i1, i2, i3, i4, i5, i6⟩ := idxS (n := x.servers.length) (by unfold maxLen; omega) hk
    have m1 := lims (m := k + 1 + 1) (z := 96) (by omega) (by omega)
    simp only [hv, List.cons_append, List.nil_append, List.take_zero, ht]
    generalize hT : List.take (k + 1) _ = T
    have hTl : T.length = k + 1 := by rw [← hT]; simp; omega
    rcases N0 with ⟨q0, rfl⟩ | ⟨q0, rfl⟩
    ·simp only [q0] at ek
     simp [b_spec_l29Copy_2, hk, hx, ek, i1, i2, i3, i4, i5, i6, hTl, m1, q0]
     exact Kn.q [0, 1, 2, 3, 4, 5, 6, 11]
    ·simp [b_spec_l29Copy_2, hk, hx, ek, i1, i2, i3, i4, i5, i6, hTl, m1]
     exact Kn.q [0, 1, 2, 3, 4, 5, 6, 12]
  have hT2 : (x.servers.map XServer.e).take x.servers.length = (x.servers.map XServer.e) := List.take_of_length_le (by simp)
  simp only [hv, hT2, List.cons_append, List.nil_append]
  simp [b_spec_l29Copy_2]
 ·refine callL_wp (fn := f_spec_l29Copy) rfl ?_
  simp [f_spec_l29Copy, c0, c2, c3]
  refine wp_count tidyF Cl.fin x.pages.length [false, true, true, true, true, false, false, false, false, false, false, false, false, false, false, false, false, false, false, false, false, false, false, false, false, false, false, false, false, false, false, false, false, false, false, false, false, false, false, false, false, false, false, false, false, false, false, false, false, false, false, false, false, false, false, false, false, false, false, false, false, false, false, false, false, false, false, false, false, false, false, false, false, false, false, false, false, false, false, false, false] (fun k => [(4, vint .i64 k)]) (hv (.box [.pv (.int .i64 x.now), .pv (.bool x.online), .pv (.int .i64 x.device), .pv (.lst (x.storage.buckets.map XBucket.e)), .pv (.lst (x.pages.map XPage.e)), .pv (.int .i64 x.nextPage), .pv (.lst (x.locks.locks.map XLock.e)), .pv (.lst (x.channel.mails.map XMail.e)), .pv (.lst (x.sites.map XSite.e)), .pv (.lst (x.servers.map XServer.e))]) (.box [.pv (.int .i64 0), .pv (.bool false), .pv (.int .i64 0), .nil, .nil, .pv (.int .i64 0), .nil, .nil, .nil, .nil]) (.box [.pv (.int .i64 x.now), .pv (.bool x.online), .pv (.int .i64 x.device), .arr 3, .arr 4, .pv (.int .i64 x.nextPage), .pv (.lst (x.locks.locks.map XLock.e)), .pv (.lst (x.channel.mails.map XMail.e)), .pv (.lst (x.sites.map XSite.e)), .pv (.lst (x.servers.map XServer.e))]) [.darr 24 (x.storage.buckets.map XBucket.e)] 11 (x.pages.map XPage.e)) rfl ?_ ?_ ?_
  ·exact Kn.of [0, 1, 2, 3, 4] (by decide) (by simp [hv, List.cons_append, List.nil_append, List.take_zero, keepM_t, keepM_f, keepM_n, setT_c, setT_n, relVs, relV, relLs, relL, relTs, relObs, relOb, L.ren, ren_dat]) (by simp [keepM_t, keepM_f, keepM_n, setT_c, setT_n, relVs, relV, relLs, relL, relTs, relObs, relOb, L.ren, ren_dat])
  ·intro k hk
   have ek := e_pages k hk
   have hx := XPage_e x.pages[k]
   have ht := take_nextE (e := XPage.e) hk
   rw [hx] at ht
   cases k with
   | zero =>
    simp only [hv, List.cons_append, List.nil_append, List.take_zero, ht]
    simp [b_spec_l29Copy_0, hk, hx, ek, wrap_1]
    exact Kn.q [0, 1, 2, 3, 9]
   | succ k =>
    obtain ⟨i1, i2, i3, i4, i5, i6⟩ := idxS (n := x.pages.length) (by unfold maxLen; omega) hk
    have m1 := lims (m := k + 1 + 1) (z := 144) (by omega) (by omega)
    simp only [hv, List.cons_append, List.nil_append, List.take_zero, ht]
    generalize hT : List.take (k + 1) _ = T
    have hTl : T.length = k + 1 := by rw [← hT]; simp; omega
    simp [b_spec_l29Copy_0, hk, hx, ek, i1, i2, i3, i4, i5, i6, hTl, m1]
    exact Kn.q [0, 1, 2, 3, 9]
  have hT0 : (x.pages.map XPage.e).take x.pages.length = (x.pages.map XPage.e) := List.take_of_length_le (by simp)
  simp only [hv, hT0, List.cons_append, List.nil_append]
  simp [b_spec_l29Copy_0, c2, c3]
  refine wp_count tidyF Cl.fin x.sites.length [false, true, true, true, false, true, false, false, false, false, false, false, false, false, false, false, false, false, false, false, false, false, false, false, false, false, false, false, false, false, false, false, false, false, false, false, false, false, false, false, false, false, false, false, false, false, false, false, false, false, false, false, false, false, false, false, false, false, false, false, false, false, false, false, false, false, false, false, false, false, false, false, false, false, false, false, false, false, false, false, false] (fun k => [(5, vint .i64 k)]) (hv (.box [.pv (.int .i64 x.now), .pv (.bool x.online), .pv (.int .i64 x.device), .pv (.lst (x.storage.buckets.map XBucket.e)), .pv (.lst (x.pages.map XPage.e)), .pv (.int .i64 x.nextPage), .pv (.lst (x.locks.locks.map XLock.e)), .pv (.lst (x.channel.mails.map XMail.e)), .pv (.lst (x.sites.map XSite.e)), .pv (.lst (x.servers.map XServer.e))]) (.box [.pv (.int .i64 0), .pv (.bool false), .pv (.int .i64 0), .nil, .nil, .pv (.int .i64 0), .nil, .nil, .nil, .nil]) (.box [.pv (.int .i64 x.now), .pv (.bool x.online), .pv (.int .i64 x.device), .arr 3, .arr 4, .pv (.int .i64 x.nextPage), .arr 5, .arr 6, .arr 7, .pv (.lst (x.servers.map XServer.e))]) [.darr 24 (x.storage.buckets.map XBucket.e), .darr 11 (x.pages.map XPage.e), .darr 4 (x.locks.locks.map XLock.e), .darr 3 (x.channel.mails.map XMail.e)] 4 (x.sites.map XSite.e)) rfl ?_ ?_ ?_
  ·exact Kn.of [0, 1, 2, 3, 4, 5, 6, 7] (by decide) (by simp [hv, List.cons_append, List.nil_append, List.take_zero, keepM_t, keepM_f, keepM_n, setT_c, setT_n, relVs, relV, relLs, relL, relTs, relObs, relOb, L.ren, ren_dat]) (by simp [keepM_t, keepM_f, keepM_n, setT_c, setT_n, relVs, relV, relLs, relL, relTs, relObs, relOb, L.ren, ren_dat])
  ·intro k hk
   have ek := e_sites k hk
   have hx := XSite_e x.sites[k]
   have ht := take_nextE (e := XSite.e) hk
   rw [hx] at ht
   cases k with
   | zero =>
    simp only [hv, List.cons_append, List.nil_append, List.take_zero, ht]
    simp [b_spec_l29Copy_1, hk, hx, ek, wrap_1]
    exact Kn.q [0, 1, 2, 3, 4, 5, 6, 10]
   | succ k =>
    obtain ⟨i1, i2, i3, i4, i5, i6⟩ := idxS (n := x.sites.length) (by unfold maxLen; omega) hk
    have m1 := lims (m := k + 1 + 1) (z := 56) (by omega) (by omega)
    simp only [hv, List.cons_append, List.nil_append, List.take_zero, ht]
    generalize hT : List.take (k + 1) _ = T
    have hTl : T.length = k + 1 := by rw [← hT]; simp; omega
    simp [b_spec_l29Copy_1, hk, hx, ek, i1, i2, i3, i4, i5, i6, hTl, m1]
    exact Kn.q [0, 1, 2, 3, 4, 5, 6, 10]
  have hT1 : (x.sites.map XSite.e).take x.sites.length = (x.sites.map XSite.e) := List.take_of_length_le (by simp)
  simp only [hv, hT1, List.cons_append, List.nil_append]
  simp [b_spec_l29Copy_1]
  refine wp_count tidyF Cl.fin x.servers.length [false, true, true, true, false, false, true, false, false, false, false, false, false, false, false, false, false, false, false, false, false, false, false, false, false, false, false, false, false, false, false, false, false, false, false, false, false, false, false, false, false, false, false, false, false, false, false, false, false, false, false, false, false, false, false, false, false, false, false, false, false, false, false, false, false, false, false, false, false, false, false, false, false, false, false, false, false, false, false, false, false] (fun k => [(6, vint .i64 k)]) (hv (.box [.pv (.int .i64 x.now), .pv (.bool x.online), .pv (.int .i64 x.device), .pv (.lst (x.storage.buckets.map XBucket.e)), .pv (.lst (x.pages.map XPage.e)), .pv (.int .i64 x.nextPage), .pv (.lst (x.locks.locks.map XLock.e)), .pv (.lst (x.channel.mails.map XMail.e)), .pv (.lst (x.sites.map XSite.e)), .pv (.lst (x.servers.map XServer.e))]) (.box [.pv (.int .i64 0), .pv (.bool false), .pv (.int .i64 0), .nil, .nil, .pv (.int .i64 0), .nil, .nil, .nil, .nil]) (.box [.pv (.int .i64 x.now), .pv (.bool x.online), .pv (.int .i64 x.device), .arr 3, .arr 4, .pv (.int .i64 x.nextPage), .arr 5, .arr 6, .arr 7, .arr 8]) [.darr 24 (x.storage.buckets.map XBucket.e), .darr 11 (x.pages.map XPage.e), .darr 4 (x.locks.locks.map XLock.e), .darr 3 (x.channel.mails.map XMail.e), .darr 4 (x.sites.map XSite.e)] 5 (x.servers.map XServer.e)) rfl ?_ ?_ ?_
  ·exact Kn.of [0, 1, 2, 3, 4, 5, 6, 7, 8] (by decide) (by simp [hv, List.cons_append, List.nil_append, List.take_zero, keepM_t, keepM_f, keepM_n, setT_c, setT_n, relVs, relV, relLs, relL, relTs, relObs, relOb, L.ren, ren_dat]) (by simp [keepM_t, keepM_f, keepM_n, setT_c, setT_n, relVs, relV, relLs, relL, relTs, relObs, relOb, L.ren, ren_dat])
  ·intro k hk
   have ek := e_servers k hk
   have hx := XServer_e x.servers[k]
   have ht := take_nextE (e := XServer.e) hk
   rw [hx] at ht
   have N0 := nd_or 4 (x.servers[k].store.items.map XItem.e)
   generalize nd 4 (x.servers[k].store.items.map XItem.e) = n0 at N0 ek
   cases k with
   | zero =>
    simp only [hv, List.cons_append, List.nil_append, List.take_zero, ht]
    rcases N0 with ⟨q0, rfl⟩ | ⟨q0, rfl⟩
    ·simp only [q0] at ek
     simp [b_spec_l29Copy_2, hk, hx, ek, wrap_1, q0]
     exact Kn.q [0, 1, 2, 3, 4, 5, 6, 7, 12]
    ·simp [b_spec_l29Copy_2, hk, hx, ek, wrap_1]
     exact Kn.q [0, 1, 2, 3, 4, 5, 6, 7, 13]
   | succ k =>
    obtain ⟨i1, i2, i3, i4, i5, i6⟩ := idxS (n := x.servers.length) (by unfold maxLen; omega) hk
    have m1 := lims (m := k + 1 + 1) (z := 96) (by omega) (by omega)
    simp only [hv, List.cons_append, List.nil_append, List.take_zero, ht]
    generalize hT : List.take (k + 1) _ = T
    have hTl : T.length = k + 1 := by rw [← hT]; simp; omega
    rcases N0 with ⟨q0, rfl⟩ | ⟨q0, rfl⟩
    ·simp only [q0] at ek
     simp [b_spec_l29Copy_2, hk, hx, ek, i1, i2, i3, i4, i5, i6, hTl, m1, q0]
     exact Kn.q [0, 1, 2, 3, 4, 5, 6, 7, 12]
    ·simp [b_spec_l29Copy_2, hk, hx, ek, i1, i2, i3, i4, i5, i6, hTl, m1]
     exact Kn.q [0, 1, 2, 3, 4, 5, 6, 7, 13]
  have hT2 : (x.servers.map XServer.e).take x.servers.length = (x.servers.map XServer.e) := List.take_of_length_le (by simp)
  simp only [hv, hT2, List.cons_append, List.nil_append]
  simp [b_spec_l29Copy_2]
theorem spec_SetOnline_ok {B : Nat} (hB : B ≤ 1048576) {x : XWorld} (h : x.Ok B) {on : Bool} : callL Ph extF 423 [.agg [.pv (.int .i64 x.now), .pv (.bool x.online), .pv (.int .i64 x.device), .pv (.lst (x.storage.buckets.map XBucket.e)), .pv (.lst (x.pages.map XPage.e)), .pv (.int .i64 x.nextPage), .pv (.lst (x.locks.locks.map XLock.e)), .pv (.lst (x.channel.mails.map XMail.e)), .pv (.lst (x.sites.map XSite.e)), .pv (.lst (x.servers.map XServer.e))], vbool on] = some (.agg [.pv (.int .i64 x.now), .pv (.bool on), .pv (.int .i64 x.device), nd 24 (x.storage.buckets.map XBucket.e), .down 11 (x.pages.map XPage.e), .pv (.int .i64 x.nextPage), .down 4 (x.locks.locks.map XLock.e), .down 3 (x.channel.mails.map XMail.e), .down 4 (x.sites.map XSite.e), .down 5 (x.servers.map XServer.e)]) := by
 have c0 := spec_l29Copy_ok hB h
 have N0 := nd_or 24 (x.storage.buckets.map XBucket.e)
 generalize nd 24 (x.storage.buckets.map XBucket.e) = n0 at N0 c0 ⊢
 rcases N0 with ⟨-, rfl⟩ | ⟨-, rfl⟩ <;> (refine callL_wp (fn := f_spec_SetOnline) rfl ?_; simp [f_spec_SetOnline, c0])
end Gi
