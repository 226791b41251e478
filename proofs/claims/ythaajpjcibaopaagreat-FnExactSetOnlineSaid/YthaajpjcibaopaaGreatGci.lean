/- Of this proof. -/
import Derived.Test.YthaajpjcibaopaaGreatGch
namespace Gi
open Go Go.RowKit
set_option linter.unusedSimpArgs false
set_option linter.unusedVariables false
set_option maxHeartbeats 8000000
set_option maxRecDepth 4000
attribute [local simp] start execOps stepO wants fop eop Opd.ev put V.cells plain loadV cut isInt isStr isBool bin binInt binStr_neq binStr_eql un asList L.view viewArgs V.view viewL finish resultsOf resultOf comps comp giveLs giveL arrs_e arrs_pv arrs_nil arrs_arr arrs_dat view_dat plain_dat mut_dat freeze_dat give_dat ren_dat notArr_dat setL_own setL_nd setL_dat flat_dat thaw_dat V.flat L.flat setV setL storeV putAt thaw thawL thawT freezeVs freezeLs freezeL V.mut L.mut elemPtr viewRows fillL cellsP rowsP isVar bound wp_seq wp_block wp_region wp_cond wp_skip wp_exit wp_ret wp_end wp_sqN wp_sqR wp_sqE wp_bkN wp_bkR wp_bkE Fin_ret Fin_normal L.notArr keepM_t keepM_f keepM_n setT_c setT_n storeD deepOf srcD srcRows srcNot srcDead ysD L.mov L.closed V.closed PV.bare PV.flat
def hw (b0 b1 : AObj) (o : L → AObj) (rest : List AObj) (n z : Nat) (rows : List (List PV)) : Nat → List AObj
 | 0 => b0 :: b1 :: o .nil :: rest
 | k + 1 => b0 :: b1 :: o (.arr n) :: (rest ++ [.darr z (rows.take (k + 1))])
theorem impl_copyWorld_ok {B : Nat} (hB : B ≤ 1048576) {x : XWorld} (h : x.Ok B) : callL Ph extF 434 [.agg [.pv (.int .i64 x.now), .pv (.bool x.online), .pv (.int .i64 x.device), .pv (.lst (x.storage.buckets.map XBucket.e)), .pv (.lst (x.pages.map XPage.e)), .pv (.int .i64 x.nextPage), .pv (.lst (x.locks.locks.map XLock.e)), .pv (.lst (x.channel.mails.map XMail.e)), .pv (.lst (x.sites.map XSite.e)), .pv (.lst (x.servers.map XServer.e))]] = some (.agg [.pv (.int .i64 x.now), .pv (.bool x.online), .pv (.int .i64 x.device), nd 24 (x.storage.buckets.map XBucket.e), .down 11 (x.pages.map XPage.e), .pv (.int .i64 x.nextPage), .down 4 (x.locks.locks.map XLock.e), .down 3 (x.channel.mails.map XMail.e), nd 4 (x.sites.map XSite.e), nd 5 (x.servers.map XServer.e)]) := by
 obtain ⟨h_now, h_device, h_storage, h_pages, h_nextPage, h_locks, h_channel, h_sites, h_servers⟩ := h
 have c0 := impl_copyStorage_ok hB h_storage
 have c1 := impl_copyPages_ok hB h_pages
 have c2 := impl_copyLocks_ok hB h_locks
 have c3 := impl_copyChannel_ok hB h_channel
 have e_sites : ∀ k (hk : k < x.sites.length), _ := fun k hk => impl_copySite_ok hB (h_sites.2 _ (List.getElem_mem hk))
 have e_servers : ∀ k (hk : k < x.servers.length), _ := fun k hk => impl_copyServer_ok hB (h_servers.2 _ (List.getElem_mem hk))
 have hl1 : x.sites.length ≤ 1048576 := Nat.le_trans h_sites.1 hB
 have hl2 : x.servers.length ≤ 1048576 := Nat.le_trans h_servers.1 hB
 clear h_now h_device h_storage h_pages h_nextPage h_locks h_channel h_sites h_servers
 have N := nd_or 24 (x.storage.buckets.map XBucket.e)
 generalize nd 24 (x.storage.buckets.map XBucket.e) = n at N c0 ⊢
 rcases N with ⟨-, rfl⟩ | ⟨-, rfl⟩
 ·refine callL_wp (fn := f_impl_copyWorld) rfl ?_
  simp [f_impl_copyWorld, c0, c1, c2, c3]
  refine wp_count tidyF Cl.fin x.sites.length [false, true, true, true, false, false, false, false, false, false, false, false, false, false, false, false, false, false, false, false, false, false, false, false, false, false, false, true, true, true, false, false, false, false, false, false, false, false, false, false, false, false, false, false, false, false, false, false, false, false, false, false, false, false, false, false, false, false] (fun k => [(29, vint .i64 k)]) (hw (.box [.pv (.int .i64 x.now), .pv (.bool x.online), .pv (.int .i64 x.device), .pv (.lst (x.storage.buckets.map XBucket.e)), .pv (.lst (x.pages.map XPage.e)), .pv (.int .i64 x.nextPage), .pv (.lst (x.locks.locks.map XLock.e)), .pv (.lst (x.channel.mails.map XMail.e)), .pv (.lst (x.sites.map XSite.e)), .pv (.lst (x.servers.map XServer.e))]) (.box [.pv (.int .i64 0), .pv (.bool false), .pv (.int .i64 0), .nil, .nil, .pv (.int .i64 0), .nil, .nil, .nil, .nil]) (fun c => .box [.pv (.int .i64 x.now), .pv (.bool x.online), .pv (.int .i64 x.device), .nil, .arr 3, .pv (.int .i64 x.nextPage), .arr 4, .arr 5, c, .pv (.lst (x.servers.map XServer.e))]) [.darr 11 (x.pages.map XPage.e), .darr 4 (x.locks.locks.map XLock.e), .darr 3 (x.channel.mails.map XMail.e)] 6 4 (x.sites.map XSite.e)) rfl ?_ ?_ ?_
  ·exact Kn.of [0, 1, 2, 3, 4, 5] (by decide) (by simp [hw, List.cons_append, List.nil_append, keepM_t, keepM_f, keepM_n, setT_c, setT_n, relVs, relV, relLs, relL, relTs, relObs, relOb, L.ren, ren_dat]) (by simp [keepM_t, keepM_f, keepM_n, setT_c, setT_n, relVs, relV, relLs, relL, relTs, relObs, relOb, L.ren, ren_dat])
  ·intro k hk
   have ek := e_sites k hk
   have hx := XSite_e x.sites[k]
   have ht := take_nextE (e := XSite.e) hk
   rw [hx] at ht
   cases k with
   | zero =>
    simp only [hw, List.cons_append, List.nil_append, ht]
    simp [b_impl_copyWorld_0, hk, hx, ek, wrap_1]
    exact Kn.q [0, 1, 2, 3, 4, 5, 9]
   | succ k =>
    obtain ⟨i1, i2, i3, i4, i5, i6⟩ := idxS (n := x.sites.length) (by unfold maxLen; omega) hk
    have m1 := lims (m := k + 1 + 1) (z := 56) (by omega) (by omega)
    simp only [hw, List.cons_append, List.nil_append, ht]
    generalize hT : List.take (k + 1) _ = T
    have hTl : T.length = k + 1 := by rw [← hT]; simp; omega
    simp [b_impl_copyWorld_0, hk, hx, ek, i1, i2, i3, i4, i5, i6, hTl, m1]
    exact Kn.q [0, 1, 2, 3, 4, 5, 10]
  ·cases hq : x.sites with
   | nil =>
    simp only [List.length_nil, hw]
    simp [b_impl_copyWorld_0, nd]
    refine wp_count tidyF Cl.fin x.servers.length [false, false, true, true, false, false, false, false, false, false, false, false, false, false, false, false, false, false, false, false, false, false, false, false, false, false, false, false, false, false, false, false, false, false, false, false, false, false, false, false, false, false, false, true, true, true, false, false, false, false, false, false, false, false, false, false, false, false] (fun k => [(45, vint .i64 k)]) (hw (.box [.pv (.int .i64 x.now), .pv (.bool x.online), .pv (.int .i64 x.device), .pv (.lst (x.storage.buckets.map XBucket.e)), .pv (.lst (x.pages.map XPage.e)), .pv (.int .i64 x.nextPage), .pv (.lst (x.locks.locks.map XLock.e)), .pv (.lst (x.channel.mails.map XMail.e)), .pv (.lst []), .pv (.lst (x.servers.map XServer.e))]) (.box [.pv (.int .i64 0), .pv (.bool false), .pv (.int .i64 0), .nil, .nil, .pv (.int .i64 0), .nil, .nil, .nil, .nil]) (fun c => .box [.pv (.int .i64 x.now), .pv (.bool x.online), .pv (.int .i64 x.device), .nil, .arr 3, .pv (.int .i64 x.nextPage), .arr 4, .arr 5, .nil, c]) [.darr 11 (x.pages.map XPage.e), .darr 4 (x.locks.locks.map XLock.e), .darr 3 (x.channel.mails.map XMail.e)] 6 5 (x.servers.map XServer.e)) rfl ?_ ?_ ?_
    ·exact Kn.of [0, 1, 2, 3, 4, 5] (by decide) (by simp [hw, List.cons_append, List.nil_append, keepM_t, keepM_f, keepM_n, setT_c, setT_n, relVs, relV, relLs, relL, relTs, relObs, relOb, L.ren, ren_dat]) (by simp [keepM_t, keepM_f, keepM_n, setT_c, setT_n, relVs, relV, relLs, relL, relTs, relObs, relOb, L.ren, ren_dat])
    ·intro k hk
     have ek := e_servers k hk
     have hx := XServer_e x.servers[k]
     have ht := take_nextE (e := XServer.e) hk
     rw [hx] at ht
     have N0 := nd_or 4 (x.servers[k].store.items.map XItem.e)
     generalize nd 4 (x.servers[k].store.items.map XItem.e) = n0 at N0 ek
     cases k with
     | zero =>
      simp only [hw, List.cons_append, List.nil_append, ht]
      rcases N0 with ⟨q0, rfl⟩ | ⟨q0, rfl⟩
      ·simp only [q0] at ek
       simp [b_impl_copyWorld_1, hk, hx, ek, wrap_1, q0]
       exact Kn.q [0, 1, 2, 3, 4, 5, 10]
      ·simp [b_impl_copyWorld_1, hk, hx, ek, wrap_1]
       exact Kn.q [0, 1, 2, 3, 4, 5, 11]
     | succ k =>
      obtain ⟨i1, i2, i3, i4, i5, i6⟩ := idxS (n := x.servers.length) (by unfold maxLen; omega) hk
      have m1 := lims (m := k + 1 + 1) (z := 96) (by omega) (by omega)
      simp only [hw, List.cons_append, List.nil_append, ht]
      generalize hT : List.take (k + 1) _ = T
      have hTl : T.length = k + 1 := by rw [← hT]; simp; omega
      rcases N0 with ⟨q0, rfl⟩ | ⟨q0, rfl⟩
      ·simp only [q0] at ek
       simp [b_impl_copyWorld_1, hk, hx, ek, i1, i2, i3, i4, i5, i6, hTl, m1, q0]
       exact Kn.q [0, 1, 2, 3, 4, 5, 11]
      ·simp [b_impl_copyWorld_1, hk, hx, ek, i1, i2, i3, i4, i5, i6, hTl, m1]
       exact Kn.q [0, 1, 2, 3, 4, 5, 12]
    ·cases hq2 : x.servers with
     | nil => simp [b_impl_copyWorld_1, hw, nd]
     | cons u us =>
      have hT2 : (x.servers.map XServer.e).take (us.length + 1) = x.servers.map XServer.e := List.take_of_length_le (by rw [hq2]; simp)
      rw [hq2] at hT2
      simp only [List.length_cons, hw, hT2, List.cons_append, List.nil_append]
      simp [b_impl_copyWorld_1, nd]
   | cons q qs =>
    have hT : (x.sites.map XSite.e).take (qs.length + 1) = x.sites.map XSite.e := List.take_of_length_le (by rw [hq]; simp)
    rw [hq] at hT
    simp only [List.length_cons, hw, hT, List.cons_append, List.nil_append]
    simp [b_impl_copyWorld_0, nd]
    refine wp_count tidyF Cl.fin x.servers.length [false, false, true, true, false, false, false, false, false, false, false, false, false, false, false, false, false, false, false, false, false, false, false, false, false, false, false, false, false, false, false, false, false, false, false, false, false, false, false, false, false, false, false, true, true, true, false, false, false, false, false, false, false, false, false, false, false, false] (fun k => [(45, vint .i64 k)]) (hw (.box [.pv (.int .i64 x.now), .pv (.bool x.online), .pv (.int .i64 x.device), .pv (.lst (x.storage.buckets.map XBucket.e)), .pv (.lst (x.pages.map XPage.e)), .pv (.int .i64 x.nextPage), .pv (.lst (x.locks.locks.map XLock.e)), .pv (.lst (x.channel.mails.map XMail.e)), .pv (.lst (XSite.e q :: qs.map XSite.e)), .pv (.lst (x.servers.map XServer.e))]) (.box [.pv (.int .i64 0), .pv (.bool false), .pv (.int .i64 0), .nil, .nil, .pv (.int .i64 0), .nil, .nil, .nil, .nil]) (fun c => .box [.pv (.int .i64 x.now), .pv (.bool x.online), .pv (.int .i64 x.device), .nil, .arr 3, .pv (.int .i64 x.nextPage), .arr 4, .arr 5, .arr 6, c]) [.darr 11 (x.pages.map XPage.e), .darr 4 (x.locks.locks.map XLock.e), .darr 3 (x.channel.mails.map XMail.e), .darr 4 (XSite.e q :: qs.map XSite.e)] 7 5 (x.servers.map XServer.e)) rfl ?_ ?_ ?_
    ·exact Kn.of [0, 1, 2, 3, 4, 5, 6] (by decide) (by simp [hw, List.cons_append, List.nil_append, keepM_t, keepM_f, keepM_n, setT_c, setT_n, relVs, relV, relLs, relL, relTs, relObs, relOb, L.ren, ren_dat]) (by simp [keepM_t, keepM_f, keepM_n, setT_c, setT_n, relVs, relV, relLs, relL, relTs, relObs, relOb, L.ren, ren_dat])
    ·intro k hk
     have ek := e_servers k hk
     have hx := XServer_e x.servers[k]
     have ht := take_nextE (e := XServer.e) hk
     rw [hx] at ht
     have N0 := nd_or 4 (x.servers[k].store.items.map XItem.e)
     generalize nd 4 (x.servers[k].store.items.map XItem.e) = n0 at N0 ek
     cases k with
     | zero =>
      simp only [hw, List.cons_append, List.nil_append, ht]
      rcases N0 with ⟨q0, rfl⟩ | ⟨q0, rfl⟩
      ·simp only [q0] at ek
       simp [b_impl_copyWorld_1, hk, hx, ek, wrap_1, q0]
       exact Kn.q [0, 1, 2, 3, 4, 5, 6, 11]
      ·simp [b_impl_copyWorld_1, hk, hx, ek, wrap_1]
       exact Kn.q [0, 1, 2, 3, 4, 5, 6, 12]
     | succ k =>
      obtain ⟨i1, i2, i3, i4, i5, i6⟩ := idxS (n := x.servers.length) (by unfold maxLen; omega) hk
      have m1 := lims (m := k + 1 + 1) (z := 96) (by omega) (by omega)
      simp only [hw, List.cons_append, List.nil_append, ht]
      generalize hT : List.take (k + 1) _ = T
      have hTl : T.length = k + 1 := by rw [← hT]; simp; omega
      rcases N0 with ⟨q0, rfl⟩ | ⟨q0, rfl⟩
      ·simp only [q0] at ek
       simp [b_impl_copyWorld_1, hk, hx, ek, i1, i2, i3, i4, i5, i6, hTl, m1, q0]
       exact Kn.q [0, 1, 2, 3, 4, 5, 6, 12]
      ·simp [b_impl_copyWorld_1, hk, hx, ek, i1, i2, i3, i4, i5, i6, hTl, m1]
       exact Kn.q [0, 1, 2, 3, 4, 5, 6, 13]
    ·cases hq2 : x.servers with
     | nil => simp [b_impl_copyWorld_1, hw, nd]
     | cons u us =>
      have hT2 : (x.servers.map XServer.e).take (us.length + 1) = x.servers.map XServer.e := List.take_of_length_le (by rw [hq2]; simp)
      rw [hq2] at hT2
      simp only [List.length_cons, hw, hT2, List.cons_append, List.nil_append]
      simp [b_impl_copyWorld_1, nd]
 ·refine callL_wp (fn := f_impl_copyWorld) rfl ?_
  simp [f_impl_copyWorld, c0, c1, c2, c3]
  refine wp_count tidyF Cl.fin x.sites.length [false, true, true, true, false, false, false, false, false, false, false, false, false, false, false, false, false, false, false, false, false, false, false, false, false, false, false, true, true, true, false, false, false, false, false, false, false, false, false, false, false, false, false, false, false, false, false, false, false, false, false, false, false, false, false, false, false, false] (fun k => [(29, vint .i64 k)]) (hw (.box [.pv (.int .i64 x.now), .pv (.bool x.online), .pv (.int .i64 x.device), .pv (.lst (x.storage.buckets.map XBucket.e)), .pv (.lst (x.pages.map XPage.e)), .pv (.int .i64 x.nextPage), .pv (.lst (x.locks.locks.map XLock.e)), .pv (.lst (x.channel.mails.map XMail.e)), .pv (.lst (x.sites.map XSite.e)), .pv (.lst (x.servers.map XServer.e))]) (.box [.pv (.int .i64 0), .pv (.bool false), .pv (.int .i64 0), .nil, .nil, .pv (.int .i64 0), .nil, .nil, .nil, .nil]) (fun c => .box [.pv (.int .i64 x.now), .pv (.bool x.online), .pv (.int .i64 x.device), .arr 3, .arr 4, .pv (.int .i64 x.nextPage), .arr 5, .arr 6, c, .pv (.lst (x.servers.map XServer.e))]) [.darr 24 (x.storage.buckets.map XBucket.e), .darr 11 (x.pages.map XPage.e), .darr 4 (x.locks.locks.map XLock.e), .darr 3 (x.channel.mails.map XMail.e)] 7 4 (x.sites.map XSite.e)) rfl ?_ ?_ ?_
  ·exact Kn.of [0, 1, 2, 3, 4, 5, 6] (by decide) (by simp [hw, List.cons_append, List.nil_append, keepM_t, keepM_f, keepM_n, setT_c, setT_n, relVs, relV, relLs, relL, relTs, relObs, relOb, L.ren, ren_dat]) (by simp [keepM_t, keepM_f, keepM_n, setT_c, setT_n, relVs, relV, relLs, relL, relTs, relObs, relOb, L.ren, ren_dat])
  ·intro k hk
   have ek := e_sites k hk
   have hx := XSite_e x.sites[k]
   have ht := take_nextE (e := XSite.e) hk
   rw [hx] at ht
   cases k with
   | zero =>
    simp only [hw, List.cons_append, List.nil_append, ht]
    simp [b_impl_copyWorld_0, hk, hx, ek, wrap_1]
    exact Kn.q [0, 1, 2, 3, 4, 5, 6, 10]
   | succ k =>
    obtain ⟨i1, i2, i3, i4, i5, i6⟩ := idxS (n := x.sites.length) (by unfold maxLen; omega) hk
    have m1 := lims (m := k + 1 + 1) (z := 56) (by omega) (by omega)
    simp only [hw, List.cons_append, List.nil_append, ht]
    generalize hT : List.take (k + 1) _ = T
    have hTl : T.length = k + 1 := by rw [← hT]; simp; omega
    simp [b_impl_copyWorld_0, hk, hx, ek, i1, i2, i3, i4, i5, i6, hTl, m1]
    exact Kn.q [0, 1, 2, 3, 4, 5, 6, 11]
  ·cases hq : x.sites with
   | nil =>
    simp only [List.length_nil, hw]
    simp [b_impl_copyWorld_0, nd]
    refine wp_count tidyF Cl.fin x.servers.length [false, false, true, true, false, false, false, false, false, false, false, false, false, false, false, false, false, false, false, false, false, false, false, false, false, false, false, false, false, false, false, false, false, false, false, false, false, false, false, false, false, false, false, true, true, true, false, false, false, false, false, false, false, false, false, false, false, false] (fun k => [(45, vint .i64 k)]) (hw (.box [.pv (.int .i64 x.now), .pv (.bool x.online), .pv (.int .i64 x.device), .pv (.lst (x.storage.buckets.map XBucket.e)), .pv (.lst (x.pages.map XPage.e)), .pv (.int .i64 x.nextPage), .pv (.lst (x.locks.locks.map XLock.e)), .pv (.lst (x.channel.mails.map XMail.e)), .pv (.lst []), .pv (.lst (x.servers.map XServer.e))]) (.box [.pv (.int .i64 0), .pv (.bool false), .pv (.int .i64 0), .nil, .nil, .pv (.int .i64 0), .nil, .nil, .nil, .nil]) (fun c => .box [.pv (.int .i64 x.now), .pv (.bool x.online), .pv (.int .i64 x.device), .arr 3, .arr 4, .pv (.int .i64 x.nextPage), .arr 5, .arr 6, .nil, c]) [.darr 24 (x.storage.buckets.map XBucket.e), .darr 11 (x.pages.map XPage.e), .darr 4 (x.locks.locks.map XLock.e), .darr 3 (x.channel.mails.map XMail.e)] 7 5 (x.servers.map XServer.e)) rfl ?_ ?_ ?_
    ·exact Kn.of [0, 1, 2, 3, 4, 5, 6] (by decide) (by simp [hw, List.cons_append, List.nil_append, keepM_t, keepM_f, keepM_n, setT_c, setT_n, relVs, relV, relLs, relL, relTs, relObs, relOb, L.ren, ren_dat]) (by simp [keepM_t, keepM_f, keepM_n, setT_c, setT_n, relVs, relV, relLs, relL, relTs, relObs, relOb, L.ren, ren_dat])
    ·intro k hk
     have ek := e_servers k hk
     have hx := XServer_e x.servers[k]
     have ht := take_nextE (e := XServer.e) hk
     rw [hx] at ht
     have N0 := nd_or 4 (x.servers[k].store.items.map XItem.e)
     generalize nd 4 (x.servers[k].store.items.map XItem.e) = n0 at N0 ek
     cases k with
     | zero =>
      simp only [hw, List.cons_append, List.nil_append, ht]
      rcases N0 with ⟨q0, rfl⟩ | ⟨q0, rfl⟩
      ·simp only [q0] at ek
       simp [b_impl_copyWorld_1, hk, hx, ek, wrap_1, q0]
       exact Kn.q [0, 1, 2, 3, 4, 5, 6, 11]
      ·simp [b_impl_copyWorld_1, hk, hx, ek, wrap_1]
       exact Kn.q [0, 1, 2, 3, 4, 5, 6, 12]
     | succ k =>
      obtain ⟨i1, i2, i3, i4, i5, i6⟩ := idxS (n := x.servers.length) (by unfold maxLen; omega) hk
      have m1 := lims (m := k + 1 + 1) (z := 96) (by omega) (by omega)
      simp only [hw, List.cons_append, List.nil_append, ht]
      generalize hT : List.take (k + 1) _ = T
      have hTl : T.length = k + 1 := by rw [← hT]; simp; omega
      rcases N0 with ⟨q0, rfl⟩ | ⟨q0, rfl⟩
      ·simp only [q0] at ek
       simp [b_impl_copyWorld_1, hk, hx, ek, i1, i2, i3, i4, i5, i6, hTl, m1, q0]
       exact Kn.q [0, 1, 2, 3, 4, 5, 6, 12]
      ·simp [b_impl_copyWorld_1, hk, hx, ek, i1, i2, i3, i4, i5, i6, hTl, m1]
       exact Kn.q [0, 1, 2, 3, 4, 5, 6, 13]
    ·cases hq2 : x.servers with
     | nil => simp [b_impl_copyWorld_1, hw, nd]
     | cons u us =>
      have hT2 : (x.servers.map XServer.e).take (us.length + 1) = x.servers.map XServer.e := List.take_of_length_le (by rw [hq2]; simp)
      rw [hq2] at hT2
      simp only [List.length_cons, hw, hT2, List.cons_append, List.nil_append]
      simp [b_impl_copyWorld_1, nd]
   | cons q qs =>
    have hT : (x.sites.map XSite.e).take (qs.length + 1) = x.sites.map XSite.e := List.take_of_length_le (by rw [hq]; simp)
    rw [hq] at hT
    simp only [List.length_cons, hw, hT, List.cons_append, List.nil_append]
    simp [b_impl_copyWorld_0, nd]
    refine wp_count tidyF Cl.fin x.servers.length [false, false, true, true, false, false, false, false, false, false, false, false, false, false, false, false, false, false, false, false, false, false, false, false, false, false, false, false, false, false, false, false, false, false, false, false, false, false, false, false, false, false, false, true, true, true, false, false, false, false, false, false, false, false, false, false, false, false] (fun k => [(45, vint .i64 k)]) (hw (.box [.pv (.int .i64 x.now), .pv (.bool x.online), .pv (.int .i64 x.device), .pv (.lst (x.storage.buckets.map XBucket.e)), .pv (.lst (x.pages.map XPage.e)), .pv (.int .i64 x.nextPage), .pv (.lst (x.locks.locks.map XLock.e)), .pv (.lst (x.channel.mails.map XMail.e)), .pv (.lst (XSite.e q :: qs.map XSite.e)), .pv (.lst (x.servers.map XServer.e))]) (.box [.pv (.int .i64 0), .pv (.bool false), .pv (.int .i64 0), .nil, .nil, .pv (.int .i64 0), .nil, .nil, .nil, .nil]) (fun c => .box [.pv (.int .i64 x.now), .pv (.bool x.online), .pv (.int .i64 x.device), .arr 3, .arr 4, .pv (.int .i64 x.nextPage), .arr 5, .arr 6, .arr 7, c]) [.darr 24 (x.storage.buckets.map XBucket.e), .darr 11 (x.pages.map XPage.e), .darr 4 (x.locks.locks.map XLock.e), .darr 3 (x.channel.mails.map XMail.e), .darr 4 (XSite.e q :: qs.map XSite.e)] 8 5 (x.servers.map XServer.e)) rfl ?_ ?_ ?_
    ·exact Kn.of [0, 1, 2, 3, 4, 5, 6, 7] (by decide) (by simp [hw, List.cons_append, List.nil_append, keepM_t, keepM_f, keepM_n, setT_c, setT_n, relVs, relV, relLs, relL, relTs, relObs, relOb, L.ren, ren_dat]) (by simp [keepM_t, keepM_f, keepM_n, setT_c, setT_n, relVs, relV, relLs, relL, relTs, relObs, relOb, L.ren, ren_dat])
    ·intro k hk
     have ek := e_servers k hk
     have hx := XServer_e x.servers[k]
     have ht := take_nextE (e := XServer.e) hk
     rw [hx] at ht
     have N0 := nd_or 4 (x.servers[k].store.items.map XItem.e)
     generalize nd 4 (x.servers[k].store.items.map XItem.e) = n0 at N0 ek
     cases k with
     | zero =>
      simp only [hw, List.cons_append, List.nil_append, ht]
      rcases N0 with ⟨q0, rfl⟩ | ⟨q0, rfl⟩
      ·simp only [q0] at ek
       simp [b_impl_copyWorld_1, hk, hx, ek, wrap_1, q0]
       exact Kn.q [0, 1, 2, 3, 4, 5, 6, 7, 12]
      ·simp [b_impl_copyWorld_1, hk, hx, ek, wrap_1]
       exact Kn.q [0, 1, 2, 3, 4, 5, 6, 7, 13]
     | succ k =>
      obtain ⟨i1, i2, i3, i4, i5, i6⟩ := idxS (n := x.servers.length) (by unfold maxLen; omega) hk
      have m1 := lims (m := k + 1 + 1) (z := 96) (by omega) (by omega)
      simp only [hw, List.cons_append, List.nil_append, ht]
      generalize hT : List.take (k + 1) _ = T
      have hTl : T.length = k + 1 := by rw [← hT]; simp; omega
      rcases N0 with ⟨q0, rfl⟩ | ⟨q0, rfl⟩
      ·simp only [q0] at ek
       simp [b_impl_copyWorld_1, hk, hx, ek, i1, i2, i3, i4, i5, i6, hTl, m1, q0]
       exact Kn.q [0, 1, 2, 3, 4, 5, 6, 7, 13]
      ·simp [b_impl_copyWorld_1, hk, hx, ek, i1, i2, i3, i4, i5, i6, hTl, m1]
       exact Kn.q [0, 1, 2, 3, 4, 5, 6, 7, 14]
    ·cases hq2 : x.servers with
     | nil => simp [b_impl_copyWorld_1, hw, nd]
     | cons u us =>
      have hT2 : (x.servers.map XServer.e).take (us.length + 1) = x.servers.map XServer.e := List.take_of_length_le (by rw [hq2]; simp)
      rw [hq2] at hT2
      simp only [List.length_cons, hw, hT2, List.cons_append, List.nil_append]
      simp [b_impl_copyWorld_1, nd]
theorem impl_SetOnline_ok {B : Nat} (hB : B ≤ 1048576) {x : XWorld} (h : x.Ok B) {on : Bool} : callL Ph extF 424 [.agg [.pv (.int .i64 x.now), .pv (.bool x.online), .pv (.int .i64 x.device), .pv (.lst (x.storage.buckets.map XBucket.e)), .pv (.lst (x.pages.map XPage.e)), .pv (.int .i64 x.nextPage), .pv (.lst (x.locks.locks.map XLock.e)), .pv (.lst (x.channel.mails.map XMail.e)), .pv (.lst (x.sites.map XSite.e)), .pv (.lst (x.servers.map XServer.e))], vbool on] = some (.agg [.pv (.int .i64 x.now), .pv (.bool on), .pv (.int .i64 x.device), nd 24 (x.storage.buckets.map XBucket.e), .down 11 (x.pages.map XPage.e), .pv (.int .i64 x.nextPage), .down 4 (x.locks.locks.map XLock.e), .down 3 (x.channel.mails.map XMail.e), nd 4 (x.sites.map XSite.e), nd 5 (x.servers.map XServer.e)]) := by
 have c0 := impl_copyWorld_ok hB h
 have N0 := nd_or 24 (x.storage.buckets.map XBucket.e)
 generalize nd 24 (x.storage.buckets.map XBucket.e) = n0 at N0 c0 ⊢
 have N1 := nd_or 4 (x.sites.map XSite.e)
 generalize nd 4 (x.sites.map XSite.e) = n1 at N1 c0 ⊢
 have N2 := nd_or 5 (x.servers.map XServer.e)
 generalize nd 5 (x.servers.map XServer.e) = n2 at N2 c0 ⊢
 rcases N0 with ⟨-, rfl⟩ | ⟨-, rfl⟩ <;> rcases N1 with ⟨-, rfl⟩ | ⟨-, rfl⟩ <;> rcases N2 with ⟨-, rfl⟩ | ⟨-, rfl⟩ <;> (refine callL_wp (fn := f_impl_SetOnline) rfl ?_; simp [f_impl_SetOnline, c0])
end Gi
