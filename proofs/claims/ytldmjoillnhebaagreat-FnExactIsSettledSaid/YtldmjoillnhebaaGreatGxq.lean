/- Settled worlds: the law. -/
import Derived.Test.YtldmjoillnhebaaGreatGxn
namespace Gi
open Go Go.RowKit
set_option linter.unusedSimpArgs false
set_option linter.unusedVariables false
set_option maxHeartbeats 8000000
set_option maxRecDepth 4000
attribute [local simp] start execOps stepO wants fop eop Opd.ev put V.cells plain loadV cut isInt isStr isBool bin binInt binStr_neq binStr_eql un asList L.view viewArgs V.view viewL finish resultsOf resultOf comps comp giveLs giveL loadV V.flat L.flat setV setL storeV putAt thaw thawL freezeVs freezeLs freezeL V.mut L.mut elemPtr viewRows

def stBad (srv : List XServer) (b : XBucket) : Bool := cond (decide (siteNo b.site < 0)) false (decide (0 < b.replica.sync.outbox.writes.length) || !(eqSX (applyX b.replica.base b.replica.sync.outbox.writes) (srvStore srv b.site)))
theorem st_cases (srv : List XServer) (b : XBucket) : (siteNo b.site < 0 ∧ stBad srv b = false) ∨ (¬ siteNo b.site < 0 ∧ 0 < b.replica.sync.outbox.writes.length ∧ stBad srv b = true) ∨
    (¬ siteNo b.site < 0 ∧ b.replica.sync.outbox.writes.length = 0 ∧ stBad srv b = !(eqSX (applyX b.replica.base b.replica.sync.outbox.writes) (srvStore srv b.site))) := by
  unfold stBad
  by_cases h1 : siteNo b.site < 0
  · exact .inl ⟨h1, by simp [h1]⟩
  · have hd : decide (siteNo b.site < 0) = false := by simpa using h1
    rw [hd]
    by_cases h2 : 0 < b.replica.sync.outbox.writes.length
    · exact .inr (.inl ⟨h1, h2, by simp [h2]⟩)
    · refine .inr (.inr ⟨h1, by omega, by simp [h2]⟩)
theorem spec_IsConfirmed_ok (r : XReplica) : callL Ph extF 314 [r.v] = some (vbool ((r.sync.outbox.writes.length : Int) == 0)) := by
  refine callL_wp (fn := f_spec_IsConfirmed) rfl ?_
  simp [f_spec_IsConfirmed, XReplica.v, arrs_e, arrs_pv, arrs_nil, arrs_arr, arrs_dat, view_dat, plain_dat, mut_dat, freeze_dat, give_dat, ren_dat, notArr_dat, setL_own, setL_dat, flat_dat, thaw_dat, thawT, fillL, cellsP, rowsP, isVar, bound, wp_seq, wp_block, wp_region, wp_cond, wp_skip, wp_exit, wp_ret, wp_end, wp_sqN, wp_sqR, wp_sqE, wp_bkN, wp_bkR, wp_bkE, Fin_ret, Fin_normal, L.notArr, keepM_t, keepM_f, keepM_n, setT_c, setT_n]
section
variable {c0 : Int} {c1 : Bool} {c2 : Int} {c4 : List (List PV)} {c5 : Int} {c6 c7 c8 : List (List PV)} {bs : List XBucket} {srv : List XServer}
theorem impl_IsSettled_ok (hb : bs.length ≤ 1048576 ∧ ∀ x ∈ bs, x.Ok 1048576) (hs : srv.length ≤ 1048576 ∧ ∀ x ∈ srv, x.Ok 1048576) : callL Ph extF 303 [.agg [.pv (.int .i64 c0), .pv (.bool c1), .pv (.int .i64 c2), .pv (.lst (bs.map XBucket.e)), .pv (.lst c4), .pv (.int .i64 c5), .pv (.lst c6), .pv (.lst c7), .pv (.lst c8), .pv (.lst (srv.map XServer.e))]] = some (vbool (!(bs.any (stBad srv)))) := by
  have st := fun nm => impl_ServerStoreX_ok (c0 := c0) (c1 := c1) (c2 := c2) (c3 := bs.map XBucket.e) (c4 := c4) (c5 := c5) (c6 := c6) (c7 := c7) (c8 := c8) (by omega) hs nm
  refine callL_wp (fn := f_impl_IsSettled) rfl ?_
  generalize hA : bs.any (stBad srv) = A
  simp [f_impl_IsSettled, arrs_e, arrs_pv, arrs_nil, arrs_arr, arrs_dat, view_dat, plain_dat, mut_dat, freeze_dat, give_dat, ren_dat, notArr_dat, setL_own, setL_dat, flat_dat, thaw_dat, thawT, fillL, cellsP, rowsP, isVar, bound, wp_seq, wp_block, wp_region, wp_cond, wp_skip, wp_exit, wp_ret, wp_end, wp_sqN, wp_sqR, wp_sqE, wp_bkN, wp_bkR, wp_bkE, Fin_ret, Fin_normal, L.notArr, keepM_t, keepM_f, keepM_n, setT_c, setT_n]
  refine wp_any tidyF Cl.fin bs (stBad srv) [false, true, false, false, false, false, false, true, true, true, false, false, false, false, false, false, false, false, false, false, false, false, false, false, false, false, false, false, false, false, false, false, false, false, false, false] (fun k => [(9, vint .i64 k)]) rfl ?_ ?_ ?_ ?_
  · exact Kn.of [0] (by decide) (by simp [keepM_t, keepM_f, keepM_n, setT_c, setT_n, relVs, relV, relLs, relL, relTs, relObs, relOb, L.ren, ren_dat]) (by simp [keepM_t, keepM_f, keepM_n, setT_c, setT_n, relVs, relV, relLs, relL, relTs, relObs, relOb, L.ren, ren_dat])
  · intro k hk hp
    have hw := wrap_small (k := k) (by omega)
    have e1 := impl_SiteNumber_ok bs[k].site
    have hx := XBucket_e bs[k]
    rcases st_cases srv bs[k] with ⟨h1, _⟩ | ⟨_, _, h1⟩ | ⟨hn, hl, h1⟩
    · generalize siteNo bs[k].site = n at e1 h1
      simp [b_impl_IsSettled_0, arrs_e, arrs_pv, arrs_nil, arrs_arr, arrs_dat, view_dat, plain_dat, mut_dat, freeze_dat, give_dat, ren_dat, notArr_dat, setL_own, setL_dat, flat_dat, thaw_dat, thawT, fillL, cellsP, rowsP, isVar, bound, wp_seq, wp_block, wp_region, wp_cond, wp_skip, wp_exit, wp_ret, wp_end, wp_sqN, wp_sqR, wp_sqE, wp_bkN, wp_bkR, wp_bkE, Fin_ret, Fin_normal, L.notArr, keepM_t, keepM_f, keepM_n, setT_c, setT_n, hk, hx, e1, h1, hw]
      exact Kn.of [0] (by decide) (by simp [keepM_t, keepM_f, keepM_n, setT_c, setT_n, relVs, relV, relLs, relL, relTs, relObs, relOb, L.ren, ren_dat]) (by simp [keepM_t, keepM_f, keepM_n, setT_c, setT_n, relVs, relV, relLs, relL, relTs, relObs, relOb, L.ren, ren_dat])
    · rw [h1] at hp; cases hp
    · rw [h1] at hp
      have hbk := (hb.2 _ (List.getElem_mem hk)).2.2.2.2.2.1
      have hT := applyX_ok (B := 1048576) (by omega) hbk.1 hbk.2.2.1.2.2.2
      have e2 := impl_LocalStore_ok (by omega) (by omega) hbk
      have e3 := st bs[k].site
      have e4 := impl_EqualStores_ok (by unfold maxLen; omega) hT (srvStore_ok hs bs[k].site)
      have hq : eqSX (applyX bs[k].replica.base bs[k].replica.sync.outbox.writes) (srvStore srv bs[k].site) = true := by simpa using hp
      rw [hq] at e4
      unfold datRes XReplica.v at e2
      unfold stRes at e3
      generalize applyX bs[k].replica.base bs[k].replica.sync.outbox.writes = T at e2 e4
      generalize srvStore srv bs[k].site = U at e3 e4
      generalize siteNo bs[k].site = n at e1 hn
      rcases own_dat 4 (T.items.map XItem.e) with ⟨r1, _, o1⟩ | ⟨_, _, o1⟩ <;> rw [o1] at e2 <;> (try rw [r1] at e4) <;> rcases own_dat 4 (U.items.map XItem.e) with ⟨r2, o2, _⟩ | ⟨_, o2, _⟩ <;> rw [o2] at e3 <;> (try rw [r2] at e4) <;> simp [b_impl_IsSettled_0, arrs_e, arrs_pv, arrs_nil, arrs_arr, arrs_dat, view_dat, plain_dat, mut_dat, freeze_dat, give_dat, ren_dat, notArr_dat, setL_own, setL_dat, flat_dat, thaw_dat, thawT, fillL, cellsP, rowsP, isVar, bound, wp_seq, wp_block, wp_region, wp_cond, wp_skip, wp_exit, wp_ret, wp_end, wp_sqN, wp_sqR, wp_sqE, wp_bkN, wp_bkR, wp_bkE, Fin_ret, Fin_normal, L.notArr, keepM_t, keepM_f, keepM_n, setT_c, setT_n, hk, hx, e1, hn, hl, e2, e3, e4, hw]
      · exact Kn.of [0] (by decide) (by simp [keepM_t, keepM_f, keepM_n, setT_c, setT_n, relVs, relV, relLs, relL, relTs, relObs, relOb, L.ren, ren_dat]) (by simp [keepM_t, keepM_f, keepM_n, setT_c, setT_n, relVs, relV, relLs, relL, relTs, relObs, relOb, L.ren, ren_dat])
      · exact Kn.of [0] (by decide) (by simp [keepM_t, keepM_f, keepM_n, setT_c, setT_n, relVs, relV, relLs, relL, relTs, relObs, relOb, L.ren, ren_dat]) (by simp [keepM_t, keepM_f, keepM_n, setT_c, setT_n, relVs, relV, relLs, relL, relTs, relObs, relOb, L.ren, ren_dat])
      · exact Kn.of [0] (by decide) (by simp [keepM_t, keepM_f, keepM_n, setT_c, setT_n, relVs, relV, relLs, relL, relTs, relObs, relOb, L.ren, ren_dat]) (by simp [keepM_t, keepM_f, keepM_n, setT_c, setT_n, relVs, relV, relLs, relL, relTs, relObs, relOb, L.ren, ren_dat])
      · exact Kn.of [0] (by decide) (by simp [keepM_t, keepM_f, keepM_n, setT_c, setT_n, relVs, relV, relLs, relL, relTs, relObs, relOb, L.ren, ren_dat]) (by simp [keepM_t, keepM_f, keepM_n, setT_c, setT_n, relVs, relV, relLs, relL, relTs, relObs, relOb, L.ren, ren_dat])
  · intro k hk hp hany
    have hA2 : A = true := by rw [← hA]; exact hany
    rw [hA2]
    have e1 := impl_SiteNumber_ok bs[k].site
    have hx := XBucket_e bs[k]
    rcases st_cases srv bs[k] with ⟨_, h1⟩ | ⟨hn, hl, h1⟩ | ⟨hn, hl, h1⟩
    · rw [h1] at hp; cases hp
    · generalize siteNo bs[k].site = n at e1 hn
      have hl2 : (0 : Int) < (bs[k].replica.sync.outbox.writes.length : Int) := by omega
      simp [b_impl_IsSettled_0, arrs_e, arrs_pv, arrs_nil, arrs_arr, arrs_dat, view_dat, plain_dat, mut_dat, freeze_dat, give_dat, ren_dat, notArr_dat, setL_own, setL_dat, flat_dat, thaw_dat, thawT, fillL, cellsP, rowsP, isVar, bound, wp_seq, wp_block, wp_region, wp_cond, wp_skip, wp_exit, wp_ret, wp_end, wp_sqN, wp_sqR, wp_sqE, wp_bkN, wp_bkR, wp_bkE, Fin_ret, Fin_normal, L.notArr, keepM_t, keepM_f, keepM_n, setT_c, setT_n, hk, hx, e1, hn, hl, hl2]
    · rw [h1] at hp
      have hbk := (hb.2 _ (List.getElem_mem hk)).2.2.2.2.2.1
      have hT := applyX_ok (B := 1048576) (by omega) hbk.1 hbk.2.2.1.2.2.2
      have e2 := impl_LocalStore_ok (by omega) (by omega) hbk
      have e3 := st bs[k].site
      have e4 := impl_EqualStores_ok (by unfold maxLen; omega) hT (srvStore_ok hs bs[k].site)
      have hq : eqSX (applyX bs[k].replica.base bs[k].replica.sync.outbox.writes) (srvStore srv bs[k].site) = false := by simpa using hp
      rw [hq] at e4
      unfold datRes XReplica.v at e2
      unfold stRes at e3
      generalize applyX bs[k].replica.base bs[k].replica.sync.outbox.writes = T at e2 e4
      generalize srvStore srv bs[k].site = U at e3 e4
      generalize siteNo bs[k].site = n at e1 hn
      rcases own_dat 4 (T.items.map XItem.e) with ⟨r1, _, o1⟩ | ⟨_, _, o1⟩ <;> rw [o1] at e2 <;> (try rw [r1] at e4) <;> rcases own_dat 4 (U.items.map XItem.e) with ⟨r2, o2, _⟩ | ⟨_, o2, _⟩ <;> rw [o2] at e3 <;> (try rw [r2] at e4) <;> simp [b_impl_IsSettled_0, arrs_e, arrs_pv, arrs_nil, arrs_arr, arrs_dat, view_dat, plain_dat, mut_dat, freeze_dat, give_dat, ren_dat, notArr_dat, setL_own, setL_dat, flat_dat, thaw_dat, thawT, fillL, cellsP, rowsP, isVar, bound, wp_seq, wp_block, wp_region, wp_cond, wp_skip, wp_exit, wp_ret, wp_end, wp_sqN, wp_sqR, wp_sqE, wp_bkN, wp_bkR, wp_bkE, Fin_ret, Fin_normal, L.notArr, keepM_t, keepM_f, keepM_n, setT_c, setT_n, hk, hx, e1, hn, hl, e2, e3, e4]
  · intro hany
    have hA2 : A = false := by rw [← hA]; exact hany
    rw [hA2]
    simp [b_impl_IsSettled_0, arrs_e, arrs_pv, arrs_nil, arrs_arr, arrs_dat, view_dat, plain_dat, mut_dat, freeze_dat, give_dat, ren_dat, notArr_dat, setL_own, setL_dat, flat_dat, thaw_dat, thawT, fillL, cellsP, rowsP, isVar, bound, wp_seq, wp_block, wp_region, wp_cond, wp_skip, wp_exit, wp_ret, wp_end, wp_sqN, wp_sqR, wp_sqE, wp_bkN, wp_bkR, wp_bkE, Fin_ret, Fin_normal, L.notArr, keepM_t, keepM_f, keepM_n, setT_c, setT_n]
end

section
variable {c0 : Int} {c1 : Bool} {c2 : Int} {c4 : List (List PV)} {c5 : Int} {c6 c7 c8 : List (List PV)} {bs : List XBucket} {srv : List XServer}
theorem spec_IsSettled_ok (hb : bs.length ≤ 1048576 ∧ ∀ x ∈ bs, x.Ok 1048576) (hs : srv.length ≤ 1048576 ∧ ∀ x ∈ srv, x.Ok 1048576) : callL Ph extF 302 [.agg [.pv (.int .i64 c0), .pv (.bool c1), .pv (.int .i64 c2), .pv (.lst (bs.map XBucket.e)), .pv (.lst c4), .pv (.int .i64 c5), .pv (.lst c6), .pv (.lst c7), .pv (.lst c8), .pv (.lst (srv.map XServer.e))]] = some (vbool (!(bs.any (stBad srv)))) := by
  have st := fun nm => spec_ServerStoreX_ok (c0 := c0) (c1 := c1) (c2 := c2) (c3 := bs.map XBucket.e) (c4 := c4) (c5 := c5) (c6 := c6) (c7 := c7) (c8 := c8) (by omega) hs nm
  refine callL_wp (fn := f_spec_IsSettled) rfl ?_
  generalize hA : bs.any (stBad srv) = A
  simp [f_spec_IsSettled, arrs_e, arrs_pv, arrs_nil, arrs_arr, arrs_dat, view_dat, plain_dat, mut_dat, freeze_dat, give_dat, ren_dat, notArr_dat, setL_own, setL_dat, flat_dat, thaw_dat, thawT, fillL, cellsP, rowsP, isVar, bound, wp_seq, wp_block, wp_region, wp_cond, wp_skip, wp_exit, wp_ret, wp_end, wp_sqN, wp_sqR, wp_sqE, wp_bkN, wp_bkR, wp_bkE, Fin_ret, Fin_normal, L.notArr, keepM_t, keepM_f, keepM_n, setT_c, setT_n]
  refine wp_any tidyF Cl.fin bs (stBad srv) [false, true, false, true, false, false, false, false, false, false, false, false, false, false, false, false, false, false, false, false, false, false, false, false, false, false, false, false, false, false, false, false, false, false, false, false, false, false] (fun k => [(3, vint .i64 k)]) rfl ?_ ?_ ?_ ?_
  · exact Kn.of [0] (by decide) (by simp [keepM_t, keepM_f, keepM_n, setT_c, setT_n, relVs, relV, relLs, relL, relTs, relObs, relOb, L.ren, ren_dat]) (by simp [keepM_t, keepM_f, keepM_n, setT_c, setT_n, relVs, relV, relLs, relL, relTs, relObs, relOb, L.ren, ren_dat])
  · intro k hk hp
    have hw := wrap_small (k := k) (by omega)
    have e1 := spec_SiteNumber_ok bs[k].site
    have hx := XBucket_e bs[k]
    rcases st_cases srv bs[k] with ⟨h1, _⟩ | ⟨_, _, h1⟩ | ⟨hn, hl, h1⟩
    · generalize siteNo bs[k].site = n at e1 h1
      simp [b_spec_IsSettled_0, arrs_e, arrs_pv, arrs_nil, arrs_arr, arrs_dat, view_dat, plain_dat, mut_dat, freeze_dat, give_dat, ren_dat, notArr_dat, setL_own, setL_dat, flat_dat, thaw_dat, thawT, fillL, cellsP, rowsP, isVar, bound, wp_seq, wp_block, wp_region, wp_cond, wp_skip, wp_exit, wp_ret, wp_end, wp_sqN, wp_sqR, wp_sqE, wp_bkN, wp_bkR, wp_bkE, Fin_ret, Fin_normal, L.notArr, keepM_t, keepM_f, keepM_n, setT_c, setT_n, hk, hx, e1, h1, hw]
      exact Kn.of [0] (by decide) (by simp [keepM_t, keepM_f, keepM_n, setT_c, setT_n, relVs, relV, relLs, relL, relTs, relObs, relOb, L.ren, ren_dat]) (by simp [keepM_t, keepM_f, keepM_n, setT_c, setT_n, relVs, relV, relLs, relL, relTs, relObs, relOb, L.ren, ren_dat])
    · rw [h1] at hp; cases hp
    · rw [h1] at hp
      have hbk := (hb.2 _ (List.getElem_mem hk)).2.2.2.2.2.1
      have hT := applyX_ok (B := 1048576) (by omega) hbk.1 hbk.2.2.1.2.2.2
      have e2 := spec_LocalStore_ok (by omega) (by omega) hbk
      have e3 := st bs[k].site
      have e4 := spec_EqualStores_ok (by unfold maxLen; omega) hT (srvStore_ok hs bs[k].site)
      have e5 := spec_IsConfirmed_ok bs[k].replica
      have hc : (((bs[k].replica.sync.outbox.writes.length : Nat) : Int) == 0) = true := by rw [hl]; rfl
      rw [hc] at e5
      have hq : eqSX (applyX bs[k].replica.base bs[k].replica.sync.outbox.writes) (srvStore srv bs[k].site) = true := by simpa using hp
      rw [hq] at e4
      unfold datRes XReplica.v at e2
      unfold XReplica.v at e5
      unfold stRes at e3
      generalize applyX bs[k].replica.base bs[k].replica.sync.outbox.writes = T at e2 e4
      generalize srvStore srv bs[k].site = U at e3 e4
      generalize siteNo bs[k].site = n at e1 hn
      rcases own_dat 4 (T.items.map XItem.e) with ⟨r1, _, o1⟩ | ⟨_, _, o1⟩ <;> rw [o1] at e2 <;> (try rw [r1] at e4) <;> rcases own_dat 4 (U.items.map XItem.e) with ⟨r2, o2, _⟩ | ⟨_, o2, _⟩ <;> rw [o2] at e3 <;> (try rw [r2] at e4) <;> simp [b_spec_IsSettled_0, arrs_e, arrs_pv, arrs_nil, arrs_arr, arrs_dat, view_dat, plain_dat, mut_dat, freeze_dat, give_dat, ren_dat, notArr_dat, setL_own, setL_dat, flat_dat, thaw_dat, thawT, fillL, cellsP, rowsP, isVar, bound, wp_seq, wp_block, wp_region, wp_cond, wp_skip, wp_exit, wp_ret, wp_end, wp_sqN, wp_sqR, wp_sqE, wp_bkN, wp_bkR, wp_bkE, Fin_ret, Fin_normal, L.notArr, keepM_t, keepM_f, keepM_n, setT_c, setT_n, hk, hx, e1, hn, e5, e2, e3, e4, hw]
      · exact Kn.of [0] (by decide) (by simp [keepM_t, keepM_f, keepM_n, setT_c, setT_n, relVs, relV, relLs, relL, relTs, relObs, relOb, L.ren, ren_dat]) (by simp [keepM_t, keepM_f, keepM_n, setT_c, setT_n, relVs, relV, relLs, relL, relTs, relObs, relOb, L.ren, ren_dat])
      · exact Kn.of [0] (by decide) (by simp [keepM_t, keepM_f, keepM_n, setT_c, setT_n, relVs, relV, relLs, relL, relTs, relObs, relOb, L.ren, ren_dat]) (by simp [keepM_t, keepM_f, keepM_n, setT_c, setT_n, relVs, relV, relLs, relL, relTs, relObs, relOb, L.ren, ren_dat])
      · exact Kn.of [0] (by decide) (by simp [keepM_t, keepM_f, keepM_n, setT_c, setT_n, relVs, relV, relLs, relL, relTs, relObs, relOb, L.ren, ren_dat]) (by simp [keepM_t, keepM_f, keepM_n, setT_c, setT_n, relVs, relV, relLs, relL, relTs, relObs, relOb, L.ren, ren_dat])
      · exact Kn.of [0] (by decide) (by simp [keepM_t, keepM_f, keepM_n, setT_c, setT_n, relVs, relV, relLs, relL, relTs, relObs, relOb, L.ren, ren_dat]) (by simp [keepM_t, keepM_f, keepM_n, setT_c, setT_n, relVs, relV, relLs, relL, relTs, relObs, relOb, L.ren, ren_dat])
  · intro k hk hp hany
    have hA2 : A = true := by rw [← hA]; exact hany
    rw [hA2]
    have e1 := spec_SiteNumber_ok bs[k].site
    have hx := XBucket_e bs[k]
    have e5 := spec_IsConfirmed_ok bs[k].replica
    rcases st_cases srv bs[k] with ⟨_, h1⟩ | ⟨hn, hl, h1⟩ | ⟨hn, hl, h1⟩
    · rw [h1] at hp; cases hp
    · generalize siteNo bs[k].site = n at e1 hn
      have hc : (((bs[k].replica.sync.outbox.writes.length : Nat) : Int) == 0) = false := by rw [beq_eq_false_iff_ne]; omega
      rw [hc] at e5
      unfold XReplica.v at e5
      simp [b_spec_IsSettled_0, arrs_e, arrs_pv, arrs_nil, arrs_arr, arrs_dat, view_dat, plain_dat, mut_dat, freeze_dat, give_dat, ren_dat, notArr_dat, setL_own, setL_dat, flat_dat, thaw_dat, thawT, fillL, cellsP, rowsP, isVar, bound, wp_seq, wp_block, wp_region, wp_cond, wp_skip, wp_exit, wp_ret, wp_end, wp_sqN, wp_sqR, wp_sqE, wp_bkN, wp_bkR, wp_bkE, Fin_ret, Fin_normal, L.notArr, keepM_t, keepM_f, keepM_n, setT_c, setT_n, hk, hx, e1, hn, e5]
    · rw [h1] at hp
      have hbk := (hb.2 _ (List.getElem_mem hk)).2.2.2.2.2.1
      have hT := applyX_ok (B := 1048576) (by omega) hbk.1 hbk.2.2.1.2.2.2
      have e2 := spec_LocalStore_ok (by omega) (by omega) hbk
      have e3 := st bs[k].site
      have e4 := spec_EqualStores_ok (by unfold maxLen; omega) hT (srvStore_ok hs bs[k].site)
      have hc : (((bs[k].replica.sync.outbox.writes.length : Nat) : Int) == 0) = true := by rw [hl]; rfl
      rw [hc] at e5
      have hq : eqSX (applyX bs[k].replica.base bs[k].replica.sync.outbox.writes) (srvStore srv bs[k].site) = false := by simpa using hp
      rw [hq] at e4
      unfold datRes XReplica.v at e2
      unfold XReplica.v at e5
      unfold stRes at e3
      generalize applyX bs[k].replica.base bs[k].replica.sync.outbox.writes = T at e2 e4
      generalize srvStore srv bs[k].site = U at e3 e4
      generalize siteNo bs[k].site = n at e1 hn
      rcases own_dat 4 (T.items.map XItem.e) with ⟨r1, _, o1⟩ | ⟨_, _, o1⟩ <;> rw [o1] at e2 <;> (try rw [r1] at e4) <;> rcases own_dat 4 (U.items.map XItem.e) with ⟨r2, o2, _⟩ | ⟨_, o2, _⟩ <;> rw [o2] at e3 <;> (try rw [r2] at e4) <;> simp [b_spec_IsSettled_0, arrs_e, arrs_pv, arrs_nil, arrs_arr, arrs_dat, view_dat, plain_dat, mut_dat, freeze_dat, give_dat, ren_dat, notArr_dat, setL_own, setL_dat, flat_dat, thaw_dat, thawT, fillL, cellsP, rowsP, isVar, bound, wp_seq, wp_block, wp_region, wp_cond, wp_skip, wp_exit, wp_ret, wp_end, wp_sqN, wp_sqR, wp_sqE, wp_bkN, wp_bkR, wp_bkE, Fin_ret, Fin_normal, L.notArr, keepM_t, keepM_f, keepM_n, setT_c, setT_n, hk, hx, e1, hn, e5, e2, e3, e4]
  · intro hany
    have hA2 : A = false := by rw [← hA]; exact hany
    rw [hA2]
    simp [b_spec_IsSettled_0, arrs_e, arrs_pv, arrs_nil, arrs_arr, arrs_dat, view_dat, plain_dat, mut_dat, freeze_dat, give_dat, ren_dat, notArr_dat, setL_own, setL_dat, flat_dat, thaw_dat, thawT, fillL, cellsP, rowsP, isVar, bound, wp_seq, wp_block, wp_region, wp_cond, wp_skip, wp_exit, wp_ret, wp_end, wp_sqN, wp_sqR, wp_sqE, wp_bkN, wp_bkR, wp_bkE, Fin_ret, Fin_normal, L.notArr, keepM_t, keepM_f, keepM_n, setT_c, setT_n]
end
theorem law_IsSettled {r0 : List PV} (h0 : HasL t_World r0) : callL Ph extF 295 [.agg (r0.map .pv)] = some (vbool true) := by
  obtain ⟨p0, r1, rfl, g0, k1⟩ := HasL_cons h0
  obtain ⟨p1, r2, rfl, g1, k2⟩ := HasL_cons k1
  obtain ⟨p2, r3, rfl, g2, k3⟩ := HasL_cons k2
  obtain ⟨p3, r4, rfl, g3, k4⟩ := HasL_cons k3
  obtain ⟨p4, r5, rfl, g4, k5⟩ := HasL_cons k4
  obtain ⟨p5, r6, rfl, g5, k6⟩ := HasL_cons k5
  obtain ⟨p6, r7, rfl, g6, k7⟩ := HasL_cons k6
  obtain ⟨p7, r8, rfl, g7, k8⟩ := HasL_cons k7
  obtain ⟨p8, r9, rfl, g8, k9⟩ := HasL_cons k8
  obtain ⟨p9, r10, rfl, g9, k10⟩ := HasL_cons k9
  obtain rfl := HasL_nil k10
  obtain ⟨c0, rfl⟩ := Has_int g0
  obtain ⟨c1, rfl⟩ := Has_bool g1
  obtain ⟨c2, rfl⟩ := Has_int g2
  obtain ⟨c3, rfl⟩ := Has_lst g3
  obtain ⟨c4, rfl⟩ := Has_lst g4
  obtain ⟨c5, rfl⟩ := Has_int g5
  obtain ⟨c6, rfl⟩ := Has_lst g6
  obtain ⟨c7, rfl⟩ := Has_lst g7
  obtain ⟨c8, rfl⟩ := Has_lst g8
  obtain ⟨c9, rfl⟩ := Has_lst g9
  show callL Ph extF 295 [.agg [.pv (.int .i64 c0), .pv (.bool c1), .pv (.int .i64 c2), .pv (.lst c3), .pv (.lst c4), .pv (.int .i64 c5), .pv (.lst c6), .pv (.lst c7), .pv (.lst c8), .pv (.lst c9)]] = _
  refine callL_fn (fn := f_laws_FnExactIsSettled) rfl ?_
  have m0 : callL Ph extF 104 [.agg [.pv (.int .i64 c0), .pv (.bool c1), .pv (.int .i64 c2), .pv (.lst c3), .pv (.lst c4), .pv (.int .i64 c5), .pv (.lst c6), .pv (.lst c7), .pv (.lst c8), .pv (.lst c9)], vint .i64 1048576] = some (vint .i64 (less 1048576 (szL [.int .i64 c0, .bool c1, .int .i64 c2, .lst c3, .lst c4, .int .i64 c5, .lst c6, .lst c7, .lst c8, .lst c9]))) := szWorld_ok (ext := extF) h0 1048576 (by omega) (by omega)
  generalize q0 : less 1048576 (szL [.int .i64 c0, .bool c1, .int .i64 c2, .lst c3, .lst c4, .int .i64 c5, .lst c6, .lst c7, .lst c8, .lst c9]) = l0 at m0
  by_cases n0 : l0 < 0
  · simp [f_laws_FnExactIsSettled, execL, exec, done, arrsOf, n0, m0]
  obtain ⟨le0, hz0⟩ := less_pos (by omega) q0 n0
  have hs0 : szL [.int .i64 c0, .bool c1, .int .i64 c2, .lst c3, .lst c4, .int .i64 c5, .lst c6, .lst c7, .lst c8, .lst c9] ≤ 1048576 := by omega
  have to0 := toWorld_ok (ext := extF) g0 g1 g2 g3 g4 g5 g6 g7 g8 g9 hs0
  have eq0 : callL Ph extF 108 [.agg [.pv (.int .i64 c0), .pv (.bool c1), .pv (.int .i64 c2), .pv (.lst c3), .pv (.lst c4), .pv (.int .i64 c5), .pv (.lst c6), .pv (.lst c7), .pv (.lst c8), .pv (.lst c9)], .agg [.pv (.int .i64 c0), .pv (.bool c1), .pv (.int .i64 c2), .pv (.lst c3), .pv (.lst c4), .pv (.int .i64 c5), .pv (.lst c6), .pv (.lst c7), .pv (.lst c8), .pv (.lst c9)]] = some (vbool true) := eqWorld_ok (ext := extF) h0
  have hz3 : sz (.lst c3) ≤ 1048576 := Nat.le_trans (szL_mem (by simp)) hs0
  have hz9 : sz (.lst c9) ≤ 1048576 := Nat.le_trans (szL_mem (by simp)) hs0
  obtain ⟨bs, rfl, hbs⟩ := ofL XBucket.of (Has_rows g3).2 hz3
  obtain ⟨srv, rfl, hsrv⟩ := ofL XServer.of (Has_rows g9).2 hz9
  have e3 := impl_IsSettled_ok (c0 := c0) (c1 := c1) (c2 := c2) (c4 := c4) (c5 := c5) (c6 := c6) (c7 := c7) (c8 := c8) hbs hsrv
  have e2 := spec_IsSettled_ok (c0 := c0) (c1 := c1) (c2 := c2) (c4 := c4) (c5 := c5) (c6 := c6) (c7 := c7) (c8 := c8) hbs hsrv
  generalize (!(bs.any (stBad srv))) = R at e2 e3
  simp [f_laws_FnExactIsSettled, execL, exec, done, arrsOf, m0, n0, to0, eq0, e2, e3]
end Gi
