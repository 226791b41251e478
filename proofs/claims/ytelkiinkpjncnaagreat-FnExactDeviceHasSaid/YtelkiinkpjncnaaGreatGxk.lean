/- What a device has: the law. -/
import Derived.Test.YtelkiinkpjncnaaGreatGxjc
namespace Gi
open Go Go.RowKit
set_option linter.unusedSimpArgs false
set_option linter.unusedVariables false
set_option maxHeartbeats 8000000
set_option maxRecDepth 4000
attribute [local simp] start execOps stepO wants fop eop Opd.ev put V.cells plain loadV cut isInt isStr isBool bin binInt binStr_neq binStr_eql un asList L.view viewArgs V.view viewL finish resultsOf resultOf comps comp giveLs giveL loadV V.flat L.flat setV setL storeV putAt thaw thawL freezeVs freezeLs freezeL V.mut L.mut elemPtr viewRows

theorem deviceHas_both {c0 : Int} {c1 : Bool} {c2 : Int} {c3 c4 : List (List PV)} {c5 : Int} {c6 c7 c8 c9 : List (List PV)} (h3 : Has (.lst t_BucketS) (.lst c3)) (hz : sz (.lst c3) ≤ 1048576) (s t : List UInt8) (n : Int) (fd : List UInt8) : ∃ (v : Int) (b : Bool), callL Ph extF 299 [.agg [.pv (.int .i64 c0), .pv (.bool c1), .pv (.int .i64 c2), .pv (.lst c3), .pv (.lst c4), .pv (.int .i64 c5), .pv (.lst c6), .pv (.lst c7), .pv (.lst c8), .pv (.lst c9)], vstr s, vstr t, vint .i64 n, vstr fd] = some (.tup [(false, [.pv (.int .i64 v)]), (false, [.pv (.bool b)])]) ∧ callL Ph extF 298 [.agg [.pv (.int .i64 c0), .pv (.bool c1), .pv (.int .i64 c2), .pv (.lst c3), .pv (.lst c4), .pv (.int .i64 c5), .pv (.lst c6), .pv (.lst c7), .pv (.lst c8), .pv (.lst c9)], vstr s, vstr t, vint .i64 n, vstr fd] = some (.tup [(false, [.pv (.int .i64 v)]), (false, [.pv (.bool b)])]) := by
  have e1 := spec_FindBucket_ok h3 s t
  by_cases hn : findI (isB s t) c3 0 < 0
  · have e2 := impl_bucketOf_none (c0 := c0) (c1 := c1) (c2 := c2) (c4 := c4) (c5 := c5) (c6 := c6) (c7 := c7) (c8 := c8) (c9 := c9) h3 hn
    generalize findI (isB s t) c3 0 = I at e1 hn
    refine ⟨0, false, callL_wp (fn := f_impl_DeviceHas) rfl ?_, callL_wp (fn := f_spec_DeviceHas) rfl ?_⟩
    · simp [f_impl_DeviceHas, arrs_e, arrs_pv, arrs_nil, arrs_arr, arrs_dat, view_dat, plain_dat, mut_dat, freeze_dat, give_dat, ren_dat, notArr_dat, setL_own, setL_dat, flat_dat, thaw_dat, thawT, fillL, cellsP, rowsP, isVar, bound, wp_seq, wp_block, wp_region, wp_cond, wp_skip, wp_exit, wp_ret, wp_end, wp_sqN, wp_sqR, wp_sqE, wp_bkN, wp_bkR, wp_bkE, Fin_ret, Fin_normal, L.notArr, keepM_t, keepM_f, keepM_n, setT_c, setT_n, e2, zeroB]
    · simp [f_spec_DeviceHas, arrs_e, arrs_pv, arrs_nil, arrs_arr, arrs_dat, view_dat, plain_dat, mut_dat, freeze_dat, give_dat, ren_dat, notArr_dat, setL_own, setL_dat, flat_dat, thaw_dat, thawT, fillL, cellsP, rowsP, isVar, bound, wp_seq, wp_block, wp_region, wp_cond, wp_skip, wp_exit, wp_ret, wp_end, wp_sqN, wp_sqR, wp_sqE, wp_bkN, wp_bkR, wp_bkE, Fin_ret, Fin_normal, L.notArr, keepM_t, keepM_f, keepM_n, setT_c, setT_n, e1, hn]
  · obtain ⟨j, hj, hfi⟩ := findI_at hn
    obtain ⟨bs, rfl, hbl, hbs⟩ := ofL XBucket.of (Has_rows h3).2 hz
    have e2 := impl_bucketOf_some (c0 := c0) (c1 := c1) (c2 := c2) (c4 := c4) (c5 := c5) (c6 := c6) (c7 := c7) (c8 := c8) (c9 := c9) h3 hj hfi
    simp only [List.length_map] at hj
    have hb := hbs _ (List.getElem_mem hj)
    have hr : XReplica.Ok 1048576 bs[j].replica := hb.2.2.2.2.2.1
    have e3 := impl_LocalStore_ok (by omega) (by omega) hr
    have e4 := spec_LocalStore_ok (by omega) (by omega) hr
    have hok := applyX_ok (B := 1048576) (by omega) hr.1 hr.2.2.1.2.2.2
    have hI : Has (.lst t_ItemS) (.lst ((applyX bs[j].replica.base bs[j].replica.sync.outbox.writes).items.map XItem.e)) := has_map (fun _ q => XItem.has (by unfold maxLen; omega) q) (by unfold maxLen; omega) hok.2.1
    have e5 := impl_storeHas_ok (nm := (applyX bs[j].replica.base bs[j].replica.sync.outbox.writes).name) (nx := (applyX bs[j].replica.base bs[j].replica.sync.outbox.writes).auto) hI n fd
    have e6 := spec_l37Field_ok (nm := (applyX bs[j].replica.base bs[j].replica.sync.outbox.writes).name) (nx := (applyX bs[j].replica.base bs[j].replica.sync.outbox.writes).auto) hI n fd
    unfold datRes at e3 e4
    unfold XReplica.v at e3 e4
    generalize applyX bs[j].replica.base bs[j].replica.sync.outbox.writes = T at e3 e4 e5 e6
    generalize hasV (T.items.map XItem.e) n fd = v at e5 e6
    unfold fRes at e5 e6
    rw [hfi] at e1
    have hx := XBucket_e bs[j]
    simp only [List.getElem_map, hx, List.map_cons, List.map_nil] at e2
    have hneg : ¬ (j : Int) < 0 := by omega
    refine ⟨v.1, v.2, callL_wp (fn := f_impl_DeviceHas) rfl ?_, callL_wp (fn := f_spec_DeviceHas) rfl ?_⟩
    · rcases own_dat 4 (T.items.map XItem.e) with ⟨r1, _, o1⟩ | ⟨_, _, o1⟩ <;> rw [o1] at e3 <;> (try rw [r1] at e5) <;> simp [f_impl_DeviceHas, arrs_e, arrs_pv, arrs_nil, arrs_arr, arrs_dat, view_dat, plain_dat, mut_dat, freeze_dat, give_dat, ren_dat, notArr_dat, setL_own, setL_dat, flat_dat, thaw_dat, thawT, fillL, cellsP, rowsP, isVar, bound, wp_seq, wp_block, wp_region, wp_cond, wp_skip, wp_exit, wp_ret, wp_end, wp_sqN, wp_sqR, wp_sqE, wp_bkN, wp_bkR, wp_bkE, Fin_ret, Fin_normal, L.notArr, keepM_t, keepM_f, keepM_n, setT_c, setT_n, e2, e3, e5]
    · rcases own_dat 4 (T.items.map XItem.e) with ⟨r1, _, o1⟩ | ⟨_, _, o1⟩ <;> rw [o1] at e4 <;> (try rw [r1] at e6) <;> simp [f_spec_DeviceHas, arrs_e, arrs_pv, arrs_nil, arrs_arr, arrs_dat, view_dat, plain_dat, mut_dat, freeze_dat, give_dat, ren_dat, notArr_dat, setL_own, setL_dat, flat_dat, thaw_dat, thawT, fillL, cellsP, rowsP, isVar, bound, wp_seq, wp_block, wp_region, wp_cond, wp_skip, wp_exit, wp_ret, wp_end, wp_sqN, wp_sqR, wp_sqE, wp_bkN, wp_bkR, wp_bkE, Fin_ret, Fin_normal, L.notArr, keepM_t, keepM_f, keepM_n, setT_c, setT_n, e1, hneg, hj, hx, e4, e6]
theorem law_DeviceHas {r0 : List PV} (h0 : HasL t_World r0) {s1 : List UInt8} (h1 : Has (.str) (.str s1)) {s2 : List UInt8} (h2 : Has (.str) (.str s2)) {s3 : Int} (h3 : Has (.int .i64) (.int .i64 s3)) {s4 : List UInt8} (h4 : Has (.str) (.str s4)) : callL Ph extF 293 [.agg (r0.map .pv), vstr s1, vstr s2, vint .i64 s3, vstr s4] = some (vbool true) := by
  obtain ⟨p0, r1, rfl, g0, k1⟩ := HasL_cons h0
  obtain ⟨p1, r2, rfl, g1, k2⟩ := HasL_cons k1
  obtain ⟨p2, r3, rfl, g2, k3⟩ := HasL_cons k2
  obtain ⟨p3, r4, rfl, g3, k4⟩ := HasL_cons k3
  obtain ⟨p4, r5, rfl, g4, k5⟩ := HasL_cons k4
  obtain ⟨p5, r6, rfl, g5, k6⟩ := HasL_cons k5
  obtain ⟨p6, r7, rfl, g6, k7⟩ := HasL_cons k6
  obtain ⟨p7, r8, rfl, g7, k8⟩ := HasL_cons k7
  obtain ⟨p8, r9, rfl, g8, k9⟩ := HasL_cons k8
  obtain ⟨p9, r10, rfl, g9, k10⟩ := HasL_cons k9
  obtain rfl := HasL_nil k10
  obtain ⟨c0, rfl⟩ := Has_int g0
  obtain ⟨c1, rfl⟩ := Has_bool g1
  obtain ⟨c2, rfl⟩ := Has_int g2
  obtain ⟨c3, rfl⟩ := Has_lst g3
  obtain ⟨c4, rfl⟩ := Has_lst g4
  obtain ⟨c5, rfl⟩ := Has_int g5
  obtain ⟨c6, rfl⟩ := Has_lst g6
  obtain ⟨c7, rfl⟩ := Has_lst g7
  obtain ⟨c8, rfl⟩ := Has_lst g8
  obtain ⟨c9, rfl⟩ := Has_lst g9
  show callL Ph extF 293 [.agg [.pv (.int .i64 c0), .pv (.bool c1), .pv (.int .i64 c2), .pv (.lst c3), .pv (.lst c4), .pv (.int .i64 c5), .pv (.lst c6), .pv (.lst c7), .pv (.lst c8), .pv (.lst c9)], vstr s1, vstr s2, vint .i64 s3, vstr s4] = _
  refine callL_fn (fn := f_laws_FnExactDeviceHas) rfl ?_
  by_cases b1 : (1048576 : Int) < s1.length
  · simp [f_laws_FnExactDeviceHas, execL, exec, done, arrsOf, b1]
  by_cases b2 : (1048576 : Int) < s2.length
  · simp [f_laws_FnExactDeviceHas, execL, exec, done, arrsOf, b2, b1]
  by_cases b4 : (1048576 : Int) < s4.length
  · simp [f_laws_FnExactDeviceHas, execL, exec, done, arrsOf, b4, b1, b2]
  have m0 : callL Ph extF 104 [.agg [.pv (.int .i64 c0), .pv (.bool c1), .pv (.int .i64 c2), .pv (.lst c3), .pv (.lst c4), .pv (.int .i64 c5), .pv (.lst c6), .pv (.lst c7), .pv (.lst c8), .pv (.lst c9)], vint .i64 1048576] = some (vint .i64 (less 1048576 (szL [.int .i64 c0, .bool c1, .int .i64 c2, .lst c3, .lst c4, .int .i64 c5, .lst c6, .lst c7, .lst c8, .lst c9]))) := szWorld_ok (ext := extF) h0 1048576 (by omega) (by omega)
  generalize q0 : less 1048576 (szL [.int .i64 c0, .bool c1, .int .i64 c2, .lst c3, .lst c4, .int .i64 c5, .lst c6, .lst c7, .lst c8, .lst c9]) = l0 at m0
  by_cases n0 : l0 < 0
  · simp [f_laws_FnExactDeviceHas, execL, exec, done, arrsOf, n0, b1, b2, b4, m0]
  obtain ⟨le0, hz0⟩ := less_pos (by omega) q0 n0
  have hs0 : szL [.int .i64 c0, .bool c1, .int .i64 c2, .lst c3, .lst c4, .int .i64 c5, .lst c6, .lst c7, .lst c8, .lst c9] ≤ 1048576 := by omega
  have to0 := toWorld_ok (ext := extF) g0 g1 g2 g3 g4 g5 g6 g7 g8 g9 hs0
  have eq0 : callL Ph extF 108 [.agg [.pv (.int .i64 c0), .pv (.bool c1), .pv (.int .i64 c2), .pv (.lst c3), .pv (.lst c4), .pv (.int .i64 c5), .pv (.lst c6), .pv (.lst c7), .pv (.lst c8), .pv (.lst c9)], .agg [.pv (.int .i64 c0), .pv (.bool c1), .pv (.int .i64 c2), .pv (.lst c3), .pv (.lst c4), .pv (.int .i64 c5), .pv (.lst c6), .pv (.lst c7), .pv (.lst c8), .pv (.lst c9)]] = some (vbool true) := eqWorld_ok (ext := extF) h0
  have hz3 : sz (.lst c3) ≤ 1048576 := Nat.le_trans (szL_mem (by simp)) hs0
  obtain ⟨v, bb, e3, e2⟩ := deviceHas_both (c0 := c0) (c1 := c1) (c2 := c2) (c4 := c4) (c5 := c5) (c6 := c6) (c7 := c7) (c8 := c8) (c9 := c9) g3 hz3 s1 s2 s3 s4
  simp [f_laws_FnExactDeviceHas, execL, exec, done, arrsOf, b1, b2, b4, m0, n0, to0, eq0, e2, e3]
end Gi
