/- Complete workers: the loops, the law. -/
import Derived.Test.YthhkaabllddhdaaGreatGwd
namespace Gi
open Go Go.RowKit
set_option linter.unusedSimpArgs false
set_option linter.unusedVariables false
set_option maxHeartbeats 4000000
set_option maxRecDepth 4000

theorem site_cells {r : List PV} (h : HasL t_SiteS r) : ∃ (c0 : List UInt8) (c1 : Int) (c2 : List (List PV)) (c3 : Bool), r = [.str c0, .int .i64 c1, .lst c2, .bool c3] ∧ Has (.str) (.str c0) ∧ Has (.int .i64) (.int .i64 c1) ∧ Has (.lst t_StringS) (.lst c2) ∧ Has (.bool) (.bool c3) := by
  obtain ⟨p0, r1, rfl, g0, k1⟩ := HasL_cons h
  obtain ⟨p1, r2, rfl, g1, k2⟩ := HasL_cons k1
  obtain ⟨p2, r3, rfl, g2, k3⟩ := HasL_cons k2
  obtain ⟨p3, r4, rfl, g3, k4⟩ := HasL_cons k3
  obtain rfl := HasL_nil k4
  obtain ⟨c0, rfl⟩ := Has_str g0
  obtain ⟨c1, rfl⟩ := Has_int g1
  obtain ⟨c2, rfl⟩ := Has_lst g2
  obtain ⟨c3, rfl⟩ := Has_bool g3
  exact ⟨c0, c1, c2, c3, rfl, g0, g1, g2, g3⟩
def siteRow (sites : List (List PV)) (nm : List UInt8) : List UInt8 × List (List PV) :=
  if siteNo nm < 0 ∨ (sites.length : Int) ≤ siteNo nm then ([], []) else match sites.getD (siteNo nm).toNat [] with
    | [.str s, _, .lst fs, _] => (s, fs)
    | _ => ([], [])
/-- The site of this name, or none. -/
theorem site_cases {sites : List (List PV)} (h8 : Has (.lst t_SiteS) (.lst sites)) (hz : sz (.lst sites) ≤ 1048576) (nm : List UInt8) :
    ((siteNo nm < 0 ∨ (sites.length : Int) ≤ siteNo nm) ∧ siteRow sites nm = ([], [])) ∨ ∃ j, ∃ hj : j < sites.length, siteNo nm = (j : Int) ∧ ∃ sn sv files sh, sites[j] = [.str sn, .int .i64 sv, .lst files, .bool sh] ∧ siteRow sites nm = (sn, files) ∧ sn.length ≤ 1048576 ∧ Has (.lst t_StringS) (.lst files) ∧ sz (.lst files) ≤ 1048576 := by
  by_cases hc : siteNo nm < 0 ∨ (sites.length : Int) ≤ siteNo nm
  · exact .inl ⟨hc, by unfold siteRow; rw [if_pos hc]⟩
  · refine .inr ⟨(siteNo nm).toNat, by omega, by omega, ?_⟩
    have hj : (siteNo nm).toNat < sites.length := by omega
    obtain ⟨s0, s1, s2, s3, hr, g0, g1, g2, g3⟩ := site_cells ((Has_rows h8).2 _ (List.getElem_mem hj))
    have s1' := row_le (List.getElem_mem hj) hz
    rw [hr] at s1'
    refine ⟨s0, s1, s2, s3, hr, ?_, ?_, g2, ?_⟩
    · unfold siteRow
      rw [if_neg hc]
      have : sites.getD (siteNo nm).toNat [] = sites[(siteNo nm).toNat] := by simp [hj]
      rw [this, hr]
    · simp only [szL, sz] at s1'; omega
    · simp only [szL, sz] at s1' ⊢; omega
theorem impl_siteOf_none {c0 : Int} {c1 : Bool} {c2 : Int} {c3 c4 : List (List PV)} {c5 : Int} {c6 c7 c8 c9 : List (List PV)} {nm : List UInt8} (hc : siteNo nm < 0 ∨ (c8.length : Int) ≤ siteNo nm) : callL Ph extF 306 [.agg [.pv (.int .i64 c0), .pv (.bool c1), .pv (.int .i64 c2), .pv (.lst c3), .pv (.lst c4), .pv (.int .i64 c5), .pv (.lst c6), .pv (.lst c7), .pv (.lst c8), .pv (.lst c9)], vstr nm] = some (.agg [.pv (.str []), .pv (.int .i64 0), .nil, .pv (.bool false)]) := by
  have e1 := impl_SiteNumber_ok nm
  refine callL_wp (fn := f_impl_siteOf) rfl ?_
  generalize siteNo nm = n at e1 hc
  by_cases c : n < 0
  · simp [f_impl_siteOf, start, execOps, stepO, wants, fop, eop, Opd.ev, put, V.cells, plain, loadV, cut, isInt, isStr, isBool, bin, binInt, binStr_neq, binStr_eql, un, asList, L.view, viewArgs, V.view, viewL, finish, resultsOf, resultOf, comps, comp, giveLs, giveL, arrsOf, V.flat, L.flat, setV, setL, storeV, putAt, thaw, thawL, freezeVs, freezeLs, freezeL, V.mut, L.mut, elemPtr, viewRows, wp_seq, wp_block, wp_region, wp_cond, wp_skip, wp_exit, wp_ret, wp_end, wp_sqN, wp_sqR, wp_sqE, wp_bkN, wp_bkR, wp_bkE, Fin_ret, Fin_normal, L.notArr, e1, c, fillL]
  · have c' : (c8.length : Int) ≤ n := by omega
    simp [f_impl_siteOf, start, execOps, stepO, wants, fop, eop, Opd.ev, put, V.cells, plain, loadV, cut, isInt, isStr, isBool, bin, binInt, binStr_neq, binStr_eql, un, asList, L.view, viewArgs, V.view, viewL, finish, resultsOf, resultOf, comps, comp, giveLs, giveL, arrsOf, V.flat, L.flat, setV, setL, storeV, putAt, thaw, thawL, freezeVs, freezeLs, freezeL, V.mut, L.mut, elemPtr, viewRows, wp_seq, wp_block, wp_region, wp_cond, wp_skip, wp_exit, wp_ret, wp_end, wp_sqN, wp_sqR, wp_sqE, wp_bkN, wp_bkR, wp_bkE, Fin_ret, Fin_normal, L.notArr, e1, c, c', fillL]
theorem impl_siteOf_some {c0 : Int} {c1 : Bool} {c2 : Int} {c3 c4 : List (List PV)} {c5 : Int} {c6 c7 c8 c9 : List (List PV)} {nm : List UInt8} {j : Nat} (hj : j < c8.length) (hn : siteNo nm = (j : Int)) {sn : List UInt8} {sv : Int} {files : List (List PV)} {sh : Bool} (hr : c8[j] = [.str sn, .int .i64 sv, .lst files, .bool sh]) : callL Ph extF 306 [.agg [.pv (.int .i64 c0), .pv (.bool c1), .pv (.int .i64 c2), .pv (.lst c3), .pv (.lst c4), .pv (.int .i64 c5), .pv (.lst c6), .pv (.lst c7), .pv (.lst c8), .pv (.lst c9)], vstr nm] = some (.agg [.pv (.str sn), .pv (.int .i64 sv), .pv (.lst files), .pv (.bool sh)]) := by
  have e1 := impl_SiteNumber_ok nm
  rw [hn] at e1
  have c : ¬ (j : Int) < 0 := by omega
  have c' : ¬ c8.length ≤ j := by omega
  refine callL_wp (fn := f_impl_siteOf) rfl ?_
  simp [f_impl_siteOf, start, execOps, stepO, wants, fop, eop, Opd.ev, put, V.cells, plain, loadV, cut, isInt, isStr, isBool, bin, binInt, binStr_neq, binStr_eql, un, asList, L.view, viewArgs, V.view, viewL, finish, resultsOf, resultOf, comps, comp, giveLs, giveL, arrsOf, V.flat, L.flat, setV, setL, storeV, putAt, thaw, thawL, freezeVs, freezeLs, freezeL, V.mut, L.mut, elemPtr, viewRows, wp_seq, wp_block, wp_region, wp_cond, wp_skip, wp_exit, wp_ret, wp_end, wp_sqN, wp_sqR, wp_sqE, wp_bkN, wp_bkR, wp_bkE, Fin_ret, Fin_normal, L.notArr, e1, c, c', hj, hr]
def verBad (act wait : Int) : List PV → Bool
  | .int _ v :: _ => (v == 0) || (!(v == act) && !(v == wait))
  | _ => false
def wcBad (sites : List (List PV)) : List PV → Bool
  | .str nm :: _ :: _ :: _ :: .int _ wait :: .int _ act :: .lst caches :: _ =>
    cond (decide (siteNo nm < 0)) false ((!(act == 0) && !(ccV caches (siteRow sites nm).1 (siteRow sites nm).2 act)) || ((!(wait == 0) && !(ccV caches (siteRow sites nm).1 (siteRow sites nm).2 wait)) || caches.any (verBad act wait)))
  | _ => false
def nz (v : Int) : Bool := !(v == 0)
theorem nz_take {vs : List Int} {k : Nat} (h : k < vs.length) : (vs.take (k + 1)).filter nz = (vs.take k).filter nz ++ cond (nz vs[k]) [vs[k]] [] := by
  rw [List.take_succ_eq_append_getElem h, List.filter_append]
  congr 1
/-- The cells of a bucket that count here. -/
def bkB (nm : List UInt8) (wait act : Int) (caches : List (List PV)) : AObj := .box [.pv (.str nm), .junk, .junk, .junk, .pv (.int .i64 wait), .pv (.int .i64 act), .pv (.lst caches), .junk, .junk, .junk, .junk, .junk, .junk, .junk, .junk, .junk, .junk, .junk, .junk, .junk, .junk, .junk, .junk, .junk]
theorem iwc_0 {c0 : Int} {c1 : Bool} {c2 : Int} {c3 c4 : List (List PV)} {c5 : Int} {c6 c7 c8 c9 : List (List PV)} (h8 : Has (.lst t_SiteS) (.lst c8)) (hz8 : sz (.lst c8) ≤ 1048576) {nm : List UInt8} {wait act : Int} {caches : List (List PV)} (hc : Has (.lst t_CacheS) (.lst caches)) (hzc : sz (.lst caches) ≤ 1048576) (hs : ¬ siteNo nm < 0) {n q : Int} {vs : List Int} (hvs : vs.length ≤ 2) :
    Ends (callL Ph extF) b_impl_WorkersComplete_0 ⟨(.one .junk :: .one (.ptr 0 0 0) :: .one .junk :: .one .junk :: .one (.ptr 1 0 0) :: .one (.arr 2) :: .one .junk :: .one .junk :: .one .junk :: .one .junk :: .one .junk :: .one .junk :: vlst c3 :: vint .i64 n :: vint .i64 q :: .one .junk :: .one .junk :: .one .junk :: .one .junk :: .one .junk :: .one .junk :: .one .junk :: .one .junk :: .one .junk :: .one .junk :: .one .junk :: .one .junk :: .one .junk :: .one .junk :: .one (.arr 3) :: vint .i64 vs.length :: vint .i64 0 :: .one .junk :: .one .junk :: .one .junk :: .one .junk :: .one .junk :: .one .junk :: .one .junk :: .one .junk :: .one .junk :: .one .junk :: .one .junk :: .one .junk :: .one .junk :: .one .junk :: .one .junk :: .one .junk :: .one .junk :: .one .junk :: .one .junk :: .one .junk :: .one .junk :: .one .junk :: .one .junk :: .one .junk :: .one .junk :: .one .junk :: .one .junk :: .one .junk :: .one .junk :: .one .junk :: .one .junk :: .one .junk :: .one .junk :: .one .junk :: []), [.box [.pv (.int .i64 c0), .pv (.bool c1), .pv (.int .i64 c2), .pv (.lst c3), .pv (.lst c4), .pv (.int .i64 c5), .pv (.lst c6), .pv (.lst c7), .pv (.lst c8), .pv (.lst c9)], bkB nm wait act caches, .arr 1 [], .arr 1 (vs.map i1)]⟩
      (cond (vs.any fun v => nz v && !(ccV caches (siteRow c8 nm).1 (siteRow c8 nm).2 v)) .ret (.exit 2)) (cond (vs.any fun v => nz v && !(ccV caches (siteRow c8 nm).1 (siteRow c8 nm).2 v)) ⟨(.one .junk :: .one .junk :: vbool false :: .one .junk :: .one .junk :: .one .junk :: .one .junk :: .one .junk :: .one .junk :: .one .junk :: .one .junk :: .one .junk :: .one .junk :: .one .junk :: .one .junk :: .one .junk :: .one .junk :: .one .junk :: .one .junk :: .one .junk :: .one .junk :: .one .junk :: .one .junk :: .one .junk :: .one .junk :: .one .junk :: .one .junk :: .one .junk :: .one .junk :: .one .junk :: .one .junk :: .one .junk :: .one .junk :: .one .junk :: .one .junk :: .one .junk :: .one .junk :: .one .junk :: .one .junk :: .one .junk :: .one .junk :: .one .junk :: .one .junk :: .one .junk :: .one .junk :: .one .junk :: .one .junk :: .one .junk :: .one .junk :: .one .junk :: .one .junk :: .one .junk :: .one .junk :: .one .junk :: .one .junk :: .one .junk :: .one .junk :: .one .junk :: .one .junk :: .one .junk :: .one .junk :: .one .junk :: .one .junk :: .one .junk :: .one .junk :: .one .junk :: []), []⟩ ⟨(.one .junk :: .one (.ptr 0 0 0) :: .one .junk :: .one .junk :: .one (.ptr 1 0 0) :: .one (.arr 2) :: .one .junk :: .one .junk :: .one .junk :: .one .junk :: .one .junk :: .one .junk :: vlst c3 :: vint .i64 n :: vint .i64 q :: .one .junk :: .one .junk :: .one .junk :: .one .junk :: .one .junk :: .one .junk :: .one .junk :: .one .junk :: .one .junk :: .one .junk :: .one .junk :: .one .junk :: .one .junk :: .one .junk :: .one .junk :: .one .junk :: .one .junk :: .one .junk :: .one .junk :: .one .junk :: .one .junk :: .one .junk :: .one .junk :: .one .junk :: .one .junk :: .one .junk :: .one .junk :: .one .junk :: .one .junk :: .one .junk :: .one .junk :: .one .junk :: .one .junk :: .one .junk :: .one .junk :: .one .junk :: .one .junk :: .one .junk :: .one .junk :: .one .junk :: .one .junk :: .one .junk :: .one .junk :: .one .junk :: .one .junk :: .one .junk :: .one .junk :: .one .junk :: .one .junk :: .one .junk :: .one .junk :: []), [.box [.pv (.int .i64 c0), .pv (.bool c1), .pv (.int .i64 c2), .pv (.lst c3), .pv (.lst c4), .pv (.int .i64 c5), .pv (.lst c6), .pv (.lst c7), .pv (.lst c8), .pv (.lst c9)], bkB nm wait act caches, .arr 1 ((vs.filter nz).map i1)]⟩) := by
  have hcc : ∀ v, ∃ sv sh l, callL Ph extF 306 [.agg [.pv (.int .i64 c0), .pv (.bool c1), .pv (.int .i64 c2), .pv (.lst c3), .pv (.lst c4), .pv (.int .i64 c5), .pv (.lst c6), .pv (.lst c7), .pv (.lst c8), .pv (.lst c9)], vstr nm] = some (.agg [.pv (.str (siteRow c8 nm).1), .pv (.int .i64 sv), l, .pv (.bool sh)]) ∧ (l = .nil ∧ (siteRow c8 nm).2 = [] ∨ l = .pv (.lst (siteRow c8 nm).2)) ∧ callL Ph extF 305 [.agg [.pv (.lst caches)], .agg [.pv (.str (siteRow c8 nm).1), .pv (.int .i64 sv), .pv (.lst (siteRow c8 nm).2), .pv (.bool sh)], vint .i64 v] = some (vbool (ccV caches (siteRow c8 nm).1 (siteRow c8 nm).2 v)) := fun v => by
    rcases site_cases h8 hz8 nm with ⟨hx, hy⟩ | ⟨j, hj, hn, sn, sv, files, sh, hr, hy, hl1, hf, hzf⟩
    · rw [hy]
      exact ⟨0, false, .nil, impl_siteOf_none hx, .inl ⟨rfl, rfl⟩, impl_CacheComplete_ok hc hzc (by simp) ⟨by simp [maxLen], by simp⟩ (by simp [sz_lst, szRows])⟩
    · rw [hy]
      exact ⟨sv, sh, _, impl_siteOf_some hj hn hr, .inr rfl, impl_CacheComplete_ok hc hzc hl1 hf hzf⟩
  generalize (siteRow c8 nm).1 = sn at hcc ⊢
  generalize (siteRow c8 nm).2 = files at hcc ⊢
  have E := ends_any (call := callL Ph extF) tidyF (c := b_impl_WorkersComplete_0) rfl (rows := vs) (p := fun v => nz v && !(ccV caches sn files v)) (e := .exit 2) (er := .ret)
    (S := fun k => ⟨(.one .junk :: .one (.ptr 0 0 0) :: .one .junk :: .one .junk :: .one (.ptr 1 0 0) :: .one (.arr 2) :: .one .junk :: .one .junk :: .one .junk :: .one .junk :: .one .junk :: .one .junk :: vlst c3 :: vint .i64 n :: vint .i64 q :: .one .junk :: .one .junk :: .one .junk :: .one .junk :: .one .junk :: .one .junk :: .one .junk :: .one .junk :: .one .junk :: .one .junk :: .one .junk :: .one .junk :: .one .junk :: .one .junk :: .one (.arr 3) :: vint .i64 vs.length :: vint .i64 k :: .one .junk :: .one .junk :: .one .junk :: .one .junk :: .one .junk :: .one .junk :: .one .junk :: .one .junk :: .one .junk :: .one .junk :: .one .junk :: .one .junk :: .one .junk :: .one .junk :: .one .junk :: .one .junk :: .one .junk :: .one .junk :: .one .junk :: .one .junk :: .one .junk :: .one .junk :: .one .junk :: .one .junk :: .one .junk :: .one .junk :: .one .junk :: .one .junk :: .one .junk :: .one .junk :: .one .junk :: .one .junk :: .one .junk :: .one .junk :: []), [.box [.pv (.int .i64 c0), .pv (.bool c1), .pv (.int .i64 c2), .pv (.lst c3), .pv (.lst c4), .pv (.int .i64 c5), .pv (.lst c6), .pv (.lst c7), .pv (.lst c8), .pv (.lst c9)], bkB nm wait act caches, .arr 1 (((vs.take k).filter nz).map i1), .arr 1 (vs.map i1)]⟩)
    (R := ⟨(.one .junk :: .one .junk :: vbool false :: .one .junk :: .one .junk :: .one .junk :: .one .junk :: .one .junk :: .one .junk :: .one .junk :: .one .junk :: .one .junk :: .one .junk :: .one .junk :: .one .junk :: .one .junk :: .one .junk :: .one .junk :: .one .junk :: .one .junk :: .one .junk :: .one .junk :: .one .junk :: .one .junk :: .one .junk :: .one .junk :: .one .junk :: .one .junk :: .one .junk :: .one .junk :: .one .junk :: .one .junk :: .one .junk :: .one .junk :: .one .junk :: .one .junk :: .one .junk :: .one .junk :: .one .junk :: .one .junk :: .one .junk :: .one .junk :: .one .junk :: .one .junk :: .one .junk :: .one .junk :: .one .junk :: .one .junk :: .one .junk :: .one .junk :: .one .junk :: .one .junk :: .one .junk :: .one .junk :: .one .junk :: .one .junk :: .one .junk :: .one .junk :: .one .junk :: .one .junk :: .one .junk :: .one .junk :: .one .junk :: .one .junk :: .one .junk :: .one .junk :: []), []⟩)
    (σe := ⟨(.one .junk :: .one (.ptr 0 0 0) :: .one .junk :: .one .junk :: .one (.ptr 1 0 0) :: .one (.arr 2) :: .one .junk :: .one .junk :: .one .junk :: .one .junk :: .one .junk :: .one .junk :: vlst c3 :: vint .i64 n :: vint .i64 q :: .one .junk :: .one .junk :: .one .junk :: .one .junk :: .one .junk :: .one .junk :: .one .junk :: .one .junk :: .one .junk :: .one .junk :: .one .junk :: .one .junk :: .one .junk :: .one .junk :: .one .junk :: .one .junk :: .one .junk :: .one .junk :: .one .junk :: .one .junk :: .one .junk :: .one .junk :: .one .junk :: .one .junk :: .one .junk :: .one .junk :: .one .junk :: .one .junk :: .one .junk :: .one .junk :: .one .junk :: .one .junk :: .one .junk :: .one .junk :: .one .junk :: .one .junk :: .one .junk :: .one .junk :: .one .junk :: .one .junk :: .one .junk :: .one .junk :: .one .junk :: .one .junk :: .one .junk :: .one .junk :: .one .junk :: .one .junk :: .one .junk :: .one .junk :: .one .junk :: []), [.box [.pv (.int .i64 c0), .pv (.bool c1), .pv (.int .i64 c2), .pv (.lst c3), .pv (.lst c4), .pv (.int .i64 c5), .pv (.lst c6), .pv (.lst c7), .pv (.lst c8), .pv (.lst c9)], bkB nm wait act caches, .arr 1 ((vs.filter nz).map i1)]⟩)
    (fun k hlt hp => by
      have hw := wrap_small (k := k) (by omega)
      have hf := nz_take hlt
      have hle : ((vs.take k).filter nz).length ≤ 2 := Nat.le_trans (List.length_filter_le _ _) (by simp; omega)
      refine Steps.of ?_
      rw [hf]
      generalize (vs.take k).filter nz = us at hle ⊢
      by_cases q0 : vs[k] = 0
      · have hq : nz vs[k] = false := by simp [nz, q0]
        rw [hq]
        simp [b_impl_WorkersComplete_0, start, execOps, stepO, wants, fop, eop, Opd.ev, put, V.cells, plain, loadV, cut, isInt, isStr, isBool, bin, binInt, binStr_neq, binStr_eql, un, asList, L.view, viewArgs, V.view, viewL, finish, resultsOf, resultOf, comps, comp, giveLs, giveL, arrsOf, V.flat, L.flat, setV, setL, storeV, putAt, thaw, thawL, freezeVs, freezeLs, freezeL, V.mut, L.mut, elemPtr, viewRows, wp_seq, wp_block, wp_region, wp_cond, wp_skip, wp_exit, wp_ret, wp_end, wp_sqN, wp_sqR, wp_sqE, wp_bkN, wp_bkR, wp_bkE, Fin_ret, Fin_normal, L.notArr, bkB, hlt, i1, hw, q0]
        exact Kn.of [0, 1, 2, 3] (by decide) (by simp [relVs, relV, relLs, relL, relTs, relObs, relOb, L.ren]) (by simp [relVs, relV, relLs, relL, relTs, relObs, relOb, L.ren])
      · have hq : nz vs[k] = true := by simp [nz, q0]
        rw [hq, Bool.true_and] at hp
        obtain ⟨sv, sh, l, x1, x2, x3⟩ := hcc vs[k]
        have hcv : ccV caches sn files vs[k] = true := by simpa using hp
        rw [hcv] at x3
        have b1 : (us.length + 1) * 8 ≤ 140737488355328 := by omega
        have b2 : us.length + 1 ≤ 9223372036854775807 := by omega
        rw [hq]
        rcases x2 with ⟨rfl, rfl⟩ | rfl
        · simp [b_impl_WorkersComplete_0, start, execOps, stepO, wants, fop, eop, Opd.ev, put, V.cells, plain, loadV, cut, isInt, isStr, isBool, bin, binInt, binStr_neq, binStr_eql, un, asList, L.view, viewArgs, V.view, viewL, finish, resultsOf, resultOf, comps, comp, giveLs, giveL, arrsOf, V.flat, L.flat, setV, setL, storeV, putAt, thaw, thawL, freezeVs, freezeLs, freezeL, V.mut, L.mut, elemPtr, viewRows, wp_seq, wp_block, wp_region, wp_cond, wp_skip, wp_exit, wp_ret, wp_end, wp_sqN, wp_sqR, wp_sqE, wp_bkN, wp_bkR, wp_bkE, Fin_ret, Fin_normal, L.notArr, bkB, hlt, i1, hw, q0, x1, x3, b1, b2]
          exact Kn.of [0, 1, 5, 3] (by decide) (by simp [relVs, relV, relLs, relL, relTs, relObs, relOb, L.ren, i1]) (by simp [relVs, relV, relLs, relL, relTs, relObs, relOb, L.ren])
        · simp [b_impl_WorkersComplete_0, start, execOps, stepO, wants, fop, eop, Opd.ev, put, V.cells, plain, loadV, cut, isInt, isStr, isBool, bin, binInt, binStr_neq, binStr_eql, un, asList, L.view, viewArgs, V.view, viewL, finish, resultsOf, resultOf, comps, comp, giveLs, giveL, arrsOf, V.flat, L.flat, setV, setL, storeV, putAt, thaw, thawL, freezeVs, freezeLs, freezeL, V.mut, L.mut, elemPtr, viewRows, wp_seq, wp_block, wp_region, wp_cond, wp_skip, wp_exit, wp_ret, wp_end, wp_sqN, wp_sqR, wp_sqE, wp_bkN, wp_bkR, wp_bkE, Fin_ret, Fin_normal, L.notArr, bkB, hlt, i1, hw, q0, x1, x3, b1, b2]
          exact Kn.of [0, 1, 5, 3] (by decide) (by simp [relVs, relV, relLs, relL, relTs, relObs, relOb, L.ren, i1]) (by simp [relVs, relV, relLs, relL, relTs, relObs, relOb, L.ren]))
    (fun k hlt hp => by
      rw [Bool.and_eq_true] at hp
      have q0 : ¬ vs[k] = 0 := by simpa [nz] using hp.1
      obtain ⟨sv, sh, l, x1, x2, x3⟩ := hcc vs[k]
      have hcv : ccV caches sn files vs[k] = false := by simpa using hp.2
      rw [hcv] at x3
      refine Ends.stop (by simp) ?_
      rcases x2 with ⟨rfl, rfl⟩ | rfl
      · simp [b_impl_WorkersComplete_0, start, execOps, stepO, wants, fop, eop, Opd.ev, put, V.cells, plain, loadV, cut, isInt, isStr, isBool, bin, binInt, binStr_neq, binStr_eql, un, asList, L.view, viewArgs, V.view, viewL, finish, resultsOf, resultOf, comps, comp, giveLs, giveL, arrsOf, V.flat, L.flat, setV, setL, storeV, putAt, thaw, thawL, freezeVs, freezeLs, freezeL, V.mut, L.mut, elemPtr, viewRows, wp_seq, wp_block, wp_region, wp_cond, wp_skip, wp_exit, wp_ret, wp_end, wp_sqN, wp_sqR, wp_sqE, wp_bkN, wp_bkR, wp_bkE, Fin_ret, Fin_normal, L.notArr, bkB, hlt, i1, q0, x1, x3]
        exact Kn.of [] (by decide) (by simp [relVs, relV, relLs, relL, relTs, relObs, relOb, L.ren]) (by simp [relVs, relV, relLs, relL, relTs, relObs, relOb, L.ren])
      · simp [b_impl_WorkersComplete_0, start, execOps, stepO, wants, fop, eop, Opd.ev, put, V.cells, plain, loadV, cut, isInt, isStr, isBool, bin, binInt, binStr_neq, binStr_eql, un, asList, L.view, viewArgs, V.view, viewL, finish, resultsOf, resultOf, comps, comp, giveLs, giveL, arrsOf, V.flat, L.flat, setV, setL, storeV, putAt, thaw, thawL, freezeVs, freezeLs, freezeL, V.mut, L.mut, elemPtr, viewRows, wp_seq, wp_block, wp_region, wp_cond, wp_skip, wp_exit, wp_ret, wp_end, wp_sqN, wp_sqR, wp_sqE, wp_bkN, wp_bkR, wp_bkE, Fin_ret, Fin_normal, L.notArr, bkB, hlt, i1, q0, x1, x3]
        exact Kn.of [] (by decide) (by simp [relVs, relV, relLs, relL, relTs, relObs, relOb, L.ren]) (by simp [relVs, relV, relLs, relL, relTs, relObs, relOb, L.ren]))
    (by
      refine Ends.stop (by simp) ?_
      simp [b_impl_WorkersComplete_0, start, execOps, stepO, wants, fop, eop, Opd.ev, put, V.cells, plain, loadV, cut, isInt, isStr, isBool, bin, binInt, binStr_neq, binStr_eql, un, asList, L.view, viewArgs, V.view, viewL, finish, resultsOf, resultOf, comps, comp, giveLs, giveL, arrsOf, V.flat, L.flat, setV, setL, storeV, putAt, thaw, thawL, freezeVs, freezeLs, freezeL, V.mut, L.mut, elemPtr, viewRows, wp_seq, wp_block, wp_region, wp_cond, wp_skip, wp_exit, wp_ret, wp_end, wp_sqN, wp_sqR, wp_sqE, wp_bkN, wp_bkR, wp_bkE, Fin_ret, Fin_normal, L.notArr, bkB]
      exact Kn.of [0, 1, 2] (by decide) (by simp [relVs, relV, relLs, relL, relTs, relObs, relOb, L.ren]) (by simp [relVs, relV, relLs, relL, relTs, relObs, relOb, L.ren]))
  exact E
theorem iwc_1 {c0 : Int} {c1 : Bool} {c2 : Int} {c3 c4 : List (List PV)} {c5 : Int} {c6 c7 c8 c9 : List (List PV)} {act wait : Int} {caches : List (List PV)} (hc : Has (.lst t_CacheS) (.lst caches)) {n q : Int} {us : List Int} (hus : us.length ≤ 2) (hu : ∀ v, us.any (v == ·) = (!(v == 0) && ((v == act) || (v == wait)))) :
    Ends (callL Ph extF) b_impl_WorkersComplete_1 ⟨(.one .junk :: .one (.ptr 0 0 0) :: .one .junk :: .one .junk :: .one .junk :: .one (.arr 1) :: .one .junk :: .one .junk :: .one .junk :: .one .junk :: .one .junk :: .one .junk :: vlst c3 :: vint .i64 n :: vint .i64 q :: .one .junk :: .one .junk :: .one .junk :: .one .junk :: .one .junk :: .one .junk :: .one .junk :: .one .junk :: .one .junk :: .one .junk :: .one .junk :: .one .junk :: .one .junk :: .one .junk :: .one .junk :: .one .junk :: .one .junk :: .one .junk :: .one .junk :: .one .junk :: .one .junk :: .one .junk :: .one .junk :: .one .junk :: .one .junk :: .one .junk :: .one .junk :: .one .junk :: .one .junk :: .one .junk :: .one .junk :: .one .junk :: .one .junk :: .one .junk :: .one .junk :: .one .junk :: .one .junk :: .one .junk :: vlst caches :: vint .i64 caches.length :: vint .i64 0 :: .one .junk :: .one .junk :: .one .junk :: .one .junk :: .one .junk :: .one .junk :: .one .junk :: .one .junk :: .one .junk :: .one .junk :: []), [.box [.pv (.int .i64 c0), .pv (.bool c1), .pv (.int .i64 c2), .pv (.lst c3), .pv (.lst c4), .pv (.int .i64 c5), .pv (.lst c6), .pv (.lst c7), .pv (.lst c8), .pv (.lst c9)], .arr 1 (us.map i1)]⟩
      (cond (caches.any (verBad act wait)) .ret (.exit 4)) (cond (caches.any (verBad act wait)) ⟨(.one .junk :: .one .junk :: vbool false :: .one .junk :: .one .junk :: .one .junk :: .one .junk :: .one .junk :: .one .junk :: .one .junk :: .one .junk :: .one .junk :: .one .junk :: .one .junk :: .one .junk :: .one .junk :: .one .junk :: .one .junk :: .one .junk :: .one .junk :: .one .junk :: .one .junk :: .one .junk :: .one .junk :: .one .junk :: .one .junk :: .one .junk :: .one .junk :: .one .junk :: .one .junk :: .one .junk :: .one .junk :: .one .junk :: .one .junk :: .one .junk :: .one .junk :: .one .junk :: .one .junk :: .one .junk :: .one .junk :: .one .junk :: .one .junk :: .one .junk :: .one .junk :: .one .junk :: .one .junk :: .one .junk :: .one .junk :: .one .junk :: .one .junk :: .one .junk :: .one .junk :: .one .junk :: .one .junk :: .one .junk :: .one .junk :: .one .junk :: .one .junk :: .one .junk :: .one .junk :: .one .junk :: .one .junk :: .one .junk :: .one .junk :: .one .junk :: .one .junk :: []), []⟩ ⟨(.one .junk :: .one (.ptr 0 0 0) :: .one .junk :: .one .junk :: .one .junk :: .one .junk :: .one .junk :: .one .junk :: .one .junk :: .one .junk :: .one .junk :: .one .junk :: vlst c3 :: vint .i64 n :: vint .i64 q :: .one .junk :: .one .junk :: .one .junk :: .one .junk :: .one .junk :: .one .junk :: .one .junk :: .one .junk :: .one .junk :: .one .junk :: .one .junk :: .one .junk :: .one .junk :: .one .junk :: .one .junk :: .one .junk :: .one .junk :: .one .junk :: .one .junk :: .one .junk :: .one .junk :: .one .junk :: .one .junk :: .one .junk :: .one .junk :: .one .junk :: .one .junk :: .one .junk :: .one .junk :: .one .junk :: .one .junk :: .one .junk :: .one .junk :: .one .junk :: .one .junk :: .one .junk :: .one .junk :: .one .junk :: .one .junk :: .one .junk :: .one .junk :: .one .junk :: .one .junk :: .one .junk :: .one .junk :: .one .junk :: .one .junk :: .one .junk :: .one .junk :: .one .junk :: .one .junk :: []), [.box [.pv (.int .i64 c0), .pv (.bool c1), .pv (.int .i64 c2), .pv (.lst c3), .pv (.lst c4), .pv (.int .i64 c5), .pv (.lst c6), .pv (.lst c7), .pv (.lst c8), .pv (.lst c9)]]⟩) := by
  obtain ⟨hl, hr⟩ := Has_rows hc
  have hB : ∀ k (hlt : k < caches.length) (b : Bool), verBad act wait caches[k] = b → ∃ v es, caches[k] = [.int .i64 v, .lst es] ∧ callL Ph extF 307 [vlst (us.map i1), vint .i64 v] = some (vbool (!b)) := fun k hlt b hb => by
    obtain ⟨v, es, hrk, _⟩ := cache_row (hr _ (List.getElem_mem hlt))
    refine ⟨v, es, hrk, ?_⟩
    rw [sliceContainsInt_ok (by unfold maxLen; omega), hu, ← hb, hrk]
    simp only [verBad]
    cases (v == 0) <;> cases (v == act) <;> cases (v == wait) <;> rfl
  have E := ends_any (call := callL Ph extF) tidyF (c := b_impl_WorkersComplete_1) rfl (rows := caches) (p := verBad act wait) (e := .exit 4) (er := .ret)
    (S := fun k => ⟨(.one .junk :: .one (.ptr 0 0 0) :: .one .junk :: .one .junk :: .one .junk :: .one (.arr 1) :: .one .junk :: .one .junk :: .one .junk :: .one .junk :: .one .junk :: .one .junk :: vlst c3 :: vint .i64 n :: vint .i64 q :: .one .junk :: .one .junk :: .one .junk :: .one .junk :: .one .junk :: .one .junk :: .one .junk :: .one .junk :: .one .junk :: .one .junk :: .one .junk :: .one .junk :: .one .junk :: .one .junk :: .one .junk :: .one .junk :: .one .junk :: .one .junk :: .one .junk :: .one .junk :: .one .junk :: .one .junk :: .one .junk :: .one .junk :: .one .junk :: .one .junk :: .one .junk :: .one .junk :: .one .junk :: .one .junk :: .one .junk :: .one .junk :: .one .junk :: .one .junk :: .one .junk :: .one .junk :: .one .junk :: .one .junk :: vlst caches :: vint .i64 caches.length :: vint .i64 k :: .one .junk :: .one .junk :: .one .junk :: .one .junk :: .one .junk :: .one .junk :: .one .junk :: .one .junk :: .one .junk :: .one .junk :: []), [.box [.pv (.int .i64 c0), .pv (.bool c1), .pv (.int .i64 c2), .pv (.lst c3), .pv (.lst c4), .pv (.int .i64 c5), .pv (.lst c6), .pv (.lst c7), .pv (.lst c8), .pv (.lst c9)], .arr 1 (us.map i1)]⟩)
    (R := ⟨(.one .junk :: .one .junk :: vbool false :: .one .junk :: .one .junk :: .one .junk :: .one .junk :: .one .junk :: .one .junk :: .one .junk :: .one .junk :: .one .junk :: .one .junk :: .one .junk :: .one .junk :: .one .junk :: .one .junk :: .one .junk :: .one .junk :: .one .junk :: .one .junk :: .one .junk :: .one .junk :: .one .junk :: .one .junk :: .one .junk :: .one .junk :: .one .junk :: .one .junk :: .one .junk :: .one .junk :: .one .junk :: .one .junk :: .one .junk :: .one .junk :: .one .junk :: .one .junk :: .one .junk :: .one .junk :: .one .junk :: .one .junk :: .one .junk :: .one .junk :: .one .junk :: .one .junk :: .one .junk :: .one .junk :: .one .junk :: .one .junk :: .one .junk :: .one .junk :: .one .junk :: .one .junk :: .one .junk :: .one .junk :: .one .junk :: .one .junk :: .one .junk :: .one .junk :: .one .junk :: .one .junk :: .one .junk :: .one .junk :: .one .junk :: .one .junk :: .one .junk :: []), []⟩)
    (σe := ⟨(.one .junk :: .one (.ptr 0 0 0) :: .one .junk :: .one .junk :: .one .junk :: .one .junk :: .one .junk :: .one .junk :: .one .junk :: .one .junk :: .one .junk :: .one .junk :: vlst c3 :: vint .i64 n :: vint .i64 q :: .one .junk :: .one .junk :: .one .junk :: .one .junk :: .one .junk :: .one .junk :: .one .junk :: .one .junk :: .one .junk :: .one .junk :: .one .junk :: .one .junk :: .one .junk :: .one .junk :: .one .junk :: .one .junk :: .one .junk :: .one .junk :: .one .junk :: .one .junk :: .one .junk :: .one .junk :: .one .junk :: .one .junk :: .one .junk :: .one .junk :: .one .junk :: .one .junk :: .one .junk :: .one .junk :: .one .junk :: .one .junk :: .one .junk :: .one .junk :: .one .junk :: .one .junk :: .one .junk :: .one .junk :: .one .junk :: .one .junk :: .one .junk :: .one .junk :: .one .junk :: .one .junk :: .one .junk :: .one .junk :: .one .junk :: .one .junk :: .one .junk :: .one .junk :: .one .junk :: []), [.box [.pv (.int .i64 c0), .pv (.bool c1), .pv (.int .i64 c2), .pv (.lst c3), .pv (.lst c4), .pv (.int .i64 c5), .pv (.lst c6), .pv (.lst c7), .pv (.lst c8), .pv (.lst c9)]]⟩)
    (fun k hlt hp => by
      have hw := wrap_small (k := k) (by unfold maxLen at hl; omega)
      obtain ⟨v, es, hrk, e1⟩ := hB k hlt _ hp
      refine Steps.of ?_
      simp [b_impl_WorkersComplete_1, start, execOps, stepO, wants, fop, eop, Opd.ev, put, V.cells, plain, loadV, cut, isInt, isStr, isBool, bin, binInt, binStr_neq, binStr_eql, un, asList, L.view, viewArgs, V.view, viewL, finish, resultsOf, resultOf, comps, comp, giveLs, giveL, arrsOf, V.flat, L.flat, setV, setL, storeV, putAt, thaw, thawL, freezeVs, freezeLs, freezeL, V.mut, L.mut, elemPtr, viewRows, wp_seq, wp_block, wp_region, wp_cond, wp_skip, wp_exit, wp_ret, wp_end, wp_sqN, wp_sqR, wp_sqE, wp_bkN, wp_bkR, wp_bkE, Fin_ret, Fin_normal, L.notArr, hlt, hrk, hw, e1]
      exact Kn.of [0, 1] (by decide) (by simp [relVs, relV, relLs, relL, relTs, relObs, relOb, L.ren]) (by simp [relVs, relV, relLs, relL, relTs, relObs, relOb, L.ren]))
    (fun k hlt hp => by
      obtain ⟨v, es, hrk, e1⟩ := hB k hlt _ hp
      refine Ends.stop (by simp) ?_
      simp [b_impl_WorkersComplete_1, start, execOps, stepO, wants, fop, eop, Opd.ev, put, V.cells, plain, loadV, cut, isInt, isStr, isBool, bin, binInt, binStr_neq, binStr_eql, un, asList, L.view, viewArgs, V.view, viewL, finish, resultsOf, resultOf, comps, comp, giveLs, giveL, arrsOf, V.flat, L.flat, setV, setL, storeV, putAt, thaw, thawL, freezeVs, freezeLs, freezeL, V.mut, L.mut, elemPtr, viewRows, wp_seq, wp_block, wp_region, wp_cond, wp_skip, wp_exit, wp_ret, wp_end, wp_sqN, wp_sqR, wp_sqE, wp_bkN, wp_bkR, wp_bkE, Fin_ret, Fin_normal, L.notArr, hlt, hrk, e1]
      exact Kn.of [] (by decide) (by simp [relVs, relV, relLs, relL, relTs, relObs, relOb, L.ren]) (by simp [relVs, relV, relLs, relL, relTs, relObs, relOb, L.ren]))
    (by
      refine Ends.stop (by simp) ?_
      simp [b_impl_WorkersComplete_1, start, execOps, stepO, wants, fop, eop, Opd.ev, put, V.cells, plain, loadV, cut, isInt, isStr, isBool, bin, binInt, binStr_neq, binStr_eql, un, asList, L.view, viewArgs, V.view, viewL, finish, resultsOf, resultOf, comps, comp, giveLs, giveL, arrsOf, V.flat, L.flat, setV, setL, storeV, putAt, thaw, thawL, freezeVs, freezeLs, freezeL, V.mut, L.mut, elemPtr, viewRows, wp_seq, wp_block, wp_region, wp_cond, wp_skip, wp_exit, wp_ret, wp_end, wp_sqN, wp_sqR, wp_sqE, wp_bkN, wp_bkR, wp_bkE, Fin_ret, Fin_normal, L.notArr]
      exact Kn.of [0] (by decide) (by simp [relVs, relV, relLs, relL, relTs, relObs, relOb, L.ren]) (by simp [relVs, relV, relLs, relL, relTs, relObs, relOb, L.ren]))
  exact E
theorem used_any {act wait v : Int} : (([act, wait].filter nz).any (v == ·)) = (!(v == 0) && ((v == act) || (v == wait))) := by
  have e : (([act, wait].filter nz).any (v == ·)) = ((nz act && (v == act)) || (nz wait && (v == wait))) := by
    cases hq1 : nz act <;> cases hq2 : nz wait <;> simp [List.filter, hq1, hq2]
  rw [e]
  unfold nz
  by_cases h3 : v = act
  · subst h3
    by_cases h4 : v = wait
    · subst h4; simp
    · have h4' : (v == wait) = false := by simpa using h4
      simp [h4']
  · have h3' : (v == act) = false := by simpa using h3
    by_cases h4 : v = wait
    · subst h4; simp [h3']
    · have h4' : (v == wait) = false := by simpa using h4
      simp [h3', h4']
theorem wc_rows {c3 c8 : List (List PV)} (hr : ∀ r ∈ c3, HasL t_BucketS r) (hz3 : sz (.lst c3) ≤ 1048576) : ∀ k (hlt : k < c3.length), ∃ d0 d1 d2 d3 d4 d5 d6 d7 d8 d9 d10 d11 d12 d13 d14 d15 d16 d17 d18 d19 d20 d21 d22 d23, c3[k] = [.str d0, .str d1, .str d2, .int .i64 d3, .int .i64 d4, .int .i64 d5, .lst d6, .str d7, .int .i64 d8, .lst d9, .lst d10, .lst d11, .int .i64 d12, .str d13, .lst d14, .int .i64 d15, .int .i64 d16, .int .i64 d17, .int .i64 d18, .lst d19, .int .i64 d20, .int .i64 d21, .int .i64 d22, .bool d23] ∧ Has (.lst t_CacheS) (.lst d6) ∧ sz (.lst d6) ≤ 1048576 ∧ wcBad c8 c3[k] = cond (decide (siteNo d0 < 0)) false (([d5, d4].any fun v => nz v && !(ccV d6 (siteRow c8 d0).1 (siteRow c8 d0).2 v)) || d6.any (verBad d5 d4)) := fun k hlt => by
    obtain ⟨d0, d1, d2, d3, d4, d5, d6, d7, d8, d9, d10, d11, d12, d13, d14, d15, d16, d17, d18, d19, d20, d21, d22, d23, hrk, _, _, _, _, _, _, h6, _⟩ := bucket_cells (hr _ (List.getElem_mem hlt))
    refine ⟨d0, d1, d2, d3, d4, d5, d6, d7, d8, d9, d10, d11, d12, d13, d14, d15, d16, d17, d18, d19, d20, d21, d22, d23, hrk, h6, ?_, ?_⟩
    · have s1 := row_le (List.getElem_mem hlt) hz3
      rw [hrk] at s1
      exact Nat.le_trans (szL_at (i := 6) rfl) s1
    · rw [hrk]
      simp only [wcBad, nz, List.any_cons, List.any_nil, Bool.or_false, Bool.or_assoc]
theorem impl_WorkersComplete_ok {c0 : Int} {c1 : Bool} {c2 : Int} {c3 c4 : List (List PV)} {c5 : Int} {c6 c7 c8 c9 : List (List PV)} (h3 : Has (.lst t_BucketS) (.lst c3)) (hz3 : sz (.lst c3) ≤ 1048576) (h8 : Has (.lst t_SiteS) (.lst c8)) (hz8 : sz (.lst c8) ≤ 1048576) : callL Ph extF 297 [.agg [.pv (.int .i64 c0), .pv (.bool c1), .pv (.int .i64 c2), .pv (.lst c3), .pv (.lst c4), .pv (.int .i64 c5), .pv (.lst c6), .pv (.lst c7), .pv (.lst c8), .pv (.lst c9)]] = some (vbool (!(c3.any (wcBad c8)))) := by
  obtain ⟨hl, hr⟩ := Has_rows h3
  have hB := wc_rows (c8 := c8) hr hz3
  have E := ends_any (call := callL Ph extF) tidyF (c := b_impl_WorkersComplete_2) rfl (rows := c3) (p := wcBad c8) (e := .exit 0) (er := .ret)
    (S := fun k => ⟨(.one .junk :: .one (.ptr 0 0 0) :: .one .junk :: .one .junk :: .one .junk :: .one .junk :: .one .junk :: .one .junk :: .one .junk :: .one .junk :: .one .junk :: .one .junk :: vlst c3 :: vint .i64 c3.length :: vint .i64 k :: .one .junk :: .one .junk :: .one .junk :: .one .junk :: .one .junk :: .one .junk :: .one .junk :: .one .junk :: .one .junk :: .one .junk :: .one .junk :: .one .junk :: .one .junk :: .one .junk :: .one .junk :: .one .junk :: .one .junk :: .one .junk :: .one .junk :: .one .junk :: .one .junk :: .one .junk :: .one .junk :: .one .junk :: .one .junk :: .one .junk :: .one .junk :: .one .junk :: .one .junk :: .one .junk :: .one .junk :: .one .junk :: .one .junk :: .one .junk :: .one .junk :: .one .junk :: .one .junk :: .one .junk :: .one .junk :: .one .junk :: .one .junk :: .one .junk :: .one .junk :: .one .junk :: .one .junk :: .one .junk :: .one .junk :: .one .junk :: .one .junk :: .one .junk :: .one .junk :: []), [.box [.pv (.int .i64 c0), .pv (.bool c1), .pv (.int .i64 c2), .pv (.lst c3), .pv (.lst c4), .pv (.int .i64 c5), .pv (.lst c6), .pv (.lst c7), .pv (.lst c8), .pv (.lst c9)]]⟩)
    (R := ⟨(.one .junk :: .one .junk :: vbool false :: .one .junk :: .one .junk :: .one .junk :: .one .junk :: .one .junk :: .one .junk :: .one .junk :: .one .junk :: .one .junk :: .one .junk :: .one .junk :: .one .junk :: .one .junk :: .one .junk :: .one .junk :: .one .junk :: .one .junk :: .one .junk :: .one .junk :: .one .junk :: .one .junk :: .one .junk :: .one .junk :: .one .junk :: .one .junk :: .one .junk :: .one .junk :: .one .junk :: .one .junk :: .one .junk :: .one .junk :: .one .junk :: .one .junk :: .one .junk :: .one .junk :: .one .junk :: .one .junk :: .one .junk :: .one .junk :: .one .junk :: .one .junk :: .one .junk :: .one .junk :: .one .junk :: .one .junk :: .one .junk :: .one .junk :: .one .junk :: .one .junk :: .one .junk :: .one .junk :: .one .junk :: .one .junk :: .one .junk :: .one .junk :: .one .junk :: .one .junk :: .one .junk :: .one .junk :: .one .junk :: .one .junk :: .one .junk :: .one .junk :: []), []⟩) (σe := ⟨(.one .junk :: .one .junk :: .one .junk :: .one .junk :: .one .junk :: .one .junk :: .one .junk :: .one .junk :: .one .junk :: .one .junk :: .one .junk :: .one .junk :: .one .junk :: .one .junk :: .one .junk :: .one .junk :: .one .junk :: .one .junk :: .one .junk :: .one .junk :: .one .junk :: .one .junk :: .one .junk :: .one .junk :: .one .junk :: .one .junk :: .one .junk :: .one .junk :: .one .junk :: .one .junk :: .one .junk :: .one .junk :: .one .junk :: .one .junk :: .one .junk :: .one .junk :: .one .junk :: .one .junk :: .one .junk :: .one .junk :: .one .junk :: .one .junk :: .one .junk :: .one .junk :: .one .junk :: .one .junk :: .one .junk :: .one .junk :: .one .junk :: .one .junk :: .one .junk :: .one .junk :: .one .junk :: .one .junk :: .one .junk :: .one .junk :: .one .junk :: .one .junk :: .one .junk :: .one .junk :: .one .junk :: .one .junk :: .one .junk :: .one .junk :: .one .junk :: .one .junk :: []), []⟩)
    (fun k hlt hp => by
      have hw := wrap_small (k := k) (by unfold maxLen at hl; omega)
      obtain ⟨d0, d1, d2, d3, d4, d5, d6, d7, d8, d9, d10, d11, d12, d13, d14, d15, d16, d17, d18, d19, d20, d21, d22, d23, hrk, h6, hz6, hb⟩ := hB k hlt
      rw [hb] at hp
      have e1 := impl_SiteNumber_ok d0
      refine Steps.of ?_
      by_cases hs : siteNo d0 < 0
      · simp [b_impl_WorkersComplete_2, start, execOps, stepO, wants, fop, eop, Opd.ev, put, V.cells, plain, loadV, cut, isInt, isStr, isBool, bin, binInt, binStr_neq, binStr_eql, un, asList, L.view, viewArgs, V.view, viewL, finish, resultsOf, resultOf, comps, comp, giveLs, giveL, arrsOf, V.flat, L.flat, setV, setL, storeV, putAt, thaw, thawL, freezeVs, freezeLs, freezeL, V.mut, L.mut, elemPtr, viewRows, wp_seq, wp_block, wp_region, wp_cond, wp_skip, wp_exit, wp_ret, wp_end, wp_sqN, wp_sqR, wp_sqE, wp_bkN, wp_bkR, wp_bkE, Fin_ret, Fin_normal, L.notArr, hlt, hrk, e1, hs, hw]
        exact Kn.of [0] (by decide) (by simp [relVs, relV, relLs, relL, relTs, relObs, relOb, L.ren]) (by simp [relVs, relV, relLs, relL, relTs, relObs, relOb, L.ren])
      · have hs' : decide (siteNo d0 < 0) = false := by simpa using hs
        rw [hs', cond_false, Bool.or_eq_false_iff] at hp
        have E1 := iwc_0 (c0 := c0) (c1 := c1) (c2 := c2) (c3 := c3) (c4 := c4) (c5 := c5) (c6 := c6) (c7 := c7) (c9 := c9) h8 hz8 (wait := d4) (act := d5) h6 hz6 hs (n := (c3.length : Int)) (q := (k : Int)) (vs := [d5, d4]) (by simp)
        have E2 := iwc_1 (c0 := c0) (c1 := c1) (c2 := c2) (c3 := c3) (c4 := c4) (c5 := c5) (c6 := c6) (c7 := c7) (c8 := c8) (c9 := c9) (act := d5) (wait := d4) h6 (n := (c3.length : Int)) (q := (k : Int)) (us := [d5, d4].filter nz) (Nat.le_trans (List.length_filter_le _ _) (by simp)) (fun v => used_any)
        rw [hp.1] at E1
        rw [hp.2] at E2
        generalize [d5, d4].filter nz = us at E1 E2
        simp [b_impl_WorkersComplete_2, start, execOps, stepO, wants, fop, eop, Opd.ev, put, V.cells, plain, loadV, cut, isInt, isStr, isBool, bin, binInt, binStr_neq, binStr_eql, un, asList, L.view, viewArgs, V.view, viewL, finish, resultsOf, resultOf, comps, comp, giveLs, giveL, arrsOf, V.flat, L.flat, setV, setL, storeV, putAt, thaw, thawL, freezeVs, freezeLs, freezeL, V.mut, L.mut, elemPtr, viewRows, wp_seq, wp_block, wp_region, wp_cond, wp_skip, wp_exit, wp_ret, wp_end, wp_sqN, wp_sqR, wp_sqE, wp_bkN, wp_bkR, wp_bkE, Fin_ret, Fin_normal, L.notArr, hlt, hrk, e1, hs]
        refine wp_loop tidyF Cl.kn rfl E1 ?_ ?_
        · exact Kn.of [0, 1, 2, 3] (by decide) (by simp [relVs, relV, relLs, relL, relTs, relObs, relOb, L.ren, bkB, i1]) (by simp [relVs, relV, relLs, relL, relTs, relObs, relOb, L.ren])
        simp [start, execOps, stepO, wants, fop, eop, Opd.ev, put, V.cells, plain, loadV, cut, isInt, isStr, isBool, bin, binInt, binStr_neq, binStr_eql, un, asList, L.view, viewArgs, V.view, viewL, finish, resultsOf, resultOf, comps, comp, giveLs, giveL, arrsOf, V.flat, L.flat, setV, setL, storeV, putAt, thaw, thawL, freezeVs, freezeLs, freezeL, V.mut, L.mut, elemPtr, viewRows, wp_seq, wp_block, wp_region, wp_cond, wp_skip, wp_exit, wp_ret, wp_end, wp_sqN, wp_sqR, wp_sqE, wp_bkN, wp_bkR, wp_bkE, Fin_ret, Fin_normal, L.notArr, bkB]
        refine wp_loop tidyF Cl.kn rfl E2 ?_ ?_
        · exact Kn.of [0, 2] (by decide) (by simp [relVs, relV, relLs, relL, relTs, relObs, relOb, L.ren]) (by simp [relVs, relV, relLs, relL, relTs, relObs, relOb, L.ren])
        simp [start, execOps, stepO, wants, fop, eop, Opd.ev, put, V.cells, plain, loadV, cut, isInt, isStr, isBool, bin, binInt, binStr_neq, binStr_eql, un, asList, L.view, viewArgs, V.view, viewL, finish, resultsOf, resultOf, comps, comp, giveLs, giveL, arrsOf, V.flat, L.flat, setV, setL, storeV, putAt, thaw, thawL, freezeVs, freezeLs, freezeL, V.mut, L.mut, elemPtr, viewRows, wp_seq, wp_block, wp_region, wp_cond, wp_skip, wp_exit, wp_ret, wp_end, wp_sqN, wp_sqR, wp_sqE, wp_bkN, wp_bkR, wp_bkE, Fin_ret, Fin_normal, L.notArr, hw]
        exact Kn.of [0] (by decide) (by simp [relVs, relV, relLs, relL, relTs, relObs, relOb, L.ren]) (by simp [relVs, relV, relLs, relL, relTs, relObs, relOb, L.ren]))
    (fun k hlt hp => by
      obtain ⟨d0, d1, d2, d3, d4, d5, d6, d7, d8, d9, d10, d11, d12, d13, d14, d15, d16, d17, d18, d19, d20, d21, d22, d23, hrk, h6, hz6, hb⟩ := hB k hlt
      rw [hb] at hp
      have e1 := impl_SiteNumber_ok d0
      refine Ends.stop (by simp) ?_
      by_cases hs : siteNo d0 < 0
      · have hs' : decide (siteNo d0 < 0) = true := by simpa using hs
        rw [hs'] at hp
        cases hp
      · have hs' : decide (siteNo d0 < 0) = false := by simpa using hs
        rw [hs', cond_false] at hp
        have E1 := iwc_0 (c0 := c0) (c1 := c1) (c2 := c2) (c3 := c3) (c4 := c4) (c5 := c5) (c6 := c6) (c7 := c7) (c9 := c9) h8 hz8 (wait := d4) (act := d5) h6 hz6 hs (n := (c3.length : Int)) (q := (k : Int)) (vs := [d5, d4]) (by simp)
        have E2 := iwc_1 (c0 := c0) (c1 := c1) (c2 := c2) (c3 := c3) (c4 := c4) (c5 := c5) (c6 := c6) (c7 := c7) (c8 := c8) (c9 := c9) (act := d5) (wait := d4) h6 (n := (c3.length : Int)) (q := (k : Int)) (us := [d5, d4].filter nz) (Nat.le_trans (List.length_filter_le _ _) (by simp)) (fun v => used_any)
        generalize ([d5, d4].any fun v => nz v && !(ccV d6 (siteRow c8 d0).1 (siteRow c8 d0).2 v)) = A at hp E1
        generalize [d5, d4].filter nz = us at E1 E2
        simp [b_impl_WorkersComplete_2, start, execOps, stepO, wants, fop, eop, Opd.ev, put, V.cells, plain, loadV, cut, isInt, isStr, isBool, bin, binInt, binStr_neq, binStr_eql, un, asList, L.view, viewArgs, V.view, viewL, finish, resultsOf, resultOf, comps, comp, giveLs, giveL, arrsOf, V.flat, L.flat, setV, setL, storeV, putAt, thaw, thawL, freezeVs, freezeLs, freezeL, V.mut, L.mut, elemPtr, viewRows, wp_seq, wp_block, wp_region, wp_cond, wp_skip, wp_exit, wp_ret, wp_end, wp_sqN, wp_sqR, wp_sqE, wp_bkN, wp_bkR, wp_bkE, Fin_ret, Fin_normal, L.notArr, hlt, hrk, e1, hs]
        refine wp_loop tidyF Cl.kn rfl E1 ?_ ?_
        · exact Kn.of [0, 1, 2, 3] (by decide) (by simp [relVs, relV, relLs, relL, relTs, relObs, relOb, L.ren, bkB, i1]) (by simp [relVs, relV, relLs, relL, relTs, relObs, relOb, L.ren])
        cases A
        · rw [Bool.false_or] at hp
          rw [hp] at E2
          simp [start, execOps, stepO, wants, fop, eop, Opd.ev, put, V.cells, plain, loadV, cut, isInt, isStr, isBool, bin, binInt, binStr_neq, binStr_eql, un, asList, L.view, viewArgs, V.view, viewL, finish, resultsOf, resultOf, comps, comp, giveLs, giveL, arrsOf, V.flat, L.flat, setV, setL, storeV, putAt, thaw, thawL, freezeVs, freezeLs, freezeL, V.mut, L.mut, elemPtr, viewRows, wp_seq, wp_block, wp_region, wp_cond, wp_skip, wp_exit, wp_ret, wp_end, wp_sqN, wp_sqR, wp_sqE, wp_bkN, wp_bkR, wp_bkE, Fin_ret, Fin_normal, L.notArr, bkB]
          refine wp_loop tidyF Cl.kn rfl E2 ?_ ?_
          · exact Kn.of [0, 2] (by decide) (by simp [relVs, relV, relLs, relL, relTs, relObs, relOb, L.ren]) (by simp [relVs, relV, relLs, relL, relTs, relObs, relOb, L.ren])
          simp [start, execOps, stepO, wants, fop, eop, Opd.ev, put, V.cells, plain, loadV, cut, isInt, isStr, isBool, bin, binInt, binStr_neq, binStr_eql, un, asList, L.view, viewArgs, V.view, viewL, finish, resultsOf, resultOf, comps, comp, giveLs, giveL, arrsOf, V.flat, L.flat, setV, setL, storeV, putAt, thaw, thawL, freezeVs, freezeLs, freezeL, V.mut, L.mut, elemPtr, viewRows, wp_seq, wp_block, wp_region, wp_cond, wp_skip, wp_exit, wp_ret, wp_end, wp_sqN, wp_sqR, wp_sqE, wp_bkN, wp_bkR, wp_bkE, Fin_ret, Fin_normal, L.notArr]
          exact Kn.of [] (by decide) (by simp [relVs, relV, relLs, relL, relTs, relObs, relOb, L.ren]) (by simp [relVs, relV, relLs, relL, relTs, relObs, relOb, L.ren])
        · simp [start, execOps, stepO, wants, fop, eop, Opd.ev, put, V.cells, plain, loadV, cut, isInt, isStr, isBool, bin, binInt, binStr_neq, binStr_eql, un, asList, L.view, viewArgs, V.view, viewL, finish, resultsOf, resultOf, comps, comp, giveLs, giveL, arrsOf, V.flat, L.flat, setV, setL, storeV, putAt, thaw, thawL, freezeVs, freezeLs, freezeL, V.mut, L.mut, elemPtr, viewRows, wp_seq, wp_block, wp_region, wp_cond, wp_skip, wp_exit, wp_ret, wp_end, wp_sqN, wp_sqR, wp_sqE, wp_bkN, wp_bkR, wp_bkE, Fin_ret, Fin_normal, L.notArr]
          exact Kn.of [] (by decide) (by simp [relVs, relV, relLs, relL, relTs, relObs, relOb, L.ren]) (by simp [relVs, relV, relLs, relL, relTs, relObs, relOb, L.ren]))
    (by
      refine Ends.stop (by simp) ?_
      simp [b_impl_WorkersComplete_2, start, execOps, stepO, wants, fop, eop, Opd.ev, put, V.cells, plain, loadV, cut, isInt, isStr, isBool, bin, binInt, binStr_neq, binStr_eql, un, asList, L.view, viewArgs, V.view, viewL, finish, resultsOf, resultOf, comps, comp, giveLs, giveL, arrsOf, V.flat, L.flat, setV, setL, storeV, putAt, thaw, thawL, freezeVs, freezeLs, freezeL, V.mut, L.mut, elemPtr, viewRows, wp_seq, wp_block, wp_region, wp_cond, wp_skip, wp_exit, wp_ret, wp_end, wp_sqN, wp_sqR, wp_sqE, wp_bkN, wp_bkR, wp_bkE, Fin_ret, Fin_normal, L.notArr]
      exact Kn.of [] (by decide) (by simp [relVs, relV, relLs, relL, relTs, relObs, relOb, L.ren]) (by simp [relVs, relV, relLs, relL, relTs, relObs, relOb, L.ren]))
  refine callL_wp (fn := f_impl_WorkersComplete) rfl ?_
  generalize c3.any (wcBad c8) = B at E ⊢
  simp [f_impl_WorkersComplete, start, execOps, stepO, wants, fop, eop, Opd.ev, put, V.cells, plain, loadV, cut, isInt, isStr, isBool, bin, binInt, binStr_neq, binStr_eql, un, asList, L.view, viewArgs, V.view, viewL, finish, resultsOf, resultOf, comps, comp, giveLs, giveL, arrsOf, V.flat, L.flat, setV, setL, storeV, putAt, thaw, thawL, freezeVs, freezeLs, freezeL, V.mut, L.mut, elemPtr, viewRows, wp_seq, wp_block, wp_region, wp_cond, wp_skip, wp_exit, wp_ret, wp_end, wp_sqN, wp_sqR, wp_sqE, wp_bkN, wp_bkR, wp_bkE, Fin_ret, Fin_normal, L.notArr]
  refine wp_loop tidyF Cl.fin rfl E ?_ ?_
  · exact Kn.of [0] (by decide) (by simp [relVs, relV, relLs, relL, relTs, relObs, relOb, L.ren]) (by simp [relVs, relV, relLs, relL, relTs, relObs, relOb, L.ren])
  cases B <;> simp [start, execOps, stepO, wants, fop, eop, Opd.ev, put, V.cells, plain, loadV, cut, isInt, isStr, isBool, bin, binInt, binStr_neq, binStr_eql, un, asList, L.view, viewArgs, V.view, viewL, finish, resultsOf, resultOf, comps, comp, giveLs, giveL, arrsOf, V.flat, L.flat, setV, setL, storeV, putAt, thaw, thawL, freezeVs, freezeLs, freezeL, V.mut, L.mut, elemPtr, viewRows, wp_seq, wp_block, wp_region, wp_cond, wp_skip, wp_exit, wp_ret, wp_end, wp_sqN, wp_sqR, wp_sqE, wp_bkN, wp_bkR, wp_bkE, Fin_ret, Fin_normal, L.notArr]
end Gi
