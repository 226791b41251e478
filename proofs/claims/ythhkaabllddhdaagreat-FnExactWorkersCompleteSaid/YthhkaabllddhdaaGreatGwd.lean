/- Complete caches; complete workers. -/
import Derived.Test.YthhkaabllddhdaaGreatGuc
import Derived.Test.YthhkaabllddhdaaGreatGwc
namespace Gi
open Go Go.RowKit
set_option linter.unusedSimpArgs false
set_option linter.unusedVariables false
set_option maxHeartbeats 4000000
set_option maxRecDepth 4000

def badEntry (nm f : List UInt8) (v : Int) : Option (List PV) → Bool
  | some [_, _, _, .int _ st, .int _ ver, .lst body, _] => !(st == 200) || (!(ver == v) || !(bytesOf body == some (bodyB (fileN nm f v))))
  | _ => true
def badF (caches : List (List PV)) (nm : List UInt8) (v : Int) : List PV → Bool
  | [.str f] => badEntry nm f v (mcRow caches v nm f)
  | _ => true
def ccV (caches : List (List PV)) (nm : List UInt8) (files : List (List PV)) (v : Int) : Bool := !(files.any (badF caches nm v)) && decide (0 ≤ findI (isC v) caches 0)
theorem str_rows {rows : List (List PV)} (h : Has (.lst t_StringS) (.lst rows)) (hz : sz (.lst rows) ≤ 1048576) : ∀ k (hk : k < rows.length), ∃ f : List UInt8, rows[k] = [.str f] ∧ f.length ≤ 1048576 := fun k hk => by
  obtain ⟨s, hs, _⟩ := strs h _ (List.getElem_mem hk)
  refine ⟨s, hs, ?_⟩
  have := row_le (List.getElem_mem hk) hz
  rw [hs] at this
  simp only [szL, sz] at this
  omega
/-- What the answer says of a file, by cases. -/
theorem mc_cases {caches : List (List PV)} (h : Has (.lst t_CacheS) (.lst caches)) (hz : sz (.lst caches) ≤ 1048576) (v : Int) (s p : List UInt8) :
    (mcRow caches v s p = none) ∨ ∃ c0 c1 a b c t d, mcRow caches v s p = some [.str c0, .str c1, .int .i64 a, .int .i64 b, .int .i64 c, .lst (ofBytes t), .bool d] ∧ t.length ≤ 1048576 := by
  cases hm : mcRow caches v s p with
  | none => exact .inl rfl
  | some r =>
    have hc := mcRow_cells h hm
    have hzr : szL r ≤ 1048576 := by
      unfold mcRow at hm
      split at hm
      · rename_i c hf
        have s1 := row_le (List.mem_of_find?_eq_some hf) hz
        obtain ⟨n, es, rfl, _⟩ := cache_row ((Has_rows h).2 _ (List.mem_of_find?_eq_some hf))
        have s2 : sz (.lst es) ≤ 1048576 := by simp only [szL, sz] at s1 ⊢; omega
        exact row_le (List.mem_of_find?_eq_some hm) s2
      · cases hm
    obtain ⟨c0, c1, a, b, c, body, d, rfl, _, _, _, _, _, g5, _⟩ := cached_cells hc
    obtain ⟨t, rfl⟩ := bytes_rows (Has_rows g5).2
    refine .inr ⟨c0, c1, a, b, c, t, d, rfl, ?_⟩
    simp only [szL, sz_lst, ofBytes_length] at hzr
    omega
section
variable {caches : List (List PV)} {nm : List UInt8} {sv : Int} {files : List (List PV)} {sh : Bool} {v : Int}
theorem impl_CacheComplete_ok (h : Has (.lst t_CacheS) (.lst caches)) (hz : sz (.lst caches) ≤ 1048576) (hn : nm.length ≤ 1048576) (hf : Has (.lst t_StringS) (.lst files)) (hzf : sz (.lst files) ≤ 1048576) :
    callL Ph extF 305 [.agg [.pv (.lst caches)], .agg [.pv (.str nm), .pv (.int .i64 sv), .pv (.lst files), .pv (.bool sh)], vint .i64 v] = some (vbool (ccV caches nm files v)) := by
  have hl := (Has_rows hf).1
  have hB := str_rows hf hzf
  have a1 := impl_FindCache_ok h v
  have E := ends_any (call := callL Ph extF) tidyF (c := b_impl_CacheComplete_0) rfl (rows := files) (p := badF caches nm v) (e := .exit 0) (er := .ret)
    (S := fun k => ⟨(.one .junk :: .one .junk :: vint .i64 v :: .one (.ptr 0 0 0) :: .one (.ptr 1 0 0) :: .one .junk :: .one .junk :: .one .junk :: .one .junk :: .one .junk :: .one .junk :: .one .junk :: vlst files :: vint .i64 files.length :: vint .i64 k :: .one .junk :: .one .junk :: .one .junk :: .one .junk :: .one .junk :: .one .junk :: .one .junk :: .one .junk :: .one .junk :: .one .junk :: .one .junk :: .one .junk :: .one .junk :: .one .junk :: .one .junk :: .one .junk :: .one .junk :: .one .junk :: .one .junk :: .one .junk :: .one .junk :: .one .junk :: .one .junk :: .one .junk :: .one .junk :: .one .junk :: .one .junk :: .one .junk :: .one .junk :: .one .junk :: .one .junk :: .one .junk :: .one .junk :: .one .junk :: .one .junk :: .one .junk :: .one .junk :: .one .junk :: .one .junk :: .one .junk :: []), [.box [.pv (.lst caches)], .box [.pv (.str nm), .pv (.int .i64 sv), .pv (.lst files), .pv (.bool sh)]]⟩)
    (R := ⟨(.one .junk :: .one .junk :: .one .junk :: .one .junk :: .one .junk :: .one .junk :: vbool false :: .one .junk :: .one .junk :: .one .junk :: .one .junk :: .one .junk :: .one .junk :: .one .junk :: .one .junk :: .one .junk :: .one .junk :: .one .junk :: .one .junk :: .one .junk :: .one .junk :: .one .junk :: .one .junk :: .one .junk :: .one .junk :: .one .junk :: .one .junk :: .one .junk :: .one .junk :: .one .junk :: .one .junk :: .one .junk :: .one .junk :: .one .junk :: .one .junk :: .one .junk :: .one .junk :: .one .junk :: .one .junk :: .one .junk :: .one .junk :: .one .junk :: .one .junk :: .one .junk :: .one .junk :: .one .junk :: .one .junk :: .one .junk :: .one .junk :: .one .junk :: .one .junk :: .one .junk :: .one .junk :: .one .junk :: .one .junk :: []), []⟩) (σe := ⟨(.one .junk :: .one .junk :: vint .i64 v :: .one (.ptr 0 0 0) :: .one .junk :: .one .junk :: .one .junk :: .one .junk :: .one .junk :: .one .junk :: .one .junk :: .one .junk :: .one .junk :: .one .junk :: .one .junk :: .one .junk :: .one .junk :: .one .junk :: .one .junk :: .one .junk :: .one .junk :: .one .junk :: .one .junk :: .one .junk :: .one .junk :: .one .junk :: .one .junk :: .one .junk :: .one .junk :: .one .junk :: .one .junk :: .one .junk :: .one .junk :: .one .junk :: .one .junk :: .one .junk :: .one .junk :: .one .junk :: .one .junk :: .one .junk :: .one .junk :: .one .junk :: .one .junk :: .one .junk :: .one .junk :: .one .junk :: .one .junk :: .one .junk :: .one .junk :: .one .junk :: .one .junk :: .one .junk :: .one .junk :: .one .junk :: .one .junk :: []), [.box [.pv (.lst caches)]]⟩)
    (fun k hlt hp => by
      have hw := wrap_small (k := k) (by unfold maxLen at hl; omega)
      obtain ⟨f, hrk, hfl⟩ := hB k hlt
      have m1 := (matchCache_both h hz v nm f).1
      have m2 := impl_BodyOf_ok (nm := nm) (path := f) (sv := sv) (fs := files) (sh := sh) (v := v) (by omega) (by omega)
      have hq : badF caches nm v files[k] = badEntry nm f v (mcRow caches v nm f) := by rw [hrk]; rfl
      rw [hq] at hp
      rcases mc_cases h hz v nm f with hm | ⟨c0, c1, a, b, c, t, d, hm, htl⟩
      · rw [hm] at hp; simp [badEntry] at hp
      · rw [hm] at m1 hp
        simp only [badEntry, bytesOf_of, Bool.or_eq_false_iff, Bool.not_eq_false', beq_iff_eq, Option.some.injEq] at hp
        obtain ⟨rfl, rfl, h3⟩ := hp
        have m3 := impl_EqualBytes_ok (a := t) (b := bodyB (fileN nm f c)) (by unfold maxLen; omega)
        rw [h3] at m3
        simp only [mcV] at m1
        rw [h3] at m1
        generalize ofBytes (bodyB (fileN nm f c)) = BB at m1 m2 m3
        refine Steps.of ?_
        simp [b_impl_CacheComplete_0, start, execOps, stepO, wants, fop, eop, Opd.ev, put, V.cells, plain, loadV, cut, isInt, isStr, isBool, bin, binInt, binStr_neq, binStr_eql, un, asList, L.view, viewArgs, V.view, viewL, finish, resultsOf, resultOf, comps, comp, giveLs, giveL, arrsOf, V.flat, L.flat, setV, setL, storeV, putAt, thaw, thawL, freezeVs, freezeLs, freezeL, V.mut, L.mut, elemPtr, viewRows, wp_seq, wp_block, wp_region, wp_cond, wp_skip, wp_exit, wp_ret, wp_end, wp_sqN, wp_sqR, wp_sqE, wp_bkN, wp_bkR, wp_bkE, Fin_ret, Fin_normal, L.notArr, hlt, hrk, hw, m1, m2, m3, thawT]
        exact Kn.of [0, 1] (by decide) (by simp [relVs, relV, relLs, relL, relTs, relObs, relOb, L.ren]) (by simp [relVs, relV, relLs, relL, relTs, relObs, relOb, L.ren]))
    (fun k hlt hp => by
      obtain ⟨f, hrk, hfl⟩ := hB k hlt
      have m1 := (matchCache_both h hz v nm f).1
      have m2 := impl_BodyOf_ok (nm := nm) (path := f) (sv := sv) (fs := files) (sh := sh) (v := v) (by omega) (by omega)
      have hq : badF caches nm v files[k] = badEntry nm f v (mcRow caches v nm f) := by rw [hrk]; rfl
      rw [hq] at hp
      refine Ends.stop (by simp) ?_
      rcases mc_cases h hz v nm f with hm | ⟨c0, c1, a, b, c, t, d, hm, htl⟩
      · rw [hm] at m1
        simp only [mcV] at m1
        simp [b_impl_CacheComplete_0, start, execOps, stepO, wants, fop, eop, Opd.ev, put, V.cells, plain, loadV, cut, isInt, isStr, isBool, bin, binInt, binStr_neq, binStr_eql, un, asList, L.view, viewArgs, V.view, viewL, finish, resultsOf, resultOf, comps, comp, giveLs, giveL, arrsOf, V.flat, L.flat, setV, setL, storeV, putAt, thaw, thawL, freezeVs, freezeLs, freezeL, V.mut, L.mut, elemPtr, viewRows, wp_seq, wp_block, wp_region, wp_cond, wp_skip, wp_exit, wp_ret, wp_end, wp_sqN, wp_sqR, wp_sqE, wp_bkN, wp_bkR, wp_bkE, Fin_ret, Fin_normal, L.notArr, hlt, hrk, m1, thawT]
        exact Kn.of [] (by decide) (by simp [relVs, relV, relLs, relL, relTs, relObs, relOb, L.ren]) (by simp [relVs, relV, relLs, relL, relTs, relObs, relOb, L.ren])
      · rw [hm] at m1 hp
        have m3 := impl_EqualBytes_ok (a := t) (b := bodyB (fileN nm f v)) (by unfold maxLen; omega)
        simp only [badEntry, bytesOf_of] at hp
        simp only [mcV] at m1
        generalize hX : (t == bodyB (fileN nm f v)) = X at m3
        have hX2 : (some t == some (bodyB (fileN nm f v))) = X := by rw [← hX]; rfl
        rw [hX2] at hp
        generalize ofBytes (bodyB (fileN nm f v)) = BB at m2 m3
        generalize ofBytes t = TT at m1 m3
        by_cases q1 : b = 200
        · by_cases q2 : c = v
          · subst q1 q2
            have q3 : X = false := by simpa using hp
            subst q3
            simp [b_impl_CacheComplete_0, start, execOps, stepO, wants, fop, eop, Opd.ev, put, V.cells, plain, loadV, cut, isInt, isStr, isBool, bin, binInt, binStr_neq, binStr_eql, un, asList, L.view, viewArgs, V.view, viewL, finish, resultsOf, resultOf, comps, comp, giveLs, giveL, arrsOf, V.flat, L.flat, setV, setL, storeV, putAt, thaw, thawL, freezeVs, freezeLs, freezeL, V.mut, L.mut, elemPtr, viewRows, wp_seq, wp_block, wp_region, wp_cond, wp_skip, wp_exit, wp_ret, wp_end, wp_sqN, wp_sqR, wp_sqE, wp_bkN, wp_bkR, wp_bkE, Fin_ret, Fin_normal, L.notArr, hlt, hrk, m1, m2, m3, thawT]
            exact Kn.of [] (by decide) (by simp [relVs, relV, relLs, relL, relTs, relObs, relOb, L.ren]) (by simp [relVs, relV, relLs, relL, relTs, relObs, relOb, L.ren])
          · have q2b : (c != v) = true := by simpa using q2
            simp [b_impl_CacheComplete_0, start, execOps, stepO, wants, fop, eop, Opd.ev, put, V.cells, plain, loadV, cut, isInt, isStr, isBool, bin, binInt, binStr_neq, binStr_eql, un, asList, L.view, viewArgs, V.view, viewL, finish, resultsOf, resultOf, comps, comp, giveLs, giveL, arrsOf, V.flat, L.flat, setV, setL, storeV, putAt, thaw, thawL, freezeVs, freezeLs, freezeL, V.mut, L.mut, elemPtr, viewRows, wp_seq, wp_block, wp_region, wp_cond, wp_skip, wp_exit, wp_ret, wp_end, wp_sqN, wp_sqR, wp_sqE, wp_bkN, wp_bkR, wp_bkE, Fin_ret, Fin_normal, L.notArr, hlt, hrk, m1, q1, q2, q2b, thawT]
            exact Kn.of [] (by decide) (by simp [relVs, relV, relLs, relL, relTs, relObs, relOb, L.ren]) (by simp [relVs, relV, relLs, relL, relTs, relObs, relOb, L.ren])
        · have q1b : (b != 200) = true := by simpa using q1
          simp [b_impl_CacheComplete_0, start, execOps, stepO, wants, fop, eop, Opd.ev, put, V.cells, plain, loadV, cut, isInt, isStr, isBool, bin, binInt, binStr_neq, binStr_eql, un, asList, L.view, viewArgs, V.view, viewL, finish, resultsOf, resultOf, comps, comp, giveLs, giveL, arrsOf, V.flat, L.flat, setV, setL, storeV, putAt, thaw, thawL, freezeVs, freezeLs, freezeL, V.mut, L.mut, elemPtr, viewRows, wp_seq, wp_block, wp_region, wp_cond, wp_skip, wp_exit, wp_ret, wp_end, wp_sqN, wp_sqR, wp_sqE, wp_bkN, wp_bkR, wp_bkE, Fin_ret, Fin_normal, L.notArr, hlt, hrk, m1, q1, q1b, thawT]
          exact Kn.of [] (by decide) (by simp [relVs, relV, relLs, relL, relTs, relObs, relOb, L.ren]) (by simp [relVs, relV, relLs, relL, relTs, relObs, relOb, L.ren]))
    (by
      refine Ends.stop (by simp) ?_
      simp [b_impl_CacheComplete_0, start, execOps, stepO, wants, fop, eop, Opd.ev, put, V.cells, plain, loadV, cut, isInt, isStr, isBool, bin, binInt, binStr_neq, binStr_eql, un, asList, L.view, viewArgs, V.view, viewL, finish, resultsOf, resultOf, comps, comp, giveLs, giveL, arrsOf, V.flat, L.flat, setV, setL, storeV, putAt, thaw, thawL, freezeVs, freezeLs, freezeL, V.mut, L.mut, elemPtr, viewRows, wp_seq, wp_block, wp_region, wp_cond, wp_skip, wp_exit, wp_ret, wp_end, wp_sqN, wp_sqR, wp_sqE, wp_bkN, wp_bkR, wp_bkE, Fin_ret, Fin_normal, L.notArr]
      exact Kn.of [0] (by decide) (by simp [relVs, relV, relLs, relL, relTs, relObs, relOb, L.ren]) (by simp [relVs, relV, relLs, relL, relTs, relObs, relOb, L.ren]))
  refine callL_wp (fn := f_impl_CacheComplete) rfl ?_
  unfold ccV
  generalize files.any (badF caches nm v) = B at E ⊢
  generalize findI (isC v) caches 0 = I at a1 ⊢
  simp [f_impl_CacheComplete, start, execOps, stepO, wants, fop, eop, Opd.ev, put, V.cells, plain, loadV, cut, isInt, isStr, isBool, bin, binInt, binStr_neq, binStr_eql, un, asList, L.view, viewArgs, V.view, viewL, finish, resultsOf, resultOf, comps, comp, giveLs, giveL, arrsOf, V.flat, L.flat, setV, setL, storeV, putAt, thaw, thawL, freezeVs, freezeLs, freezeL, V.mut, L.mut, elemPtr, viewRows, wp_seq, wp_block, wp_region, wp_cond, wp_skip, wp_exit, wp_ret, wp_end, wp_sqN, wp_sqR, wp_sqE, wp_bkN, wp_bkR, wp_bkE, Fin_ret, Fin_normal, L.notArr]
  refine wp_loop tidyF Cl.fin rfl E ?_ ?_
  · exact Kn.of [0, 1] (by decide) (by simp [relVs, relV, relLs, relL, relTs, relObs, relOb, L.ren]) (by simp [relVs, relV, relLs, relL, relTs, relObs, relOb, L.ren])
  cases B <;> simp [start, execOps, stepO, wants, fop, eop, Opd.ev, put, V.cells, plain, loadV, cut, isInt, isStr, isBool, bin, binInt, binStr_neq, binStr_eql, un, asList, L.view, viewArgs, V.view, viewL, finish, resultsOf, resultOf, comps, comp, giveLs, giveL, arrsOf, V.flat, L.flat, setV, setL, storeV, putAt, thaw, thawL, freezeVs, freezeLs, freezeL, V.mut, L.mut, elemPtr, viewRows, wp_seq, wp_block, wp_region, wp_cond, wp_skip, wp_exit, wp_ret, wp_end, wp_sqN, wp_sqR, wp_sqE, wp_bkN, wp_bkR, wp_bkE, Fin_ret, Fin_normal, L.notArr, a1]
theorem spec_CacheComplete_ok (h : Has (.lst t_CacheS) (.lst caches)) (hz : sz (.lst caches) ≤ 1048576) (hn : nm.length ≤ 1048576) (hf : Has (.lst t_StringS) (.lst files)) (hzf : sz (.lst files) ≤ 1048576) :
    callL Ph extF 304 [.agg [.pv (.lst caches)], .agg [.pv (.str nm), .pv (.int .i64 sv), .pv (.lst files), .pv (.bool sh)], vint .i64 v] = some (vbool (ccV caches nm files v)) := by
  have hl := (Has_rows hf).1
  have hB := str_rows hf hzf
  have a1 := spec_FindCache_ok h v
  have E := ends_any (call := callL Ph extF) tidyF (c := b_spec_CacheComplete_0) rfl (rows := files) (p := badF caches nm v) (e := .exit 0) (er := .ret)
    (S := fun k => ⟨(.one .junk :: .one .junk :: vint .i64 v :: .one (.ptr 0 0 0) :: .one (.ptr 1 0 0) :: .one .junk :: .one .junk :: vint .i64 k :: .one .junk :: .one .junk :: .one .junk :: .one .junk :: .one .junk :: .one .junk :: .one .junk :: .one .junk :: .one .junk :: .one .junk :: .one .junk :: .one .junk :: .one .junk :: .one .junk :: .one .junk :: .one .junk :: .one .junk :: .one .junk :: .one .junk :: .one .junk :: .one .junk :: .one .junk :: .one .junk :: .one .junk :: .one .junk :: .one .junk :: .one .junk :: .one .junk :: .one .junk :: .one .junk :: .one .junk :: .one .junk :: .one .junk :: .one .junk :: .one .junk :: .one .junk :: .one .junk :: .one .junk :: .one .junk :: .one .junk :: .one .junk :: .one .junk :: .one .junk :: .one .junk :: .one .junk :: .one .junk :: .one .junk :: .one .junk :: .one .junk :: .one .junk :: .one .junk :: .one .junk :: .one .junk :: []), [.box [.pv (.lst caches)], .box [.pv (.str nm), .pv (.int .i64 sv), .pv (.lst files), .pv (.bool sh)]]⟩)
    (R := ⟨(.one .junk :: .one .junk :: .one .junk :: .one .junk :: .one .junk :: .one .junk :: vbool false :: .one .junk :: .one .junk :: .one .junk :: .one .junk :: .one .junk :: .one .junk :: .one .junk :: .one .junk :: .one .junk :: .one .junk :: .one .junk :: .one .junk :: .one .junk :: .one .junk :: .one .junk :: .one .junk :: .one .junk :: .one .junk :: .one .junk :: .one .junk :: .one .junk :: .one .junk :: .one .junk :: .one .junk :: .one .junk :: .one .junk :: .one .junk :: .one .junk :: .one .junk :: .one .junk :: .one .junk :: .one .junk :: .one .junk :: .one .junk :: .one .junk :: .one .junk :: .one .junk :: .one .junk :: .one .junk :: .one .junk :: .one .junk :: .one .junk :: .one .junk :: .one .junk :: .one .junk :: .one .junk :: .one .junk :: .one .junk :: .one .junk :: .one .junk :: .one .junk :: .one .junk :: .one .junk :: .one .junk :: []), []⟩) (σe := ⟨(.one .junk :: .one .junk :: vint .i64 v :: .one (.ptr 0 0 0) :: .one .junk :: .one .junk :: .one .junk :: .one .junk :: .one .junk :: .one .junk :: .one .junk :: .one .junk :: .one .junk :: .one .junk :: .one .junk :: .one .junk :: .one .junk :: .one .junk :: .one .junk :: .one .junk :: .one .junk :: .one .junk :: .one .junk :: .one .junk :: .one .junk :: .one .junk :: .one .junk :: .one .junk :: .one .junk :: .one .junk :: .one .junk :: .one .junk :: .one .junk :: .one .junk :: .one .junk :: .one .junk :: .one .junk :: .one .junk :: .one .junk :: .one .junk :: .one .junk :: .one .junk :: .one .junk :: .one .junk :: .one .junk :: .one .junk :: .one .junk :: .one .junk :: .one .junk :: .one .junk :: .one .junk :: .one .junk :: .one .junk :: .one .junk :: .one .junk :: .one .junk :: .one .junk :: .one .junk :: .one .junk :: .one .junk :: .one .junk :: []), [.box [.pv (.lst caches)]]⟩)
    (fun k hlt hp => by
      have hw := wrap_small (k := k) (by unfold maxLen at hl; omega)
      obtain ⟨f, hrk, hfl⟩ := hB k hlt
      have m1 := (matchCache_both h hz v nm f).2
      have m2 := spec_BodyOf_ok (nm := nm) (path := f) (sv := sv) (fs := files) (sh := sh) (v := v) (by omega) (by omega)
      have hq : badF caches nm v files[k] = badEntry nm f v (mcRow caches v nm f) := by rw [hrk]; rfl
      rw [hq] at hp
      rcases mc_cases h hz v nm f with hm | ⟨c0, c1, a, b, c, t, d, hm, htl⟩
      · rw [hm] at hp; simp [badEntry] at hp
      · rw [hm] at m1 hp
        simp only [badEntry, bytesOf_of, Bool.or_eq_false_iff, Bool.not_eq_false', beq_iff_eq, Option.some.injEq] at hp
        obtain ⟨rfl, rfl, h3⟩ := hp
        have m3 := spec_EqualBytes_ok (a := t) (b := bodyB (fileN nm f c))
        rw [h3] at m3
        simp only [mcV] at m1
        rw [h3] at m1
        generalize ofBytes (bodyB (fileN nm f c)) = BB at m1 m2 m3
        refine Steps.of ?_
        simp [b_spec_CacheComplete_0, start, execOps, stepO, wants, fop, eop, Opd.ev, put, V.cells, plain, loadV, cut, isInt, isStr, isBool, bin, binInt, binStr_neq, binStr_eql, un, asList, L.view, viewArgs, V.view, viewL, finish, resultsOf, resultOf, comps, comp, giveLs, giveL, arrsOf, V.flat, L.flat, setV, setL, storeV, putAt, thaw, thawL, freezeVs, freezeLs, freezeL, V.mut, L.mut, elemPtr, viewRows, wp_seq, wp_block, wp_region, wp_cond, wp_skip, wp_exit, wp_ret, wp_end, wp_sqN, wp_sqR, wp_sqE, wp_bkN, wp_bkR, wp_bkE, Fin_ret, Fin_normal, L.notArr, hlt, hrk, hw, m1, m2, m3, thawT]
        exact Kn.of [0, 1] (by decide) (by simp [relVs, relV, relLs, relL, relTs, relObs, relOb, L.ren]) (by simp [relVs, relV, relLs, relL, relTs, relObs, relOb, L.ren]))
    (fun k hlt hp => by
      obtain ⟨f, hrk, hfl⟩ := hB k hlt
      have m1 := (matchCache_both h hz v nm f).2
      have m2 := spec_BodyOf_ok (nm := nm) (path := f) (sv := sv) (fs := files) (sh := sh) (v := v) (by omega) (by omega)
      have hq : badF caches nm v files[k] = badEntry nm f v (mcRow caches v nm f) := by rw [hrk]; rfl
      rw [hq] at hp
      refine Ends.stop (by simp) ?_
      rcases mc_cases h hz v nm f with hm | ⟨c0, c1, a, b, c, t, d, hm, htl⟩
      · rw [hm] at m1
        simp only [mcV] at m1
        simp [b_spec_CacheComplete_0, start, execOps, stepO, wants, fop, eop, Opd.ev, put, V.cells, plain, loadV, cut, isInt, isStr, isBool, bin, binInt, binStr_neq, binStr_eql, un, asList, L.view, viewArgs, V.view, viewL, finish, resultsOf, resultOf, comps, comp, giveLs, giveL, arrsOf, V.flat, L.flat, setV, setL, storeV, putAt, thaw, thawL, freezeVs, freezeLs, freezeL, V.mut, L.mut, elemPtr, viewRows, wp_seq, wp_block, wp_region, wp_cond, wp_skip, wp_exit, wp_ret, wp_end, wp_sqN, wp_sqR, wp_sqE, wp_bkN, wp_bkR, wp_bkE, Fin_ret, Fin_normal, L.notArr, hlt, hrk, m1, thawT]
        exact Kn.of [] (by decide) (by simp [relVs, relV, relLs, relL, relTs, relObs, relOb, L.ren]) (by simp [relVs, relV, relLs, relL, relTs, relObs, relOb, L.ren])
      · rw [hm] at m1 hp
        have m3 := spec_EqualBytes_ok (a := t) (b := bodyB (fileN nm f v))
        simp only [badEntry, bytesOf_of] at hp
        simp only [mcV] at m1
        generalize hX : (t == bodyB (fileN nm f v)) = X at m3
        have hX2 : (some t == some (bodyB (fileN nm f v))) = X := by rw [← hX]; rfl
        rw [hX2] at hp
        generalize ofBytes (bodyB (fileN nm f v)) = BB at m2 m3
        generalize ofBytes t = TT at m1 m3
        by_cases q1 : b = 200
        · by_cases q2 : c = v
          · subst q1 q2
            have q3 : X = false := by simpa using hp
            subst q3
            simp [b_spec_CacheComplete_0, start, execOps, stepO, wants, fop, eop, Opd.ev, put, V.cells, plain, loadV, cut, isInt, isStr, isBool, bin, binInt, binStr_neq, binStr_eql, un, asList, L.view, viewArgs, V.view, viewL, finish, resultsOf, resultOf, comps, comp, giveLs, giveL, arrsOf, V.flat, L.flat, setV, setL, storeV, putAt, thaw, thawL, freezeVs, freezeLs, freezeL, V.mut, L.mut, elemPtr, viewRows, wp_seq, wp_block, wp_region, wp_cond, wp_skip, wp_exit, wp_ret, wp_end, wp_sqN, wp_sqR, wp_sqE, wp_bkN, wp_bkR, wp_bkE, Fin_ret, Fin_normal, L.notArr, hlt, hrk, m1, m2, m3, thawT]
            exact Kn.of [] (by decide) (by simp [relVs, relV, relLs, relL, relTs, relObs, relOb, L.ren]) (by simp [relVs, relV, relLs, relL, relTs, relObs, relOb, L.ren])
          · have q2b : (c != v) = true := by simpa using q2
            simp [b_spec_CacheComplete_0, start, execOps, stepO, wants, fop, eop, Opd.ev, put, V.cells, plain, loadV, cut, isInt, isStr, isBool, bin, binInt, binStr_neq, binStr_eql, un, asList, L.view, viewArgs, V.view, viewL, finish, resultsOf, resultOf, comps, comp, giveLs, giveL, arrsOf, V.flat, L.flat, setV, setL, storeV, putAt, thaw, thawL, freezeVs, freezeLs, freezeL, V.mut, L.mut, elemPtr, viewRows, wp_seq, wp_block, wp_region, wp_cond, wp_skip, wp_exit, wp_ret, wp_end, wp_sqN, wp_sqR, wp_sqE, wp_bkN, wp_bkR, wp_bkE, Fin_ret, Fin_normal, L.notArr, hlt, hrk, m1, q1, q2, q2b, thawT]
            exact Kn.of [] (by decide) (by simp [relVs, relV, relLs, relL, relTs, relObs, relOb, L.ren]) (by simp [relVs, relV, relLs, relL, relTs, relObs, relOb, L.ren])
        · have q1b : (b != 200) = true := by simpa using q1
          simp [b_spec_CacheComplete_0, start, execOps, stepO, wants, fop, eop, Opd.ev, put, V.cells, plain, loadV, cut, isInt, isStr, isBool, bin, binInt, binStr_neq, binStr_eql, un, asList, L.view, viewArgs, V.view, viewL, finish, resultsOf, resultOf, comps, comp, giveLs, giveL, arrsOf, V.flat, L.flat, setV, setL, storeV, putAt, thaw, thawL, freezeVs, freezeLs, freezeL, V.mut, L.mut, elemPtr, viewRows, wp_seq, wp_block, wp_region, wp_cond, wp_skip, wp_exit, wp_ret, wp_end, wp_sqN, wp_sqR, wp_sqE, wp_bkN, wp_bkR, wp_bkE, Fin_ret, Fin_normal, L.notArr, hlt, hrk, m1, q1, q1b, thawT]
          exact Kn.of [] (by decide) (by simp [relVs, relV, relLs, relL, relTs, relObs, relOb, L.ren]) (by simp [relVs, relV, relLs, relL, relTs, relObs, relOb, L.ren]))
    (by
      refine Ends.stop (by simp) ?_
      simp [b_spec_CacheComplete_0, start, execOps, stepO, wants, fop, eop, Opd.ev, put, V.cells, plain, loadV, cut, isInt, isStr, isBool, bin, binInt, binStr_neq, binStr_eql, un, asList, L.view, viewArgs, V.view, viewL, finish, resultsOf, resultOf, comps, comp, giveLs, giveL, arrsOf, V.flat, L.flat, setV, setL, storeV, putAt, thaw, thawL, freezeVs, freezeLs, freezeL, V.mut, L.mut, elemPtr, viewRows, wp_seq, wp_block, wp_region, wp_cond, wp_skip, wp_exit, wp_ret, wp_end, wp_sqN, wp_sqR, wp_sqE, wp_bkN, wp_bkR, wp_bkE, Fin_ret, Fin_normal, L.notArr]
      exact Kn.of [0] (by decide) (by simp [relVs, relV, relLs, relL, relTs, relObs, relOb, L.ren]) (by simp [relVs, relV, relLs, relL, relTs, relObs, relOb, L.ren]))
  refine callL_wp (fn := f_spec_CacheComplete) rfl ?_
  unfold ccV
  generalize files.any (badF caches nm v) = B at E ⊢
  generalize findI (isC v) caches 0 = I at a1 ⊢
  simp [f_spec_CacheComplete, start, execOps, stepO, wants, fop, eop, Opd.ev, put, V.cells, plain, loadV, cut, isInt, isStr, isBool, bin, binInt, binStr_neq, binStr_eql, un, asList, L.view, viewArgs, V.view, viewL, finish, resultsOf, resultOf, comps, comp, giveLs, giveL, arrsOf, V.flat, L.flat, setV, setL, storeV, putAt, thaw, thawL, freezeVs, freezeLs, freezeL, V.mut, L.mut, elemPtr, viewRows, wp_seq, wp_block, wp_region, wp_cond, wp_skip, wp_exit, wp_ret, wp_end, wp_sqN, wp_sqR, wp_sqE, wp_bkN, wp_bkR, wp_bkE, Fin_ret, Fin_normal, L.notArr]
  refine wp_loop tidyF Cl.fin rfl E ?_ ?_
  · exact Kn.of [0, 1] (by decide) (by simp [relVs, relV, relLs, relL, relTs, relObs, relOb, L.ren]) (by simp [relVs, relV, relLs, relL, relTs, relObs, relOb, L.ren])
  cases B <;> simp [start, execOps, stepO, wants, fop, eop, Opd.ev, put, V.cells, plain, loadV, cut, isInt, isStr, isBool, bin, binInt, binStr_neq, binStr_eql, un, asList, L.view, viewArgs, V.view, viewL, finish, resultsOf, resultOf, comps, comp, giveLs, giveL, arrsOf, V.flat, L.flat, setV, setL, storeV, putAt, thaw, thawL, freezeVs, freezeLs, freezeL, V.mut, L.mut, elemPtr, viewRows, wp_seq, wp_block, wp_region, wp_cond, wp_skip, wp_exit, wp_ret, wp_end, wp_sqN, wp_sqR, wp_sqE, wp_bkN, wp_bkR, wp_bkE, Fin_ret, Fin_normal, L.notArr, a1]
end
end Gi
