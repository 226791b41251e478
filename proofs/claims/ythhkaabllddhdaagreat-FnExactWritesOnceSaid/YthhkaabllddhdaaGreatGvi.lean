/- Writes applied once and in order: the program, the law. -/
import Derived.Test.YthhkaabllddhdaaGreatGvh
namespace Gi
open Go Go.RowKit
set_option linter.unusedSimpArgs false
set_option linter.unusedVariables false
set_option maxHeartbeats 4000000
set_option maxRecDepth 4000

/-- What the map holds after k writes. -/
def kvsN (ws : List (List PV)) : Nat → List (Int × Int)
  | 0 => []
  | k + 1 => (devOf (ws.getD k []), 1 + (cntW (devOf (ws.getD k [])) (ws.take k) : Int)) :: kvsN ws k
theorem kvsN_len (ws : List (List PV)) : ∀ k, (kvsN ws k).length = k
  | 0 => rfl
  | k + 1 => by simp [kvsN, kvsN_len ws k]
theorem kvsN_look {ws : List (List PV)} (hd : ∀ k (h : k < ws.length), ∃ d tl, ws[k] = .int .i64 d :: tl) : ∀ k, k ≤ ws.length → ∀ e, look (kvsN ws k) e = (cntW e (ws.take k) : Int)
  | 0, _, e => by simp [kvsN, look, cntW]
  | k + 1, hk, e => by
    have h : k < ws.length := by omega
    obtain ⟨d, tl, hr⟩ := hd k h
    have hg : ws.getD k [] = ws[k] := by simp [h]
    rw [cntW_take h, hr]
    simp only [kvsN, look, hg, hr, devOf, isD]
    have ih := kvsN_look hd k (by omega) e
    by_cases c : e = d
    · subst c
      simp
      omega
    · have c' : (d == e) = false := by simp; exact fun x => c x.symm
      simp [c, c', ih]
section
variable {srv : List (List PV)} {s0 : List UInt8} {s1 : List (List PV)} {s2 : Int} {s3 ws : List (List PV)}
theorem iwo_0 (hl : ws.length ≤ 1048576) (hr : ∀ r ∈ ws, HasL t_WriteS r) {q n : Int} :
    Ends (callL Ph extF) b_impl_WritesOnce_0 ⟨(.one .junk :: .one .junk :: .one .junk :: .one .junk :: .one (.ptr 0 0 0) :: .one (.mp 1) :: .one .junk :: .one .junk :: .one .junk :: .one .junk :: .one .junk :: vlst srv :: vint .i64 n :: vint .i64 q :: .one .junk :: .one .junk :: .one .junk :: .one .junk :: .one .junk :: vlst ws :: vint .i64 ws.length :: vint .i64 0 :: .one .junk :: .one .junk :: .one .junk :: .one .junk :: .one .junk :: .one .junk :: .one .junk :: .one .junk :: .one .junk :: .one .junk :: .one .junk :: .one .junk :: .one .junk :: .one .junk :: .one .junk :: .one .junk :: .one .junk :: .one .junk :: .one .junk :: .one .junk :: .one .junk :: .one .junk :: .one .junk :: .one .junk :: .one .junk :: .one .junk :: .one .junk :: .one .junk :: .one .junk :: .one .junk :: .one .junk :: .one .junk :: .one .junk :: .one .junk :: []), [sB s0 s1 s2 s3 ws, .imap []]⟩ (cond ((List.range ws.length).any (badAt ws)) .ret (.exit 2)) (cond ((List.range ws.length).any (badAt ws)) ⟨(.one .junk :: .one .junk :: vbool false :: .one .junk :: .one .junk :: .one .junk :: .one .junk :: .one .junk :: .one .junk :: .one .junk :: .one .junk :: .one .junk :: .one .junk :: .one .junk :: .one .junk :: .one .junk :: .one .junk :: .one .junk :: .one .junk :: .one .junk :: .one .junk :: .one .junk :: .one .junk :: .one .junk :: .one .junk :: .one .junk :: .one .junk :: .one .junk :: .one .junk :: .one .junk :: .one .junk :: .one .junk :: .one .junk :: .one .junk :: .one .junk :: .one .junk :: .one .junk :: .one .junk :: .one .junk :: .one .junk :: .one .junk :: .one .junk :: .one .junk :: .one .junk :: .one .junk :: .one .junk :: .one .junk :: .one .junk :: .one .junk :: .one .junk :: .one .junk :: .one .junk :: .one .junk :: .one .junk :: .one .junk :: .one .junk :: []), []⟩ ⟨(.one .junk :: .one .junk :: .one .junk :: .one .junk :: .one (.ptr 0 0 0) :: .one (.mp 1) :: .one .junk :: .one .junk :: .one .junk :: .one .junk :: .one .junk :: vlst srv :: vint .i64 n :: vint .i64 q :: .one .junk :: .one .junk :: .one .junk :: .one .junk :: .one .junk :: .one .junk :: .one .junk :: .one .junk :: .one .junk :: .one .junk :: .one .junk :: .one .junk :: .one .junk :: .one .junk :: .one .junk :: .one .junk :: .one .junk :: .one .junk :: .one .junk :: .one .junk :: .one .junk :: .one .junk :: .one .junk :: .one .junk :: .one .junk :: .one .junk :: .one .junk :: .one .junk :: .one .junk :: .one .junk :: .one .junk :: .one .junk :: .one .junk :: .one .junk :: .one .junk :: .one .junk :: .one .junk :: .one .junk :: .one .junk :: .one .junk :: .one .junk :: .one .junk :: []), [sB s0 s1 s2 s3 ws, .imap (kvsN ws ws.length)]⟩) := by
  have at' : ∀ {k : Nat} (hk : k < (List.range ws.length).length), k < ws.length ∧ (List.range ws.length)[k] = k := fun {k} hk => ⟨by simpa using hk, by simp⟩
  have hds : ∀ k (h : k < ws.length), ∃ d tl, ws[k] = .int .i64 d :: tl := fun k h => by
    obtain ⟨c0, c1, c2, c3, c4, c5, c6, hrk, _⟩ := write_cells (hr _ (List.getElem_mem h))
    exact ⟨_, _, hrk⟩
  have hB : ∀ k (hlt : k < ws.length) (b : Bool), badAt ws k = b → ∃ c0 c1 c2 c3 c4 c5 c6 N, ws[k] = [.int .i64 c0, .int .i64 c1, .int .i64 c2, .int .i64 c3, .str c4, .str c5, .int .i64 c6] ∧ (b = !(c1 == 1 + N)) ∧ look (kvsN ws k) c0 = N ∧ inR c0 = true ∧ inR (1 + N) = true ∧ IntKind.i64.wrap (N + 1) = 1 + N ∧ kvsN ws (k + 1) = (c0, 1 + N) :: kvsN ws k := fun k hlt b hb => by
    obtain ⟨c0, c1, c2, c3, c4, c5, c6, hrk, g0, _⟩ := write_cells (hr _ (List.getElem_mem hlt))
    have hcl : (cntW c0 (ws.take k) : Int) ≤ k := by
      have h1 := cntW_le c0 (ws.take k)
      simp at h1
      omega
    refine ⟨c0, c1, c2, c3, c4, c5, c6, (cntW c0 (ws.take k) : Int), hrk, ?_, kvsN_look hds k (by omega) c0, inR_of (i64_range g0), inR_of (by omega), by rw [IntKind.wrap_i64]; omega, ?_⟩
    · rw [← hb, badAt_val hlt hrk]
    · have hg : ws.getD k [] = ws[k] := by simp [hlt]
      simp only [kvsN, hg, hrk, devOf]
  have E := ends_any (call := callL Ph extF) tidyF (c := b_impl_WritesOnce_0) rfl (rows := List.range ws.length) (p := badAt ws) (e := .exit 2) (er := .ret)
    (S := fun k => ⟨(.one .junk :: .one .junk :: .one .junk :: .one .junk :: .one (.ptr 0 0 0) :: .one (.mp 1) :: .one .junk :: .one .junk :: .one .junk :: .one .junk :: .one .junk :: vlst srv :: vint .i64 n :: vint .i64 q :: .one .junk :: .one .junk :: .one .junk :: .one .junk :: .one .junk :: vlst ws :: vint .i64 ws.length :: vint .i64 k :: .one .junk :: .one .junk :: .one .junk :: .one .junk :: .one .junk :: .one .junk :: .one .junk :: .one .junk :: .one .junk :: .one .junk :: .one .junk :: .one .junk :: .one .junk :: .one .junk :: .one .junk :: .one .junk :: .one .junk :: .one .junk :: .one .junk :: .one .junk :: .one .junk :: .one .junk :: .one .junk :: .one .junk :: .one .junk :: .one .junk :: .one .junk :: .one .junk :: .one .junk :: .one .junk :: .one .junk :: .one .junk :: .one .junk :: .one .junk :: []), [sB s0 s1 s2 s3 ws, .imap (kvsN ws k)]⟩)
    (R := ⟨(.one .junk :: .one .junk :: vbool false :: .one .junk :: .one .junk :: .one .junk :: .one .junk :: .one .junk :: .one .junk :: .one .junk :: .one .junk :: .one .junk :: .one .junk :: .one .junk :: .one .junk :: .one .junk :: .one .junk :: .one .junk :: .one .junk :: .one .junk :: .one .junk :: .one .junk :: .one .junk :: .one .junk :: .one .junk :: .one .junk :: .one .junk :: .one .junk :: .one .junk :: .one .junk :: .one .junk :: .one .junk :: .one .junk :: .one .junk :: .one .junk :: .one .junk :: .one .junk :: .one .junk :: .one .junk :: .one .junk :: .one .junk :: .one .junk :: .one .junk :: .one .junk :: .one .junk :: .one .junk :: .one .junk :: .one .junk :: .one .junk :: .one .junk :: .one .junk :: .one .junk :: .one .junk :: .one .junk :: .one .junk :: .one .junk :: []), []⟩) (σe := ⟨(.one .junk :: .one .junk :: .one .junk :: .one .junk :: .one (.ptr 0 0 0) :: .one (.mp 1) :: .one .junk :: .one .junk :: .one .junk :: .one .junk :: .one .junk :: vlst srv :: vint .i64 n :: vint .i64 q :: .one .junk :: .one .junk :: .one .junk :: .one .junk :: .one .junk :: .one .junk :: .one .junk :: .one .junk :: .one .junk :: .one .junk :: .one .junk :: .one .junk :: .one .junk :: .one .junk :: .one .junk :: .one .junk :: .one .junk :: .one .junk :: .one .junk :: .one .junk :: .one .junk :: .one .junk :: .one .junk :: .one .junk :: .one .junk :: .one .junk :: .one .junk :: .one .junk :: .one .junk :: .one .junk :: .one .junk :: .one .junk :: .one .junk :: .one .junk :: .one .junk :: .one .junk :: .one .junk :: .one .junk :: .one .junk :: .one .junk :: .one .junk :: .one .junk :: []), [sB s0 s1 s2 s3 ws, .imap (kvsN ws ws.length)]⟩)
    (fun k hk hp => by
      obtain ⟨hlt, he⟩ := at' hk
      rw [he] at hp
      have hw := wrap_small (k := k) (by omega)
      obtain ⟨c0, c1, c2, c3, c4, c5, c6, N, hrk, hc, hlk, hi0, hi1, hwn, hkv⟩ := hB k hlt _ hp
      have hlen : (kvsN ws k).length < 9223372036854775806 := by rw [kvsN_len]; omega
      have hc' : c1 = 1 + N := by simpa using hc.symm
      refine Steps.of ?_
      rw [hkv]
      generalize kvsN ws k = kv at hlk hlen
      simp [b_impl_WritesOnce_0, start, execOps, stepO, wants, fop, eop, Opd.ev, put, V.cells, plain, loadV, cut, isInt, isStr, isBool, bin, binInt, binStr_neq, binStr_eql, un, asList, L.view, viewArgs, V.view, viewL, finish, resultsOf, resultOf, comps, comp, giveLs, giveL, arrsOf, V.flat, L.flat, setV, setL, storeV, putAt, thaw, thawL, freezeVs, freezeLs, freezeL, V.mut, L.mut, elemPtr, viewRows, wp_seq, wp_block, wp_region, wp_cond, wp_skip, wp_exit, wp_ret, wp_end, wp_sqN, wp_sqR, wp_sqE, wp_bkN, wp_bkR, wp_bkE, Fin_ret, Fin_normal, sB, hlt, hrk, hlk, hi0, hi1, hwn, hlen, hw, hc', look]
      exact Kn.of [0, 1] (by decide) (by simp [relVs, relV, relLs, relL, relTs, relObs, relOb, L.ren]) (by simp [relVs, relV, relLs, relL, relTs, relObs, relOb, L.ren]))
    (fun k hk hp => by
      obtain ⟨hlt, he⟩ := at' hk
      rw [he] at hp
      obtain ⟨c0, c1, c2, c3, c4, c5, c6, N, hrk, hc, hlk, hi0, hi1, hwn, hkv⟩ := hB k hlt _ hp
      have hlen : (kvsN ws k).length < 9223372036854775806 := by rw [kvsN_len]; omega
      have hc' : ¬ c1 = 1 + N := by simpa using hc.symm
      refine Ends.stop (by simp) ?_
      generalize kvsN ws k = kv at hlk hlen
      simp [b_impl_WritesOnce_0, start, execOps, stepO, wants, fop, eop, Opd.ev, put, V.cells, plain, loadV, cut, isInt, isStr, isBool, bin, binInt, binStr_neq, binStr_eql, un, asList, L.view, viewArgs, V.view, viewL, finish, resultsOf, resultOf, comps, comp, giveLs, giveL, arrsOf, V.flat, L.flat, setV, setL, storeV, putAt, thaw, thawL, freezeVs, freezeLs, freezeL, V.mut, L.mut, elemPtr, viewRows, wp_seq, wp_block, wp_region, wp_cond, wp_skip, wp_exit, wp_ret, wp_end, wp_sqN, wp_sqR, wp_sqE, wp_bkN, wp_bkR, wp_bkE, Fin_ret, Fin_normal, sB, hlt, hrk, hlk, hi0, hi1, hwn, hlen, hc', look]
      exact Kn.of [] (by decide) (by simp [relVs, relV, relLs, relL, relTs, relObs, relOb, L.ren]) (by simp [relVs, relV, relLs, relL, relTs, relObs, relOb, L.ren]))
    (by
      refine Ends.stop (by simp) ?_
      simp [b_impl_WritesOnce_0, start, execOps, stepO, wants, fop, eop, Opd.ev, put, V.cells, plain, loadV, cut, isInt, isStr, isBool, bin, binInt, binStr_neq, binStr_eql, un, asList, L.view, viewArgs, V.view, viewL, finish, resultsOf, resultOf, comps, comp, giveLs, giveL, arrsOf, V.flat, L.flat, setV, setL, storeV, putAt, thaw, thawL, freezeVs, freezeLs, freezeL, V.mut, L.mut, elemPtr, viewRows, wp_seq, wp_block, wp_region, wp_cond, wp_skip, wp_exit, wp_ret, wp_end, wp_sqN, wp_sqR, wp_sqE, wp_bkN, wp_bkR, wp_bkE, Fin_ret, Fin_normal]
      exact Kn.of [0, 1] (by decide) (by simp [relVs, relV, relLs, relL, relTs, relObs, relOb, L.ren, sB]) (by simp [relVs, relV, relLs, relL, relTs, relObs, relOb, L.ren]))
  exact E
theorem iwo_1 (hl : ws.length ≤ 1048576) (hr : ∀ r ∈ ws, HasL t_WriteS r) (h3 : Has (.lst t_AppliedS) (.lst s3)) {q n : Int} :
    Ends (callL Ph extF) b_impl_WritesOnce_1 ⟨(.one .junk :: .one .junk :: .one .junk :: .one .junk :: .one (.ptr 0 0 0) :: .one (.mp 1) :: .one .junk :: .one .junk :: .one .junk :: .one .junk :: .one .junk :: vlst srv :: vint .i64 n :: vint .i64 q :: .one .junk :: .one .junk :: .one .junk :: .one .junk :: .one .junk :: .one .junk :: .one .junk :: .one .junk :: .one .junk :: .one .junk :: .one .junk :: .one .junk :: .one .junk :: .one .junk :: .one .junk :: .one .junk :: .one .junk :: .one .junk :: .one .junk :: .one .junk :: .one .junk :: .one .junk :: .one .junk :: .one .junk :: .one .junk :: vlst s3 :: vint .i64 s3.length :: vint .i64 0 :: .one .junk :: .one .junk :: .one .junk :: .one .junk :: .one .junk :: .one .junk :: .one .junk :: .one .junk :: .one .junk :: .one .junk :: .one .junk :: .one .junk :: .one .junk :: .one .junk :: []), [sB s0 s1 s2 s3 ws, .imap (kvsN ws ws.length)]⟩ (cond (s3.any (badAp ws s3)) .ret (.exit 4)) (cond (s3.any (badAp ws s3)) ⟨(.one .junk :: .one .junk :: vbool false :: .one .junk :: .one .junk :: .one .junk :: .one .junk :: .one .junk :: .one .junk :: .one .junk :: .one .junk :: .one .junk :: .one .junk :: .one .junk :: .one .junk :: .one .junk :: .one .junk :: .one .junk :: .one .junk :: .one .junk :: .one .junk :: .one .junk :: .one .junk :: .one .junk :: .one .junk :: .one .junk :: .one .junk :: .one .junk :: .one .junk :: .one .junk :: .one .junk :: .one .junk :: .one .junk :: .one .junk :: .one .junk :: .one .junk :: .one .junk :: .one .junk :: .one .junk :: .one .junk :: .one .junk :: .one .junk :: .one .junk :: .one .junk :: .one .junk :: .one .junk :: .one .junk :: .one .junk :: .one .junk :: .one .junk :: .one .junk :: .one .junk :: .one .junk :: .one .junk :: .one .junk :: .one .junk :: []), []⟩ ⟨(.one .junk :: .one .junk :: .one .junk :: .one .junk :: .one .junk :: .one .junk :: .one .junk :: .one .junk :: .one .junk :: .one .junk :: .one .junk :: vlst srv :: vint .i64 n :: vint .i64 q :: .one .junk :: .one .junk :: .one .junk :: .one .junk :: .one .junk :: .one .junk :: .one .junk :: .one .junk :: .one .junk :: .one .junk :: .one .junk :: .one .junk :: .one .junk :: .one .junk :: .one .junk :: .one .junk :: .one .junk :: .one .junk :: .one .junk :: .one .junk :: .one .junk :: .one .junk :: .one .junk :: .one .junk :: .one .junk :: .one .junk :: .one .junk :: .one .junk :: .one .junk :: .one .junk :: .one .junk :: .one .junk :: .one .junk :: .one .junk :: .one .junk :: .one .junk :: .one .junk :: .one .junk :: .one .junk :: .one .junk :: .one .junk :: .one .junk :: []), []⟩) := by
  obtain ⟨hl3, hr3⟩ := Has_rows h3
  have hds : ∀ k (h : k < ws.length), ∃ d tl, ws[k] = .int .i64 d :: tl := fun k h => by
    obtain ⟨c0, c1, c2, c3, c4, c5, c6, hrk, _⟩ := write_cells (hr _ (List.getElem_mem h))
    exact ⟨_, _, hrk⟩
  have hlook : ∀ e, look (kvsN ws ws.length) e = (cntW e ws : Int) := fun e => by
    have := kvsN_look hds ws.length (Nat.le_refl _) e
    simpa using this
  generalize kvsN ws ws.length = kv at hlook
  have hB : ∀ k (hlt : k < s3.length) (b : Bool), badAp ws s3 s3[k] = b → ∃ c0 c1 N N', s3[k] = [.int .i64 c0, .int .i64 c1] ∧ (b = !(N' == N)) ∧ look kv c0 = N ∧ inR c0 = true ∧ callL Ph extF 148 [.agg [.pv (.str s0), .pv (.lst s1), .pv (.int .i64 s2), .pv (.lst s3), .pv (.lst ws)], vint .i64 c0] = some (vint .i64 N') := fun k hlt b hb => by
    obtain ⟨p0, r1, hp, g0, _⟩ := HasL_cons (hr3 _ (List.getElem_mem hlt))
    obtain ⟨c0, c1, hrk⟩ := applied_row (hr3 _ (List.getElem_mem hlt))
    refine ⟨c0, c1, (cntW c0 ws : Int), lastV c0 s3, hrk, ?_, hlook c0, ?_, impl_LastSeq_ok h3 c0⟩
    · rw [← hb, hrk]; rfl
    · rw [hrk] at hp
      cases hp
      exact inR_of (i64_range g0)
  have E := ends_any (call := callL Ph extF) tidyF (c := b_impl_WritesOnce_1) rfl (rows := s3) (p := badAp ws s3) (e := .exit 4) (er := .ret)
    (S := fun k => ⟨(.one .junk :: .one .junk :: .one .junk :: .one .junk :: .one (.ptr 0 0 0) :: .one (.mp 1) :: .one .junk :: .one .junk :: .one .junk :: .one .junk :: .one .junk :: vlst srv :: vint .i64 n :: vint .i64 q :: .one .junk :: .one .junk :: .one .junk :: .one .junk :: .one .junk :: .one .junk :: .one .junk :: .one .junk :: .one .junk :: .one .junk :: .one .junk :: .one .junk :: .one .junk :: .one .junk :: .one .junk :: .one .junk :: .one .junk :: .one .junk :: .one .junk :: .one .junk :: .one .junk :: .one .junk :: .one .junk :: .one .junk :: .one .junk :: vlst s3 :: vint .i64 s3.length :: vint .i64 k :: .one .junk :: .one .junk :: .one .junk :: .one .junk :: .one .junk :: .one .junk :: .one .junk :: .one .junk :: .one .junk :: .one .junk :: .one .junk :: .one .junk :: .one .junk :: .one .junk :: []), [sB s0 s1 s2 s3 ws, .imap kv]⟩)
    (R := ⟨(.one .junk :: .one .junk :: vbool false :: .one .junk :: .one .junk :: .one .junk :: .one .junk :: .one .junk :: .one .junk :: .one .junk :: .one .junk :: .one .junk :: .one .junk :: .one .junk :: .one .junk :: .one .junk :: .one .junk :: .one .junk :: .one .junk :: .one .junk :: .one .junk :: .one .junk :: .one .junk :: .one .junk :: .one .junk :: .one .junk :: .one .junk :: .one .junk :: .one .junk :: .one .junk :: .one .junk :: .one .junk :: .one .junk :: .one .junk :: .one .junk :: .one .junk :: .one .junk :: .one .junk :: .one .junk :: .one .junk :: .one .junk :: .one .junk :: .one .junk :: .one .junk :: .one .junk :: .one .junk :: .one .junk :: .one .junk :: .one .junk :: .one .junk :: .one .junk :: .one .junk :: .one .junk :: .one .junk :: .one .junk :: .one .junk :: []), []⟩) (σe := ⟨(.one .junk :: .one .junk :: .one .junk :: .one .junk :: .one .junk :: .one .junk :: .one .junk :: .one .junk :: .one .junk :: .one .junk :: .one .junk :: vlst srv :: vint .i64 n :: vint .i64 q :: .one .junk :: .one .junk :: .one .junk :: .one .junk :: .one .junk :: .one .junk :: .one .junk :: .one .junk :: .one .junk :: .one .junk :: .one .junk :: .one .junk :: .one .junk :: .one .junk :: .one .junk :: .one .junk :: .one .junk :: .one .junk :: .one .junk :: .one .junk :: .one .junk :: .one .junk :: .one .junk :: .one .junk :: .one .junk :: .one .junk :: .one .junk :: .one .junk :: .one .junk :: .one .junk :: .one .junk :: .one .junk :: .one .junk :: .one .junk :: .one .junk :: .one .junk :: .one .junk :: .one .junk :: .one .junk :: .one .junk :: .one .junk :: .one .junk :: []), []⟩)
    (fun k hlt hp => by
      have hw := wrap_small (k := k) (by unfold maxLen at hl3; omega)
      obtain ⟨c0, c1, N, N', hrk, hc, hlk, hi0, e1⟩ := hB k hlt _ hp
      have hc' : N' = N := by simpa using hc.symm
      refine Steps.of ?_
      simp [b_impl_WritesOnce_1, start, execOps, stepO, wants, fop, eop, Opd.ev, put, V.cells, plain, loadV, cut, isInt, isStr, isBool, bin, binInt, binStr_neq, binStr_eql, un, asList, L.view, viewArgs, V.view, viewL, finish, resultsOf, resultOf, comps, comp, giveLs, giveL, arrsOf, V.flat, L.flat, setV, setL, storeV, putAt, thaw, thawL, freezeVs, freezeLs, freezeL, V.mut, L.mut, elemPtr, viewRows, wp_seq, wp_block, wp_region, wp_cond, wp_skip, wp_exit, wp_ret, wp_end, wp_sqN, wp_sqR, wp_sqE, wp_bkN, wp_bkR, wp_bkE, Fin_ret, Fin_normal, sB, hlt, hrk, hlk, hi0, hw, hc', e1]
      exact Kn.of [0, 1] (by decide) (by simp [relVs, relV, relLs, relL, relTs, relObs, relOb, L.ren]) (by simp [relVs, relV, relLs, relL, relTs, relObs, relOb, L.ren]))
    (fun k hlt hp => by
      obtain ⟨c0, c1, N, N', hrk, hc, hlk, hi0, e1⟩ := hB k hlt _ hp
      have hc' : ¬ N = N' := fun x => absurd hc (by simp [x])
      refine Ends.stop (by simp) ?_
      simp [b_impl_WritesOnce_1, start, execOps, stepO, wants, fop, eop, Opd.ev, put, V.cells, plain, loadV, cut, isInt, isStr, isBool, bin, binInt, binStr_neq, binStr_eql, un, asList, L.view, viewArgs, V.view, viewL, finish, resultsOf, resultOf, comps, comp, giveLs, giveL, arrsOf, V.flat, L.flat, setV, setL, storeV, putAt, thaw, thawL, freezeVs, freezeLs, freezeL, V.mut, L.mut, elemPtr, viewRows, wp_seq, wp_block, wp_region, wp_cond, wp_skip, wp_exit, wp_ret, wp_end, wp_sqN, wp_sqR, wp_sqE, wp_bkN, wp_bkR, wp_bkE, Fin_ret, Fin_normal, sB, hlt, hrk, hlk, hi0, hc', e1]
      exact Kn.of [] (by decide) (by simp [relVs, relV, relLs, relL, relTs, relObs, relOb, L.ren]) (by simp [relVs, relV, relLs, relL, relTs, relObs, relOb, L.ren]))
    (by
      refine Ends.stop (by simp) ?_
      simp [b_impl_WritesOnce_1, start, execOps, stepO, wants, fop, eop, Opd.ev, put, V.cells, plain, loadV, cut, isInt, isStr, isBool, bin, binInt, binStr_neq, binStr_eql, un, asList, L.view, viewArgs, V.view, viewL, finish, resultsOf, resultOf, comps, comp, giveLs, giveL, arrsOf, V.flat, L.flat, setV, setL, storeV, putAt, thaw, thawL, freezeVs, freezeLs, freezeL, V.mut, L.mut, elemPtr, viewRows, wp_seq, wp_block, wp_region, wp_cond, wp_skip, wp_exit, wp_ret, wp_end, wp_sqN, wp_sqR, wp_sqE, wp_bkN, wp_bkR, wp_bkE, Fin_ret, Fin_normal]
      exact Kn.of [] (by decide) (by simp [relVs, relV, relLs, relL, relTs, relObs, relOb, L.ren, sB]) (by simp [relVs, relV, relLs, relL, relTs, relObs, relOb, L.ren]))
  exact E
end
theorem impl_WritesOnce_ok {c0 : Int} {c1 : Bool} {c2 : Int} {c3 c4 : List (List PV)} {c5 : Int} {c6 c7 c8 c9 : List (List PV)} (h9 : Has (.lst t_ServerS) (.lst c9)) (hz : sz (.lst c9) ≤ 1048576) : callL Ph extF 116 [.agg [.pv (.int .i64 c0), .pv (.bool c1), .pv (.int .i64 c2), .pv (.lst c3), .pv (.lst c4), .pv (.int .i64 c5), .pv (.lst c6), .pv (.lst c7), .pv (.lst c8), .pv (.lst c9)]] = some (vbool (!(c9.any badSrv))) := by
  obtain ⟨hl, hr⟩ := Has_rows h9
  have hsm : ∀ r ∈ c9, szL r ≤ 1048576 := fun r m => row_le m hz
  have hB : ∀ k (hlt : k < c9.length), ∃ s0 s1 s2 s3 s4, c9[k] = [.str s0, .lst s1, .int .i64 s2, .lst s3, .lst s4] ∧ Has (.lst t_AppliedS) (.lst s3) ∧ s4.length ≤ 1048576 ∧ (∀ r ∈ s4, HasL t_WriteS r) ∧ badSrv c9[k] = ((List.range s4.length).any (badAt s4) || s3.any (badAp s4 s3)) := fun k hlt => by
    obtain ⟨s0, s1, s2, s3, s4, hrk, g0, g1, g2, g3, g4⟩ := server_cells (hr _ (List.getElem_mem hlt))
    obtain ⟨hl4, hr4⟩ := Has_rows g4
    have h1 := hsm _ (List.getElem_mem hlt)
    rw [hrk] at h1
    refine ⟨s0, s1, s2, s3, s4, hrk, g3, ?_, hr4, by rw [hrk]; rfl⟩
    simp only [szL, sz] at h1
    omega
  have E := ends_any (call := callL Ph extF) tidyF (c := b_impl_WritesOnce_2) rfl (rows := c9) (p := badSrv) (e := .exit 0) (er := .ret)
    (S := fun k => ⟨(.one .junk :: .one .junk :: .one .junk :: .one .junk :: .one .junk :: .one .junk :: .one .junk :: .one .junk :: .one .junk :: .one .junk :: .one .junk :: vlst c9 :: vint .i64 c9.length :: vint .i64 k :: .one .junk :: .one .junk :: .one .junk :: .one .junk :: .one .junk :: .one .junk :: .one .junk :: .one .junk :: .one .junk :: .one .junk :: .one .junk :: .one .junk :: .one .junk :: .one .junk :: .one .junk :: .one .junk :: .one .junk :: .one .junk :: .one .junk :: .one .junk :: .one .junk :: .one .junk :: .one .junk :: .one .junk :: .one .junk :: .one .junk :: .one .junk :: .one .junk :: .one .junk :: .one .junk :: .one .junk :: .one .junk :: .one .junk :: .one .junk :: .one .junk :: .one .junk :: .one .junk :: .one .junk :: .one .junk :: .one .junk :: .one .junk :: .one .junk :: []), []⟩)
    (R := ⟨(.one .junk :: .one .junk :: vbool false :: .one .junk :: .one .junk :: .one .junk :: .one .junk :: .one .junk :: .one .junk :: .one .junk :: .one .junk :: .one .junk :: .one .junk :: .one .junk :: .one .junk :: .one .junk :: .one .junk :: .one .junk :: .one .junk :: .one .junk :: .one .junk :: .one .junk :: .one .junk :: .one .junk :: .one .junk :: .one .junk :: .one .junk :: .one .junk :: .one .junk :: .one .junk :: .one .junk :: .one .junk :: .one .junk :: .one .junk :: .one .junk :: .one .junk :: .one .junk :: .one .junk :: .one .junk :: .one .junk :: .one .junk :: .one .junk :: .one .junk :: .one .junk :: .one .junk :: .one .junk :: .one .junk :: .one .junk :: .one .junk :: .one .junk :: .one .junk :: .one .junk :: .one .junk :: .one .junk :: .one .junk :: .one .junk :: []), []⟩) (σe := ⟨(.one .junk :: .one .junk :: .one .junk :: .one .junk :: .one .junk :: .one .junk :: .one .junk :: .one .junk :: .one .junk :: .one .junk :: .one .junk :: .one .junk :: .one .junk :: .one .junk :: .one .junk :: .one .junk :: .one .junk :: .one .junk :: .one .junk :: .one .junk :: .one .junk :: .one .junk :: .one .junk :: .one .junk :: .one .junk :: .one .junk :: .one .junk :: .one .junk :: .one .junk :: .one .junk :: .one .junk :: .one .junk :: .one .junk :: .one .junk :: .one .junk :: .one .junk :: .one .junk :: .one .junk :: .one .junk :: .one .junk :: .one .junk :: .one .junk :: .one .junk :: .one .junk :: .one .junk :: .one .junk :: .one .junk :: .one .junk :: .one .junk :: .one .junk :: .one .junk :: .one .junk :: .one .junk :: .one .junk :: .one .junk :: .one .junk :: []), []⟩)
    (fun k hlt hp => by
      have hw := wrap_small (k := k) (by unfold maxLen at hl; omega)
      obtain ⟨s0, s1, s2, s3, s4, hrk, g3, hl4, hr4, hb⟩ := hB k hlt
      rw [hb, Bool.or_eq_false_iff] at hp
      have E1 := iwo_0 (srv := c9) (s0 := s0) (s1 := s1) (s2 := s2) (s3 := s3) (q := (k : Int)) (n := (c9.length : Int)) hl4 hr4
      have E3 := iwo_1 (srv := c9) (s0 := s0) (s1 := s1) (s2 := s2) (q := (k : Int)) (n := (c9.length : Int)) hl4 hr4 g3
      rw [hp.1] at E1
      rw [hp.2] at E3
      refine Steps.of ?_
      simp [b_impl_WritesOnce_2, start, execOps, stepO, wants, fop, eop, Opd.ev, put, V.cells, plain, loadV, cut, isInt, isStr, isBool, bin, binInt, binStr_neq, binStr_eql, un, asList, L.view, viewArgs, V.view, viewL, finish, resultsOf, resultOf, comps, comp, giveLs, giveL, arrsOf, V.flat, L.flat, setV, setL, storeV, putAt, thaw, thawL, freezeVs, freezeLs, freezeL, V.mut, L.mut, elemPtr, viewRows, wp_seq, wp_block, wp_region, wp_cond, wp_skip, wp_exit, wp_ret, wp_end, wp_sqN, wp_sqR, wp_sqE, wp_bkN, wp_bkR, wp_bkE, Fin_ret, Fin_normal, hlt, hrk]
      refine wp_loop tidyF Cl.kn rfl E1 ?_ ?_
      · exact Kn.of [0, 1] (by decide) (by simp [relVs, relV, relLs, relL, relTs, relObs, relOb, L.ren, sB]) (by simp [relVs, relV, relLs, relL, relTs, relObs, relOb, L.ren])
      simp [start, execOps, stepO, wants, fop, eop, Opd.ev, put, V.cells, plain, loadV, cut, isInt, isStr, isBool, bin, binInt, binStr_neq, binStr_eql, un, asList, L.view, viewArgs, V.view, viewL, finish, resultsOf, resultOf, comps, comp, giveLs, giveL, arrsOf, V.flat, L.flat, setV, setL, storeV, putAt, thaw, thawL, freezeVs, freezeLs, freezeL, V.mut, L.mut, elemPtr, viewRows, wp_seq, wp_block, wp_region, wp_cond, wp_skip, wp_exit, wp_ret, wp_end, wp_sqN, wp_sqR, wp_sqE, wp_bkN, wp_bkR, wp_bkE, Fin_ret, Fin_normal, sB]
      refine wp_loop tidyF Cl.kn rfl E3 ?_ ?_
      · exact Kn.of [0, 1] (by decide) (by simp [relVs, relV, relLs, relL, relTs, relObs, relOb, L.ren, sB]) (by simp [relVs, relV, relLs, relL, relTs, relObs, relOb, L.ren])
      simp [start, execOps, stepO, wants, fop, eop, Opd.ev, put, V.cells, plain, loadV, cut, isInt, isStr, isBool, bin, binInt, binStr_neq, binStr_eql, un, asList, L.view, viewArgs, V.view, viewL, finish, resultsOf, resultOf, comps, comp, giveLs, giveL, arrsOf, V.flat, L.flat, setV, setL, storeV, putAt, thaw, thawL, freezeVs, freezeLs, freezeL, V.mut, L.mut, elemPtr, viewRows, wp_seq, wp_block, wp_region, wp_cond, wp_skip, wp_exit, wp_ret, wp_end, wp_sqN, wp_sqR, wp_sqE, wp_bkN, wp_bkR, wp_bkE, Fin_ret, Fin_normal, hw]
      exact Kn.of [] (by decide) (by simp [relVs, relV, relLs, relL, relTs, relObs, relOb, L.ren]) (by simp [relVs, relV, relLs, relL, relTs, relObs, relOb, L.ren]))
    (fun k hlt hp => by
      obtain ⟨s0, s1, s2, s3, s4, hrk, g3, hl4, hr4, hb⟩ := hB k hlt
      rw [hb] at hp
      have E1 := iwo_0 (srv := c9) (s0 := s0) (s1 := s1) (s2 := s2) (s3 := s3) (q := (k : Int)) (n := (c9.length : Int)) hl4 hr4
      have E3 := iwo_1 (srv := c9) (s0 := s0) (s1 := s1) (s2 := s2) (q := (k : Int)) (n := (c9.length : Int)) hl4 hr4 g3
      refine Ends.stop (by simp) ?_
      simp [b_impl_WritesOnce_2, start, execOps, stepO, wants, fop, eop, Opd.ev, put, V.cells, plain, loadV, cut, isInt, isStr, isBool, bin, binInt, binStr_neq, binStr_eql, un, asList, L.view, viewArgs, V.view, viewL, finish, resultsOf, resultOf, comps, comp, giveLs, giveL, arrsOf, V.flat, L.flat, setV, setL, storeV, putAt, thaw, thawL, freezeVs, freezeLs, freezeL, V.mut, L.mut, elemPtr, viewRows, wp_seq, wp_block, wp_region, wp_cond, wp_skip, wp_exit, wp_ret, wp_end, wp_sqN, wp_sqR, wp_sqE, wp_bkN, wp_bkR, wp_bkE, Fin_ret, Fin_normal, hlt, hrk]
      refine wp_loop tidyF Cl.kn rfl E1 ?_ ?_
      · exact Kn.of [0, 1] (by decide) (by simp [relVs, relV, relLs, relL, relTs, relObs, relOb, L.ren, sB]) (by simp [relVs, relV, relLs, relL, relTs, relObs, relOb, L.ren])
      cases c : (List.range s4.length).any (badAt s4)
      · rw [c, Bool.false_or] at hp
        rw [hp] at E3
        simp [start, execOps, stepO, wants, fop, eop, Opd.ev, put, V.cells, plain, loadV, cut, isInt, isStr, isBool, bin, binInt, binStr_neq, binStr_eql, un, asList, L.view, viewArgs, V.view, viewL, finish, resultsOf, resultOf, comps, comp, giveLs, giveL, arrsOf, V.flat, L.flat, setV, setL, storeV, putAt, thaw, thawL, freezeVs, freezeLs, freezeL, V.mut, L.mut, elemPtr, viewRows, wp_seq, wp_block, wp_region, wp_cond, wp_skip, wp_exit, wp_ret, wp_end, wp_sqN, wp_sqR, wp_sqE, wp_bkN, wp_bkR, wp_bkE, Fin_ret, Fin_normal, sB]
        refine wp_loop tidyF Cl.kn rfl E3 ?_ ?_
        · exact Kn.of [0, 1] (by decide) (by simp [relVs, relV, relLs, relL, relTs, relObs, relOb, L.ren, sB]) (by simp [relVs, relV, relLs, relL, relTs, relObs, relOb, L.ren])
        simp [start, execOps, stepO, wants, fop, eop, Opd.ev, put, V.cells, plain, loadV, cut, isInt, isStr, isBool, bin, binInt, binStr_neq, binStr_eql, un, asList, L.view, viewArgs, V.view, viewL, finish, resultsOf, resultOf, comps, comp, giveLs, giveL, arrsOf, V.flat, L.flat, setV, setL, storeV, putAt, thaw, thawL, freezeVs, freezeLs, freezeL, V.mut, L.mut, elemPtr, viewRows, wp_seq, wp_block, wp_region, wp_cond, wp_skip, wp_exit, wp_ret, wp_end, wp_sqN, wp_sqR, wp_sqE, wp_bkN, wp_bkR, wp_bkE, Fin_ret, Fin_normal]
        exact Kn.of [] (by decide) (by simp [relVs, relV, relLs, relL, relTs, relObs, relOb, L.ren]) (by simp [relVs, relV, relLs, relL, relTs, relObs, relOb, L.ren])
      · simp [start, execOps, stepO, wants, fop, eop, Opd.ev, put, V.cells, plain, loadV, cut, isInt, isStr, isBool, bin, binInt, binStr_neq, binStr_eql, un, asList, L.view, viewArgs, V.view, viewL, finish, resultsOf, resultOf, comps, comp, giveLs, giveL, arrsOf, V.flat, L.flat, setV, setL, storeV, putAt, thaw, thawL, freezeVs, freezeLs, freezeL, V.mut, L.mut, elemPtr, viewRows, wp_seq, wp_block, wp_region, wp_cond, wp_skip, wp_exit, wp_ret, wp_end, wp_sqN, wp_sqR, wp_sqE, wp_bkN, wp_bkR, wp_bkE, Fin_ret, Fin_normal]
        exact Kn.of [] (by decide) (by simp [relVs, relV, relLs, relL, relTs, relObs, relOb, L.ren]) (by simp [relVs, relV, relLs, relL, relTs, relObs, relOb, L.ren]))
    (by
      refine Ends.stop (by simp) ?_
      simp [b_impl_WritesOnce_2, start, execOps, stepO, wants, fop, eop, Opd.ev, put, V.cells, plain, loadV, cut, isInt, isStr, isBool, bin, binInt, binStr_neq, binStr_eql, un, asList, L.view, viewArgs, V.view, viewL, finish, resultsOf, resultOf, comps, comp, giveLs, giveL, arrsOf, V.flat, L.flat, setV, setL, storeV, putAt, thaw, thawL, freezeVs, freezeLs, freezeL, V.mut, L.mut, elemPtr, viewRows, wp_seq, wp_block, wp_region, wp_cond, wp_skip, wp_exit, wp_ret, wp_end, wp_sqN, wp_sqR, wp_sqE, wp_bkN, wp_bkR, wp_bkE, Fin_ret, Fin_normal]
      exact Kn.of [] (by decide) (by simp [relVs, relV, relLs, relL, relTs, relObs, relOb, L.ren]) (by simp [relVs, relV, relLs, relL, relTs, relObs, relOb, L.ren]))
  refine callL_wp (fn := f_impl_WritesOnce) rfl ?_
  simp [f_impl_WritesOnce, start, execOps, stepO, wants, fop, eop, Opd.ev, put, V.cells, plain, loadV, cut, isInt, isStr, isBool, bin, binInt, binStr_neq, binStr_eql, un, asList, L.view, viewArgs, V.view, viewL, finish, resultsOf, resultOf, comps, comp, giveLs, giveL, arrsOf, V.flat, L.flat, setV, setL, storeV, putAt, thaw, thawL, freezeVs, freezeLs, freezeL, V.mut, L.mut, elemPtr, viewRows, wp_seq, wp_block, wp_region, wp_cond, wp_skip, wp_exit, wp_ret, wp_end, wp_sqN, wp_sqR, wp_sqE, wp_bkN, wp_bkR, wp_bkE, Fin_ret, Fin_normal]
  refine wp_loop tidyF Cl.fin rfl E ?_ ?_
  · exact Kn.of [] (by decide) (by simp [relVs, relV, relLs, relL, relTs, relObs, relOb, L.ren]) (by simp [relVs, relV, relLs, relL, relTs, relObs, relOb, L.ren])
  cases c9.any badSrv <;> simp [start, execOps, stepO, wants, fop, eop, Opd.ev, put, V.cells, plain, loadV, cut, isInt, isStr, isBool, bin, binInt, binStr_neq, binStr_eql, un, asList, L.view, viewArgs, V.view, viewL, finish, resultsOf, resultOf, comps, comp, giveLs, giveL, arrsOf, V.flat, L.flat, setV, setL, storeV, putAt, thaw, thawL, freezeVs, freezeLs, freezeL, V.mut, L.mut, elemPtr, viewRows, wp_seq, wp_block, wp_region, wp_cond, wp_skip, wp_exit, wp_ret, wp_end, wp_sqN, wp_sqR, wp_sqE, wp_bkN, wp_bkR, wp_bkE, Fin_ret, Fin_normal]
theorem law_WritesOnce {r0 : List PV} (h0 : HasL t_World r0) : callL Ph extF 98 [.agg (r0.map .pv)] = some (vbool true) := by
  obtain ⟨p0, r1, rfl, g0, k1⟩ := HasL_cons h0
  obtain ⟨p1, r2, rfl, g1, k2⟩ := HasL_cons k1
  obtain ⟨p2, r3, rfl, g2, k3⟩ := HasL_cons k2
  obtain ⟨p3, r4, rfl, g3, k4⟩ := HasL_cons k3
  obtain ⟨p4, r5, rfl, g4, k5⟩ := HasL_cons k4
  obtain ⟨p5, r6, rfl, g5, k6⟩ := HasL_cons k5
  obtain ⟨p6, r7, rfl, g6, k7⟩ := HasL_cons k6
  obtain ⟨p7, r8, rfl, g7, k8⟩ := HasL_cons k7
  obtain ⟨p8, r9, rfl, g8, k9⟩ := HasL_cons k8
  obtain ⟨p9, r10, rfl, g9, k10⟩ := HasL_cons k9
  obtain rfl := HasL_nil k10
  obtain ⟨c0, rfl⟩ := Has_int g0
  obtain ⟨c1, rfl⟩ := Has_bool g1
  obtain ⟨c2, rfl⟩ := Has_int g2
  obtain ⟨c3, rfl⟩ := Has_lst g3
  obtain ⟨c4, rfl⟩ := Has_lst g4
  obtain ⟨c5, rfl⟩ := Has_int g5
  obtain ⟨c6, rfl⟩ := Has_lst g6
  obtain ⟨c7, rfl⟩ := Has_lst g7
  obtain ⟨c8, rfl⟩ := Has_lst g8
  obtain ⟨c9, rfl⟩ := Has_lst g9
  show callL Ph extF 98 [.agg [.pv (.int .i64 c0), .pv (.bool c1), .pv (.int .i64 c2), .pv (.lst c3), .pv (.lst c4), .pv (.int .i64 c5), .pv (.lst c6), .pv (.lst c7), .pv (.lst c8), .pv (.lst c9)]] = _
  refine callL_fn (fn := f_laws_FnExactWritesOnce) rfl ?_
  have m0 : callL Ph extF 104 [.agg [.pv (.int .i64 c0), .pv (.bool c1), .pv (.int .i64 c2), .pv (.lst c3), .pv (.lst c4), .pv (.int .i64 c5), .pv (.lst c6), .pv (.lst c7), .pv (.lst c8), .pv (.lst c9)], vint .i64 1048576] = some (vint .i64 (less 1048576 (szL [.int .i64 c0, .bool c1, .int .i64 c2, .lst c3, .lst c4, .int .i64 c5, .lst c6, .lst c7, .lst c8, .lst c9]))) := szWorld_ok (ext := extF) h0 1048576 (by omega) (by omega)
  generalize q0 : less 1048576 (szL [.int .i64 c0, .bool c1, .int .i64 c2, .lst c3, .lst c4, .int .i64 c5, .lst c6, .lst c7, .lst c8, .lst c9]) = l0 at m0
  by_cases n0 : l0 < 0
  · simp [f_laws_FnExactWritesOnce, start, execL, exec, execOps, stepO, wants, fop, eop, Opd.ev, put, V.cells, plain, loadV, cut, isInt, isStr, isBool, bin, binInt, binStr_neq, binStr_eql, un, asList, L.view, viewArgs, V.view, viewL, done, finish, resultsOf, resultOf, comps, comp, giveLs, giveL, arrsOf, V.flat, L.flat, setV, setL, storeV, putAt, thaw, thawL, freezeVs, freezeLs, freezeL, V.mut, L.mut, elemPtr, viewRows, n0, m0]
  obtain ⟨le0, hz0⟩ := less_pos (by omega) q0 n0
  have hs0 : szL [.int .i64 c0, .bool c1, .int .i64 c2, .lst c3, .lst c4, .int .i64 c5, .lst c6, .lst c7, .lst c8, .lst c9] ≤ 1048576 := by omega
  have to0 := toWorld_ok (ext := extF) g0 g1 g2 g3 g4 g5 g6 g7 g8 g9 hs0
  have eq0 : callL Ph extF 108 [.agg [.pv (.int .i64 c0), .pv (.bool c1), .pv (.int .i64 c2), .pv (.lst c3), .pv (.lst c4), .pv (.int .i64 c5), .pv (.lst c6), .pv (.lst c7), .pv (.lst c8), .pv (.lst c9)], .agg [.pv (.int .i64 c0), .pv (.bool c1), .pv (.int .i64 c2), .pv (.lst c3), .pv (.lst c4), .pv (.int .i64 c5), .pv (.lst c6), .pv (.lst c7), .pv (.lst c8), .pv (.lst c9)]] = some (vbool true) := eqWorld_ok (ext := extF) h0
  have e2 := spec_WritesOnce_ok (c0 := c0) (c1 := c1) (c2 := c2) (c3 := c3) (c4 := c4) (c5 := c5) (c6 := c6) (c7 := c7) (c8 := c8) g9
  have e3 := impl_WritesOnce_ok (c0 := c0) (c1 := c1) (c2 := c2) (c3 := c3) (c4 := c4) (c5 := c5) (c6 := c6) (c7 := c7) (c8 := c8) g9 (by simp only [szL, sz] at hs0 ⊢; omega)
  simp [f_laws_FnExactWritesOnce, start, execL, exec, execOps, stepO, wants, fop, eop, Opd.ev, put, V.cells, plain, loadV, cut, isInt, isStr, isBool, bin, binInt, binStr_neq, binStr_eql, un, asList, L.view, viewArgs, V.view, viewL, done, finish, resultsOf, resultOf, comps, comp, giveLs, giveL, arrsOf, V.flat, L.flat, setV, setL, storeV, putAt, thaw, thawL, freezeVs, freezeLs, freezeL, V.mut, L.mut, elemPtr, viewRows, m0, n0, to0, eq0, e2, e3]
end Gi
