/- Small states at work, I: numbers in lists, hashes. -/
import Derived.Test.YthhkaabllddhdaaGreatGtw
import Derived.Test.YthhkaabllddhdaaGreatGso
namespace Gi
open Go Go.RowKit
set_option linter.unusedSimpArgs false
set_option linter.unusedVariables false
set_option maxHeartbeats 4000000
set_option maxRecDepth 4000

theorem tidyF : Tidy (callL Ph extF) := tidy_callL fun k as r h => by
  unfold extF at h
  split at h
  · split at h
    · cases h; rfl
    · cases h
  · split at h
    · split at h
      · cases h; rfl
      · cases h
    · cases h
  · cases h

theorem findI_none {p : List PV → Bool} : ∀ {rs : List (List PV)} {k : Nat}, (∀ j (hj : j < rs.length), p rs[j] = false) → findI p rs k = -1
  | [], _, _ => rfl
  | r :: rs, k, h => by
    have h0 : p r = false := h 0 (by simp)
    unfold findI
    rw [h0]
    exact findI_none fun j hj => h (j + 1) (by simp; omega)
theorem findI_first {p : List PV → Bool} : ∀ {rs : List (List PV)} {k j : Nat} (hj : j < rs.length), p rs[j] = true → (∀ i (hi : i < j), p (rs[i]'(by omega)) = false) → findI p rs k = ((k + j : Nat) : Int)
  | [], _, _, h, _, _ => by simp at h
  | r :: rs, k, 0, _, h, _ => by
    have h0 : p r = true := h
    unfold findI
    rw [h0]; rfl
  | r :: rs, k, j + 1, hj, h, hn => by
    have h0 : p r = false := hn 0 (by omega)
    unfold findI
    rw [h0, cond_false, findI_first (k := k + 1) (j := j) (by simpa using hj) h (fun i hi => hn (i + 1) (by omega))]
    congr 1; omega
theorem findI_any {p : List PV → Bool} : ∀ {rs : List (List PV)} {k : Nat}, decide (0 ≤ findI p rs k) = rs.any p
  | [], _ => rfl
  | r :: rs, k => by
    unfold findI
    rw [List.any_cons]
    cases p r with
    | true => simp
    | false => simpa using findI_any
/-- A loop that looks for an element of a list. -/
theorem ends_find {call : Nat → List V → Option V} (hc : Tidy call) {c : ACode} (hz : c.zOk = true) {rows : List (List PV)} {p : List PV → Bool} {S R : Nat → St} {σe : St} {e er : Ex} (st : ∀ k (hk : k < rows.length), p rows[k] = false → Steps call c (S k) (S (k + 1))) (le : ∀ k (hk : k < rows.length), p rows[k] = true → Ends call c (S k) er (R k)) (E : Ends call c (S rows.length) e σe) :
    (findI p rows 0 = -1 ∧ rows.any p = false ∧ Ends call c (S 0) e σe) ∨ ∃ j, ∃ hj : j < rows.length, findI p rows 0 = (j : Int) ∧ p rows[j] = true ∧ rows.any p = true ∧ Ends call c (S 0) er (R j) := by
  have at' : ∀ k (hk : k < rows.length), (match rows[k]? with | some r => p r | none => false) = p rows[k] := fun k hk => by simp [hk]
  rcases ends_scan hc hz (R := R) (fun k => match rows[k]? with | some r => p r | none => false) (fun k hk h => st k hk (by rw [← at' k hk]; exact h)) (fun k hk h => le k hk (by rw [← at' k hk]; exact h)) E with ⟨h1, h2⟩ | ⟨k, h1, h2, h4, h3⟩
  · refine .inl ⟨findI_none fun j hj => by rw [← at' j hj]; exact h1 j hj, ?_, h2⟩
    rw [List.any_eq_false]
    intro x hx
    obtain ⟨k, hk, rfl⟩ := List.mem_iff_getElem.1 hx
    have := h1 k hk
    rw [at' k hk] at this
    simp [this]
  · refine .inr ⟨k, h1, ?_, by rw [← at' k h1]; exact h2, ?_, h3⟩
    · have := findI_first (p := p) (k := 0) h1 (by rw [← at' k h1]; exact h2) (fun i hi => by rw [← at' i (by omega)]; exact h4 i hi)
      simpa using this
    · rw [List.any_eq_true]
      exact ⟨rows[k], List.getElem_mem h1, by rw [← at' k h1]; exact h2⟩

def i1 (n : Int) : List PV := [.int .i64 n]
/-! ### slices.Index, slices.Contains at numbers -/
def isN (x : Int) : List PV → Bool
  | [.int _ n] => x == n
  | _ => false
theorem sliceIndexInt_ok {ns : List Int} (hl : ns.length ≤ maxLen) (x : Int) : callL Ph extF 321 [vlst (ns.map i1), vint .i64 x] = some (vint .i64 (findI (isN x) (ns.map i1) 0)) := by
  refine callL_wp (fn := f_slices_Index_int_int) rfl ?_
  have E := ends_find (call := callL Ph extF) tidyF (c := b_slices_Index_int_int_0) rfl (rows := ns.map i1) (p := isN x) (e := .exit 0) (er := .ret)
    (S := fun k => ⟨(vlst (ns.map i1) :: vint .i64 x :: .one .junk :: .one .junk :: .one .junk :: .one .junk :: .one .junk :: vint .i64 ns.length :: vint .i64 k :: .one .junk :: .one .junk :: .one .junk :: .one .junk :: .one .junk :: .one .junk :: .one .junk :: .one .junk :: .one .junk :: .one .junk :: []), []⟩)
    (R := fun k => ⟨(.one .junk :: .one .junk :: .one .junk :: .one .junk :: vint .i64 k :: .one .junk :: .one .junk :: .one .junk :: .one .junk :: .one .junk :: .one .junk :: .one .junk :: .one .junk :: .one .junk :: .one .junk :: .one .junk :: .one .junk :: .one .junk :: .one .junk :: []), []⟩) (σe := ⟨(.one .junk :: .one .junk :: .one .junk :: .one .junk :: .one .junk :: .one .junk :: .one .junk :: .one .junk :: .one .junk :: .one .junk :: .one .junk :: .one .junk :: .one .junk :: .one .junk :: .one .junk :: .one .junk :: .one .junk :: .one .junk :: .one .junk :: []), []⟩)
    (fun k hk hp => by
      simp only [List.length_map] at hk
      have hw := wrap_small (k := k) (by unfold maxLen at hl; omega)
      have hq : (x == ns[k]) = false := by simpa [isN, i1] using hp
      refine Steps.of ?_
      simp [b_slices_Index_int_int_0, start, execOps, stepO, wants, fop, eop, Opd.ev, put, V.cells, plain, loadV, cut, isInt, isStr, isBool, bin, binInt, binStr_neq, binStr_eql, un, asList, L.view, viewArgs, V.view, viewL, finish, resultsOf, resultOf, comps, comp, giveLs, giveL, arrsOf, V.flat, L.flat, setV, setL, storeV, putAt, thaw, thawL, freezeVs, freezeLs, freezeL, V.mut, L.mut, elemPtr, viewRows, wp_seq, wp_block, wp_region, wp_cond, wp_skip, wp_exit, wp_ret, wp_end, wp_sqN, wp_sqR, wp_sqE, wp_bkN, wp_bkR, wp_bkE, Fin_ret, Fin_normal, hk, hw, i1, hq]
      exact Kn.of [] (by decide) trivial (by simp [relVs, relV, relLs, relL, relTs, relObs, relOb, L.ren]))
    (fun k hk hp => by
      simp only [List.length_map] at hk
      have hq : (x == ns[k]) = true := by simpa [isN, i1] using hp
      refine Ends.stop (by simp) ?_
      simp [b_slices_Index_int_int_0, start, execOps, stepO, wants, fop, eop, Opd.ev, put, V.cells, plain, loadV, cut, isInt, isStr, isBool, bin, binInt, binStr_neq, binStr_eql, un, asList, L.view, viewArgs, V.view, viewL, finish, resultsOf, resultOf, comps, comp, giveLs, giveL, arrsOf, V.flat, L.flat, setV, setL, storeV, putAt, thaw, thawL, freezeVs, freezeLs, freezeL, V.mut, L.mut, elemPtr, viewRows, wp_seq, wp_block, wp_region, wp_cond, wp_skip, wp_exit, wp_ret, wp_end, wp_sqN, wp_sqR, wp_sqE, wp_bkN, wp_bkR, wp_bkE, Fin_ret, Fin_normal, hk, i1, hq]
      exact Kn.of [] (by decide) trivial (by simp [relVs, relV, relLs, relL, relTs, relObs, relOb, L.ren]))
    (by
      refine Ends.stop (by simp) ?_
      simp [b_slices_Index_int_int_0, start, execOps, stepO, wants, fop, eop, Opd.ev, put, V.cells, plain, loadV, cut, isInt, isStr, isBool, bin, binInt, binStr_neq, binStr_eql, un, asList, L.view, viewArgs, V.view, viewL, finish, resultsOf, resultOf, comps, comp, giveLs, giveL, arrsOf, V.flat, L.flat, setV, setL, storeV, putAt, thaw, thawL, freezeVs, freezeLs, freezeL, V.mut, L.mut, elemPtr, viewRows, wp_seq, wp_block, wp_region, wp_cond, wp_skip, wp_exit, wp_ret, wp_end, wp_sqN, wp_sqR, wp_sqE, wp_bkN, wp_bkR, wp_bkE, Fin_ret, Fin_normal]
      exact Kn.of [] (by decide) trivial (by simp [relVs, relV, relLs, relL, relTs, relObs, relOb, L.ren]))
  simp [f_slices_Index_int_int, start, execOps, stepO, wants, fop, eop, Opd.ev, put, V.cells, plain, loadV, cut, isInt, isStr, isBool, bin, binInt, binStr_neq, binStr_eql, un, asList, L.view, viewArgs, V.view, viewL, finish, resultsOf, resultOf, comps, comp, giveLs, giveL, arrsOf, V.flat, L.flat, setV, setL, storeV, putAt, thaw, thawL, freezeVs, freezeLs, freezeL, V.mut, L.mut, elemPtr, viewRows, wp_seq, wp_block, wp_region, wp_cond, wp_skip, wp_exit, wp_ret, wp_end, wp_sqN, wp_sqR, wp_sqE, wp_bkN, wp_bkR, wp_bkE, Fin_ret, Fin_normal]
  rcases E with ⟨h1, _, E⟩ | ⟨j, hj, h1, _, _, E⟩
  · refine wp_loop tidyF Cl.fin rfl E (Kn.of [] (by decide) trivial (by simp [relVs, relV, relLs, relL, relTs, relObs, relOb, L.ren])) ?_
    simp [start, execOps, stepO, wants, fop, eop, Opd.ev, put, V.cells, plain, loadV, cut, isInt, isStr, isBool, bin, binInt, binStr_neq, binStr_eql, un, asList, L.view, viewArgs, V.view, viewL, finish, resultsOf, resultOf, comps, comp, giveLs, giveL, arrsOf, V.flat, L.flat, setV, setL, storeV, putAt, thaw, thawL, freezeVs, freezeLs, freezeL, V.mut, L.mut, elemPtr, viewRows, wp_seq, wp_block, wp_region, wp_cond, wp_skip, wp_exit, wp_ret, wp_end, wp_sqN, wp_sqR, wp_sqE, wp_bkN, wp_bkR, wp_bkE, Fin_ret, Fin_normal, h1]
  · refine wp_loop tidyF Cl.fin rfl E (Kn.of [] (by decide) trivial (by simp [relVs, relV, relLs, relL, relTs, relObs, relOb, L.ren])) ?_
    simp [start, execOps, stepO, wants, fop, eop, Opd.ev, put, V.cells, plain, loadV, cut, isInt, isStr, isBool, bin, binInt, binStr_neq, binStr_eql, un, asList, L.view, viewArgs, V.view, viewL, finish, resultsOf, resultOf, comps, comp, giveLs, giveL, arrsOf, V.flat, L.flat, setV, setL, storeV, putAt, thaw, thawL, freezeVs, freezeLs, freezeL, V.mut, L.mut, elemPtr, viewRows, wp_seq, wp_block, wp_region, wp_cond, wp_skip, wp_exit, wp_ret, wp_end, wp_sqN, wp_sqR, wp_sqE, wp_bkN, wp_bkR, wp_bkE, Fin_ret, Fin_normal, h1]
theorem sliceContainsInt_ok {ns : List Int} (hl : ns.length ≤ maxLen) (x : Int) : callL Ph extF 307 [vlst (ns.map i1), vint .i64 x] = some (vbool (ns.any (x == ·))) := by
  refine callL_wp (fn := f_slices_Contains_int_int) rfl ?_
  have e1 := sliceIndexInt_ok hl x
  have e2 : ns.any (x == ·) = decide (0 ≤ findI (isN x) (ns.map i1) 0) := by
    rw [findI_any, List.any_map]
    congr 1
  rw [e2]
  simp [f_slices_Contains_int_int, start, execOps, stepO, wants, fop, eop, Opd.ev, put, V.cells, plain, loadV, cut, isInt, isStr, isBool, bin, binInt, binStr_neq, binStr_eql, un, asList, L.view, viewArgs, V.view, viewL, finish, resultsOf, resultOf, comps, comp, giveLs, giveL, arrsOf, V.flat, L.flat, setV, setL, storeV, putAt, thaw, thawL, freezeVs, freezeLs, freezeL, V.mut, L.mut, elemPtr, viewRows, wp_seq, wp_block, wp_region, wp_cond, wp_skip, wp_exit, wp_ret, wp_end, wp_sqN, wp_sqR, wp_sqE, wp_bkN, wp_bkR, wp_bkE, Fin_ret, Fin_normal, e1]
end Gi
