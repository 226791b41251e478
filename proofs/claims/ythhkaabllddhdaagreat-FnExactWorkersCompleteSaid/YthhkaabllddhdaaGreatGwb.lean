/- Small states at work, II: hashes of numbers and texts; what a file of a site holds. -/
import Derived.Test.YthhkaabllddhdaaGreatGwa
namespace Gi
open Go Go.RowKit
set_option linter.unusedSimpArgs false
set_option linter.unusedVariables false
set_option maxHeartbeats 4000000
set_option maxRecDepth 4000

theorem tmM (m : Int) : m.tmod 2147483647 = if 0 ≤ m then m % 2147483647 else -((-m) % 2147483647) := by
  split
  · rw [Int.tmod_eq_emod_of_nonneg (by omega)]
  · obtain ⟨n, rfl⟩ : ∃ n, m = -n := ⟨-m, by omega⟩
    rw [Int.neg_tmod, Int.tmod_eq_emod_of_nonneg (by omega), Int.neg_neg]
theorem foldl_take {α β : Type} {g : β → α → β} {a : β} {ns : List α} {k : Nat} (h : k < ns.length) : (ns.take (k + 1)).foldl g a = g ((ns.take k).foldl g a) ns[k] := by
  rw [List.take_succ_eq_append_getElem h, List.foldl_append]; rfl
theorem hwA (v : Int) : v.tmod 2147483647 < 0 → IntKind.i64.wrap (v.tmod 2147483647 + 2147483647) = v % 2147483647 := fun c => by
  have h := tmM v
  rw [IntKind.wrap_i64]; omega
theorem hwB (v : Int) : ¬ v.tmod 2147483647 < 0 → v.tmod 2147483647 = v % 2147483647 := fun c => by 
  have h := tmM v
  omega
theorem modG (v M q : Int) (hw : v.tmod M < 0 → IntKind.i64.wrap (v.tmod M + M) = q) (hw2 : ¬ v.tmod M < 0 → v.tmod M = q) (m1 : 1 ≤ M) (m2 : M ≤ 1000000000000) (m3 : ¬ M = 0) : callL Ph extF 358 [vint .i64 v, vint .i64 M] = some (vint .i64 q) := by
  have e1 := impl_InRange_ok M 1 1000000000000
  refine callL_wp (fn := f_impl_Mod) rfl ?_
  generalize hr : v.tmod M = r at hw hw2
  by_cases c : r < 0
  · have hw' := hw c
    simp [f_impl_Mod, start, execOps, stepO, wants, fop, eop, Opd.ev, put, V.cells, plain, loadV, cut, isInt, isStr, isBool, bin, binInt, binStr_neq, binStr_eql, un, asList, L.view, viewArgs, V.view, viewL, finish, resultsOf, resultOf, comps, comp, giveLs, giveL, arrsOf, V.flat, L.flat, setV, setL, storeV, putAt, thaw, thawL, freezeVs, freezeLs, freezeL, V.mut, L.mut, elemPtr, viewRows, wp_seq, wp_block, wp_region, wp_cond, wp_skip, wp_exit, wp_ret, wp_end, wp_sqN, wp_sqR, wp_sqE, wp_bkN, wp_bkR, wp_bkE, Fin_ret, Fin_normal, L.notArr, e1, m1, m2, m3, hr, c, hw']
  · have hw' := hw2 c
    subst hw'
    simp [f_impl_Mod, start, execOps, stepO, wants, fop, eop, Opd.ev, put, V.cells, plain, loadV, cut, isInt, isStr, isBool, bin, binInt, binStr_neq, binStr_eql, un, asList, L.view, viewArgs, V.view, viewL, finish, resultsOf, resultOf, comps, comp, giveLs, giveL, arrsOf, V.flat, L.flat, setV, setL, storeV, putAt, thaw, thawL, freezeVs, freezeLs, freezeL, V.mut, L.mut, elemPtr, viewRows, wp_seq, wp_block, wp_region, wp_cond, wp_skip, wp_exit, wp_ret, wp_end, wp_sqN, wp_sqR, wp_sqE, wp_bkN, wp_bkR, wp_bkE, Fin_ret, Fin_normal, L.notArr, e1, m1, m2, m3, hr, c]
theorem impl_ModM_ok (v : Int) : callL Ph extF 358 [vint .i64 v, vint .i64 2147483647] = some (vint .i64 (v % 2147483647)) := modG v _ _ (hwA v) (hwB v) (by omega) (by omega) (by omega)
theorem spec_ModM_ok (v : Int) : callL Ph extF 357 [vint .i64 v, vint .i64 2147483647] = some (vint .i64 (v % 2147483647)) := by
  have h := tmM v
  have hw : IntKind.i64.wrap (v.tmod 2147483647 + 2147483647) = v.tmod 2147483647 + 2147483647 := by rw [IntKind.wrap_i64]; omega
  have hm : (v.tmod 2147483647 + 2147483647).tmod 2147483647 = v % 2147483647 := by rw [tmM]; omega
  have m1 : (1 : Int) ≤ 2147483647 := by omega
  have m2 : (2147483647 : Int) ≤ 1000000000000 := by omega
  have m3 : ¬ (2147483647 : Int) = 0 := by omega
  clear h
  generalize v % 2147483647 = q at hm ⊢
  generalize (2147483647 : Int) = M at hw hm m1 m2 m3 ⊢
  have e1 := spec_l1In_ok M 1 1000000000000
  refine callL_wp (fn := f_spec_Mod) rfl ?_
  simp [f_spec_Mod, start, execOps, stepO, wants, fop, eop, Opd.ev, put, V.cells, plain, loadV, cut, isInt, isStr, isBool, bin, binInt, binStr_neq, binStr_eql, un, asList, L.view, viewArgs, V.view, viewL, finish, resultsOf, resultOf, comps, comp, giveLs, giveL, arrsOf, V.flat, L.flat, setV, setL, storeV, putAt, thaw, thawL, freezeVs, freezeLs, freezeL, V.mut, L.mut, elemPtr, viewRows, wp_seq, wp_block, wp_region, wp_cond, wp_skip, wp_exit, wp_ret, wp_end, wp_sqN, wp_sqR, wp_sqE, wp_bkN, wp_bkR, wp_bkE, Fin_ret, Fin_normal, L.notArr, e1, m1, m2, m3, hw, hm]

def hstep (acc v : Int) : Int := (acc * 1000003 + v % 2147483647 + 13) % 2147483647
def hashV (ns : List Int) : Int := ns.foldl hstep 11
theorem hash_range : ∀ (ns : List Int) (a : Int), 0 ≤ a → a < 2147483647 → 0 ≤ ns.foldl hstep a ∧ ns.foldl hstep a < 2147483647
  | [], a, h0, h1 => ⟨h0, h1⟩
  | n :: ns, a, h0, h1 => by
    refine hash_range ns (hstep a n) ?_ ?_ <;> (unfold hstep; omega)
theorem hashV_range (ns : List Int) : 0 ≤ hashV ns ∧ hashV ns < 2147483647 := hash_range ns 11 (by omega) (by omega)
theorem impl_Hash_ok {ns : List Int} (hl : ns.length ≤ maxLen) : callL Ph extF 348 [vlst (ns.map i1)] = some (vint .i64 (hashV ns)) := by
  have E := ends_count (call := callL Ph extF) tidyF (c := b_impl_Hash_0) rfl (n := ns.length) (e := .exit 0)
    (S := fun k => ⟨(.one .junk :: .one .junk :: .one .junk :: vint .i64 ((ns.take k).foldl hstep 11) :: .one .junk :: .one .junk :: vlst (ns.map i1) :: vint .i64 ns.length :: vint .i64 k :: .one .junk :: .one .junk :: .one .junk :: .one .junk :: .one .junk :: .one .junk :: .one .junk :: .one .junk :: .one .junk :: .one .junk :: .one .junk :: .one .junk :: []), []⟩)
    (σe := ⟨(.one .junk :: .one .junk :: .one .junk :: vint .i64 (hashV ns) :: .one .junk :: .one .junk :: .one .junk :: .one .junk :: .one .junk :: .one .junk :: .one .junk :: .one .junk :: .one .junk :: .one .junk :: .one .junk :: .one .junk :: .one .junk :: .one .junk :: .one .junk :: .one .junk :: .one .junk :: []), []⟩)
    (fun k hlt => by
      have hw := wrap_small (k := k) (by unfold maxLen at hl; omega)
      obtain ⟨r1, r2⟩ := hash_range (ns.take k) 11 (by omega) (by omega)
      have hf := foldl_take (g := hstep) (a := 11) hlt
      have e1 := impl_ModM_ok ns[k]
      refine Steps.of ?_
      rw [hf]
      generalize (ns.take k).foldl hstep 11 = A at r1 r2 ⊢
      unfold hstep
      have w1 : IntKind.i64.wrap (A * 1000003) = A * 1000003 := by rw [IntKind.wrap_i64]; omega
      have w2 : IntKind.i64.wrap (A * 1000003 + ns[k] % 2147483647) = A * 1000003 + ns[k] % 2147483647 := by rw [IntKind.wrap_i64]; omega
      have w3 : IntKind.i64.wrap (A * 1000003 + ns[k] % 2147483647 + 13) = A * 1000003 + ns[k] % 2147483647 + 13 := by rw [IntKind.wrap_i64]; omega
      have w4 : (A * 1000003 + ns[k] % 2147483647 + 13).tmod 2147483647 = (A * 1000003 + ns[k] % 2147483647 + 13) % 2147483647 := by rw [tmM]; omega
      simp [b_impl_Hash_0, start, execOps, stepO, wants, fop, eop, Opd.ev, put, V.cells, plain, loadV, cut, isInt, isStr, isBool, bin, binInt, binStr_neq, binStr_eql, un, asList, L.view, viewArgs, V.view, viewL, finish, resultsOf, resultOf, comps, comp, giveLs, giveL, arrsOf, V.flat, L.flat, setV, setL, storeV, putAt, thaw, thawL, freezeVs, freezeLs, freezeL, V.mut, L.mut, elemPtr, viewRows, wp_seq, wp_block, wp_region, wp_cond, wp_skip, wp_exit, wp_ret, wp_end, wp_sqN, wp_sqR, wp_sqE, wp_bkN, wp_bkR, wp_bkE, Fin_ret, Fin_normal, L.notArr, hlt, i1, hw, e1, w1, w2, w3, w4]
      exact Kn.of [] (by decide) trivial (by simp [relVs, relV, relLs, relL, relTs, relObs, relOb, L.ren]))
    (by
      refine Ends.stop (by simp) ?_
      simp [b_impl_Hash_0, start, execOps, stepO, wants, fop, eop, Opd.ev, put, V.cells, plain, loadV, cut, isInt, isStr, isBool, bin, binInt, binStr_neq, binStr_eql, un, asList, L.view, viewArgs, V.view, viewL, finish, resultsOf, resultOf, comps, comp, giveLs, giveL, arrsOf, V.flat, L.flat, setV, setL, storeV, putAt, thaw, thawL, freezeVs, freezeLs, freezeL, V.mut, L.mut, elemPtr, viewRows, wp_seq, wp_block, wp_region, wp_cond, wp_skip, wp_exit, wp_ret, wp_end, wp_sqN, wp_sqR, wp_sqE, wp_bkN, wp_bkR, wp_bkE, Fin_ret, Fin_normal, L.notArr]
      exact Kn.of [] (by decide) trivial (by simp [relVs, relV, relLs, relL, relTs, relObs, relOb, L.ren, hashV]))
  refine callL_wp (fn := f_impl_Hash) rfl ?_
  simp [f_impl_Hash, start, execOps, stepO, wants, fop, eop, Opd.ev, put, V.cells, plain, loadV, cut, isInt, isStr, isBool, bin, binInt, binStr_neq, binStr_eql, un, asList, L.view, viewArgs, V.view, viewL, finish, resultsOf, resultOf, comps, comp, giveLs, giveL, arrsOf, V.flat, L.flat, setV, setL, storeV, putAt, thaw, thawL, freezeVs, freezeLs, freezeL, V.mut, L.mut, elemPtr, viewRows, wp_seq, wp_block, wp_region, wp_cond, wp_skip, wp_exit, wp_ret, wp_end, wp_sqN, wp_sqR, wp_sqE, wp_bkN, wp_bkR, wp_bkE, Fin_ret, Fin_normal, L.notArr]
  refine wp_loop tidyF Cl.fin rfl E ?_ ?_
  · exact Kn.of [] (by decide) trivial (by simp [relVs, relV, relLs, relL, relTs, relObs, relOb, L.ren])
  simp [start, execOps, stepO, wants, fop, eop, Opd.ev, put, V.cells, plain, loadV, cut, isInt, isStr, isBool, bin, binInt, binStr_neq, binStr_eql, un, asList, L.view, viewArgs, V.view, viewL, finish, resultsOf, resultOf, comps, comp, giveLs, giveL, arrsOf, V.flat, L.flat, setV, setL, storeV, putAt, thaw, thawL, freezeVs, freezeLs, freezeL, V.mut, L.mut, elemPtr, viewRows, wp_seq, wp_block, wp_region, wp_cond, wp_skip, wp_exit, wp_ret, wp_end, wp_sqN, wp_sqR, wp_sqE, wp_bkN, wp_bkR, wp_bkE, Fin_ret, Fin_normal, L.notArr]
theorem spec_Hash_ok {ns : List Int} (hl : ns.length ≤ maxLen) : callL Ph extF 343 [vlst (ns.map i1)] = some (vint .i64 (hashV ns)) := by
  have E := ends_count (call := callL Ph extF) tidyF (c := b_spec_Hash_0) rfl (n := ns.length) (e := .exit 0)
    (S := fun k => ⟨(vlst (ns.map i1) :: .one .junk :: .one .junk :: vint .i64 ((ns.take k).foldl hstep 11) :: vint .i64 k :: .one .junk :: .one .junk :: .one .junk :: .one .junk :: .one .junk :: .one .junk :: .one .junk :: .one .junk :: .one .junk :: .one .junk :: .one .junk :: .one .junk :: .one .junk :: .one .junk :: .one .junk :: .one .junk :: .one .junk :: []), []⟩)
    (σe := ⟨(.one .junk :: .one .junk :: .one .junk :: vint .i64 (hashV ns) :: .one .junk :: .one .junk :: .one .junk :: .one .junk :: .one .junk :: .one .junk :: .one .junk :: .one .junk :: .one .junk :: .one .junk :: .one .junk :: .one .junk :: .one .junk :: .one .junk :: .one .junk :: .one .junk :: .one .junk :: .one .junk :: []), []⟩)
    (fun k hlt => by
      have hw := wrap_small (k := k) (by unfold maxLen at hl; omega)
      obtain ⟨r1, r2⟩ := hash_range (ns.take k) 11 (by omega) (by omega)
      have hf := foldl_take (g := hstep) (a := 11) hlt
      have e1 := spec_ModM_ok ns[k]
      refine Steps.of ?_
      rw [hf]
      generalize (ns.take k).foldl hstep 11 = A at r1 r2 ⊢
      unfold hstep
      have w1 : IntKind.i64.wrap (A * 1000003) = A * 1000003 := by rw [IntKind.wrap_i64]; omega
      have w2 : IntKind.i64.wrap (A * 1000003 + ns[k] % 2147483647) = A * 1000003 + ns[k] % 2147483647 := by rw [IntKind.wrap_i64]; omega
      have w3 : IntKind.i64.wrap (A * 1000003 + ns[k] % 2147483647 + 13) = A * 1000003 + ns[k] % 2147483647 + 13 := by rw [IntKind.wrap_i64]; omega
      have w4 : (A * 1000003 + ns[k] % 2147483647 + 13).tmod 2147483647 = (A * 1000003 + ns[k] % 2147483647 + 13) % 2147483647 := by rw [tmM]; omega
      simp [b_spec_Hash_0, start, execOps, stepO, wants, fop, eop, Opd.ev, put, V.cells, plain, loadV, cut, isInt, isStr, isBool, bin, binInt, binStr_neq, binStr_eql, un, asList, L.view, viewArgs, V.view, viewL, finish, resultsOf, resultOf, comps, comp, giveLs, giveL, arrsOf, V.flat, L.flat, setV, setL, storeV, putAt, thaw, thawL, freezeVs, freezeLs, freezeL, V.mut, L.mut, elemPtr, viewRows, wp_seq, wp_block, wp_region, wp_cond, wp_skip, wp_exit, wp_ret, wp_end, wp_sqN, wp_sqR, wp_sqE, wp_bkN, wp_bkR, wp_bkE, Fin_ret, Fin_normal, L.notArr, hlt, i1, hw, e1, w1, w2, w3, w4]
      exact Kn.of [] (by decide) trivial (by simp [relVs, relV, relLs, relL, relTs, relObs, relOb, L.ren]))
    (by
      refine Ends.stop (by simp) ?_
      simp [b_spec_Hash_0, start, execOps, stepO, wants, fop, eop, Opd.ev, put, V.cells, plain, loadV, cut, isInt, isStr, isBool, bin, binInt, binStr_neq, binStr_eql, un, asList, L.view, viewArgs, V.view, viewL, finish, resultsOf, resultOf, comps, comp, giveLs, giveL, arrsOf, V.flat, L.flat, setV, setL, storeV, putAt, thaw, thawL, freezeVs, freezeLs, freezeL, V.mut, L.mut, elemPtr, viewRows, wp_seq, wp_block, wp_region, wp_cond, wp_skip, wp_exit, wp_ret, wp_end, wp_sqN, wp_sqR, wp_sqE, wp_bkN, wp_bkR, wp_bkE, Fin_ret, Fin_normal, L.notArr]
      exact Kn.of [] (by decide) trivial (by simp [relVs, relV, relLs, relL, relTs, relObs, relOb, L.ren, hashV]))
  refine callL_wp (fn := f_spec_Hash) rfl ?_
  simp [f_spec_Hash, start, execOps, stepO, wants, fop, eop, Opd.ev, put, V.cells, plain, loadV, cut, isInt, isStr, isBool, bin, binInt, binStr_neq, binStr_eql, un, asList, L.view, viewArgs, V.view, viewL, finish, resultsOf, resultOf, comps, comp, giveLs, giveL, arrsOf, V.flat, L.flat, setV, setL, storeV, putAt, thaw, thawL, freezeVs, freezeLs, freezeL, V.mut, L.mut, elemPtr, viewRows, wp_seq, wp_block, wp_region, wp_cond, wp_skip, wp_exit, wp_ret, wp_end, wp_sqN, wp_sqR, wp_sqE, wp_bkN, wp_bkR, wp_bkE, Fin_ret, Fin_normal, L.notArr]
  refine wp_loop tidyF Cl.fin rfl E ?_ ?_
  · exact Kn.of [] (by decide) trivial (by simp [relVs, relV, relLs, relL, relTs, relObs, relOb, L.ren])
  simp [start, execOps, stepO, wants, fop, eop, Opd.ev, put, V.cells, plain, loadV, cut, isInt, isStr, isBool, bin, binInt, binStr_neq, binStr_eql, un, asList, L.view, viewArgs, V.view, viewL, finish, resultsOf, resultOf, comps, comp, giveLs, giveL, arrsOf, V.flat, L.flat, setV, setL, storeV, putAt, thaw, thawL, freezeVs, freezeLs, freezeL, V.mut, L.mut, elemPtr, viewRows, wp_seq, wp_block, wp_region, wp_cond, wp_skip, wp_exit, wp_ret, wp_end, wp_sqN, wp_sqR, wp_sqE, wp_bkN, wp_bkR, wp_bkE, Fin_ret, Fin_normal, L.notArr]
theorem i1_len (ns : List Int) : (ns.map i1).all (fun e => e.length == 1) = true := by simp [i1]
theorem impl_KeyedHash_ok (k : Int) {ns : List Int} (hl : ns.length ≤ 1000000000) : callL Ph extF 336 [vint .i64 k, vlst (ns.map i1)] = some (vint .i64 (hashV (k :: (ns ++ [k])))) := by
  have e1 := impl_Hash_ok (ns := k :: (ns ++ [k])) (by simp [maxLen]; omega)
  simp only [List.map_cons, List.map_append, List.map_nil, i1] at e1
  have h1 := i1_len ns
  have b1 : (1 + ns.length) * 8 ≤ 140737488355328 := by omega
  have b2 : 1 + ns.length ≤ 9223372036854775807 := by omega
  have b3 : (ns.length + 1 + 1) * 8 ≤ 140737488355328 := by omega
  have b4 : ns.length + 1 + 1 ≤ 9223372036854775807 := by omega
  refine callL_wp (fn := f_impl_KeyedHash) rfl ?_
  generalize hashV (k :: (ns ++ [k])) = H at e1 ⊢
  simp [f_impl_KeyedHash, start, execOps, stepO, wants, fop, eop, Opd.ev, put, V.cells, plain, loadV, cut, isInt, isStr, isBool, bin, binInt, binStr_neq, binStr_eql, un, asList, L.view, viewArgs, V.view, viewL, finish, resultsOf, resultOf, comps, comp, giveLs, giveL, arrsOf, V.flat, L.flat, setV, setL, storeV, putAt, thaw, thawL, freezeVs, freezeLs, freezeL, V.mut, L.mut, elemPtr, viewRows, wp_seq, wp_block, wp_region, wp_cond, wp_skip, wp_exit, wp_ret, wp_end, wp_sqN, wp_sqR, wp_sqE, wp_bkN, wp_bkR, wp_bkE, Fin_ret, Fin_normal, L.notArr, ↓h1, b1, b2, b3, b4, e1]
theorem spec_KeyedHash_ok (k : Int) {ns : List Int} (hl : ns.length ≤ 1000000000) : callL Ph extF 330 [vint .i64 k, vlst (ns.map i1)] = some (vint .i64 (hashV (k :: (ns ++ [k])))) := by
  have e1 := spec_Hash_ok (ns := k :: (ns ++ [k])) (by simp [maxLen]; omega)
  simp only [List.map_cons, List.map_append, List.map_nil, i1] at e1
  have h1 := i1_len ns
  have b1 : (1 + ns.length) * 8 ≤ 140737488355328 := by omega
  have b2 : 1 + ns.length ≤ 9223372036854775807 := by omega
  have b3 : (ns.length + 1 + 1) * 8 ≤ 140737488355328 := by omega
  have b4 : ns.length + 1 + 1 ≤ 9223372036854775807 := by omega
  refine callL_wp (fn := f_spec_KeyedHash) rfl ?_
  generalize hashV (k :: (ns ++ [k])) = H at e1 ⊢
  simp [f_spec_KeyedHash, start, execOps, stepO, wants, fop, eop, Opd.ev, put, V.cells, plain, loadV, cut, isInt, isStr, isBool, bin, binInt, binStr_neq, binStr_eql, un, asList, L.view, viewArgs, V.view, viewL, finish, resultsOf, resultOf, comps, comp, giveLs, giveL, arrsOf, V.flat, L.flat, setV, setL, storeV, putAt, thaw, thawL, freezeVs, freezeLs, freezeL, V.mut, L.mut, elemPtr, viewRows, wp_seq, wp_block, wp_region, wp_cond, wp_skip, wp_exit, wp_ret, wp_end, wp_sqN, wp_sqR, wp_sqE, wp_bkN, wp_bkR, wp_bkE, Fin_ret, Fin_normal, L.notArr, ↓h1, b1, b2, b3, b4, e1]

/-! ### texts as numbers -/
def bti (s : List UInt8) : List Int := (s.length : Int) :: s.map fun b => (b.toNat : Int)
def btk (s : List UInt8) (k : Nat) : List (List PV) := [.int .i64 (s.length : Nat)] :: ((s.take k).map fun b => [PV.int .i64 b.toNat])
theorem btk_succ {s : List UInt8} {k : Nat} (h : k < s.length) : btk s (k + 1) = btk s k ++ [[.int .i64 s[k].toNat]] := by
  unfold btk
  rw [List.take_succ_eq_append_getElem h, List.map_append]
  rfl
theorem btk_all (s : List UInt8) : btk s s.length = (bti s).map i1 := by simp [btk, bti, i1]
theorem btk_len {s : List UInt8} {k : Nat} (h : k ≤ s.length) : (btk s k).length = k + 1 := by simp [btk]; omega
theorem u8_i64 (b : UInt8) : IntKind.i64.wrap (b.toNat : Int) = (b.toNat : Int) := by
  have := b.toNat_lt
  rw [IntKind.wrap_i64]; omega
theorem ofBytes_at {s : List UInt8} {k : Nat} (h : k < s.length) : (ofBytes s)[k]? = some [.int .u8 s[k].toNat] := by simp [ofBytes, h]
theorem ofBytes_get {s : List UInt8} {k : Nat} (h : k < (ofBytes s).length) : (ofBytes s)[k] = [.int .u8 (s[k]'(by simpa [ofBytes] using h)).toNat] := by simp [ofBytes]
theorem ofBytes_length (s : List UInt8) : (ofBytes s).length = s.length := by simp [ofBytes]
theorem impl_BytesToInts_ok {s : List UInt8} (hl : s.length ≤ 1000000000) : callL Ph extF 349 [vlst (ofBytes s)] = some (.one (.own 1 ((bti s).map i1))) := by
  have E := ends_count (call := callL Ph extF) tidyF (c := b_impl_BytesToInts_0) rfl (n := s.length) (e := .exit 0)
    (S := fun k => ⟨(.one .junk :: .one .junk :: .one .junk :: .one (.arr 0) :: .one .junk :: .one .junk :: .one .junk :: .one .junk :: .one .junk :: vlst (ofBytes s) :: vint .i64 s.length :: vint .i64 k :: .one .junk :: .one .junk :: .one .junk :: .one .junk :: .one .junk :: .one .junk :: .one .junk :: .one .junk :: .one .junk :: .one .junk :: []), [.arr 1 (btk s k)]⟩)
    (σe := ⟨(.one .junk :: .one .junk :: .one .junk :: .one (.arr 0) :: .one .junk :: .one .junk :: .one .junk :: .one .junk :: .one .junk :: .one .junk :: .one .junk :: .one .junk :: .one .junk :: .one .junk :: .one .junk :: .one .junk :: .one .junk :: .one .junk :: .one .junk :: .one .junk :: .one .junk :: .one .junk :: []), [.arr 1 ((bti s).map i1)]⟩)
    (fun k hlt => by
      have hw := wrap_small (k := k) (by omega)
      have ha := ofBytes_at hlt
      have hu := u8_i64 s[k]
      have hb := btk_len (Nat.le_of_lt hlt)
      have b1 : (k + 1 + 1) * 8 ≤ 140737488355328 := by omega
      have b2 : k + 1 + 1 ≤ 9223372036854775807 := by omega
      refine Steps.of ?_
      rw [btk_succ hlt]
      generalize btk s k = B at hb
      simp [b_impl_BytesToInts_0, start, execOps, stepO, wants, fop, eop, Opd.ev, put, V.cells, plain, loadV, cut, isInt, isStr, isBool, bin, binInt, binStr_neq, binStr_eql, un, asList, L.view, viewArgs, V.view, viewL, finish, resultsOf, resultOf, comps, comp, giveLs, giveL, arrsOf, V.flat, L.flat, setV, setL, storeV, putAt, thaw, thawL, freezeVs, freezeLs, freezeL, V.mut, L.mut, elemPtr, viewRows, wp_seq, wp_block, wp_region, wp_cond, wp_skip, wp_exit, wp_ret, wp_end, wp_sqN, wp_sqR, wp_sqE, wp_bkN, wp_bkR, wp_bkE, Fin_ret, Fin_normal, L.notArr, hlt, ha, hw, hu, hb, b1, b2]
      exact Kn.of [2] (by decide) (by simp [relVs, relV, relLs, relL, relTs, relObs, relOb, L.ren]) (by simp [relVs, relV, relLs, relL, relTs, relObs, relOb, L.ren]))
    (by
      refine Ends.stop (by simp) ?_
      simp [b_impl_BytesToInts_0, start, execOps, stepO, wants, fop, eop, Opd.ev, put, V.cells, plain, loadV, cut, isInt, isStr, isBool, bin, binInt, binStr_neq, binStr_eql, un, asList, L.view, viewArgs, V.view, viewL, finish, resultsOf, resultOf, comps, comp, giveLs, giveL, arrsOf, V.flat, L.flat, setV, setL, storeV, putAt, thaw, thawL, freezeVs, freezeLs, freezeL, V.mut, L.mut, elemPtr, viewRows, wp_seq, wp_block, wp_region, wp_cond, wp_skip, wp_exit, wp_ret, wp_end, wp_sqN, wp_sqR, wp_sqE, wp_bkN, wp_bkR, wp_bkE, Fin_ret, Fin_normal, L.notArr, btk_all]
      exact Kn.of [0] (by decide) (by simp [relVs, relV, relLs, relL, relTs, relObs, relOb, L.ren]) (by simp [relVs, relV, relLs, relL, relTs, relObs, relOb, L.ren]))
  refine callL_wp (fn := f_impl_BytesToInts) rfl ?_
  simp [f_impl_BytesToInts, start, execOps, stepO, wants, fop, eop, Opd.ev, put, V.cells, plain, loadV, cut, isInt, isStr, isBool, bin, binInt, binStr_neq, binStr_eql, un, asList, L.view, viewArgs, V.view, viewL, finish, resultsOf, resultOf, comps, comp, giveLs, giveL, arrsOf, V.flat, L.flat, setV, setL, storeV, putAt, thaw, thawL, freezeVs, freezeLs, freezeL, V.mut, L.mut, elemPtr, viewRows, wp_seq, wp_block, wp_region, wp_cond, wp_skip, wp_exit, wp_ret, wp_end, wp_sqN, wp_sqR, wp_sqE, wp_bkN, wp_bkR, wp_bkE, Fin_ret, Fin_normal, L.notArr, ofBytes_length]
  refine wp_loop tidyF Cl.fin rfl E ?_ ?_
  · exact Kn.of [0] (by decide) (by simp [relVs, relV, relLs, relL, relTs, relObs, relOb, L.ren, btk]) (by simp [relVs, relV, relLs, relL, relTs, relObs, relOb, L.ren])
  simp [start, execOps, stepO, wants, fop, eop, Opd.ev, put, V.cells, plain, loadV, cut, isInt, isStr, isBool, bin, binInt, binStr_neq, binStr_eql, un, asList, L.view, viewArgs, V.view, viewL, finish, resultsOf, resultOf, comps, comp, giveLs, giveL, arrsOf, V.flat, L.flat, setV, setL, storeV, putAt, thaw, thawL, freezeVs, freezeLs, freezeL, V.mut, L.mut, elemPtr, viewRows, wp_seq, wp_block, wp_region, wp_cond, wp_skip, wp_exit, wp_ret, wp_end, wp_sqN, wp_sqR, wp_sqE, wp_bkN, wp_bkR, wp_bkE, Fin_ret, Fin_normal, L.notArr]
theorem spec_BytesToInts_ok {s : List UInt8} (hl : s.length ≤ 1000000000) : callL Ph extF 345 [vlst (ofBytes s)] = some (.one (.own 1 ((bti s).map i1))) := by
  have E := ends_count (call := callL Ph extF) tidyF (c := b_spec_BytesToInts_0) rfl (n := s.length) (e := .exit 0)
    (S := fun k => ⟨(vlst (ofBytes s) :: .one .junk :: .one .junk :: .one (.arr 0) :: vint .i64 k :: .one .junk :: .one .junk :: .one .junk :: .one .junk :: .one .junk :: .one .junk :: .one .junk :: .one .junk :: .one .junk :: .one .junk :: .one .junk :: .one .junk :: .one .junk :: .one .junk :: .one .junk :: .one .junk :: .one .junk :: .one .junk :: []), [.arr 1 (btk s k)]⟩)
    (σe := ⟨(.one .junk :: .one .junk :: .one .junk :: .one (.arr 0) :: .one .junk :: .one .junk :: .one .junk :: .one .junk :: .one .junk :: .one .junk :: .one .junk :: .one .junk :: .one .junk :: .one .junk :: .one .junk :: .one .junk :: .one .junk :: .one .junk :: .one .junk :: .one .junk :: .one .junk :: .one .junk :: .one .junk :: []), [.arr 1 ((bti s).map i1)]⟩)
    (fun k hlt => by
      have hw := wrap_small (k := k) (by omega)
      have ha := ofBytes_at hlt
      have hu := u8_i64 s[k]
      have hb := btk_len (Nat.le_of_lt hlt)
      have b1 : (k + 1 + 1) * 8 ≤ 140737488355328 := by omega
      have b2 : k + 1 + 1 ≤ 9223372036854775807 := by omega
      refine Steps.of ?_
      rw [btk_succ hlt]
      generalize btk s k = B at hb
      simp [b_spec_BytesToInts_0, start, execOps, stepO, wants, fop, eop, Opd.ev, put, V.cells, plain, loadV, cut, isInt, isStr, isBool, bin, binInt, binStr_neq, binStr_eql, un, asList, L.view, viewArgs, V.view, viewL, finish, resultsOf, resultOf, comps, comp, giveLs, giveL, arrsOf, V.flat, L.flat, setV, setL, storeV, putAt, thaw, thawL, freezeVs, freezeLs, freezeL, V.mut, L.mut, elemPtr, viewRows, wp_seq, wp_block, wp_region, wp_cond, wp_skip, wp_exit, wp_ret, wp_end, wp_sqN, wp_sqR, wp_sqE, wp_bkN, wp_bkR, wp_bkE, Fin_ret, Fin_normal, L.notArr, hlt, ha, hw, hu, hb, b1, b2, ofBytes_length, ofBytes_get]
      exact Kn.of [2] (by decide) (by simp [relVs, relV, relLs, relL, relTs, relObs, relOb, L.ren]) (by simp [relVs, relV, relLs, relL, relTs, relObs, relOb, L.ren]))
    (by
      refine Ends.stop (by simp) ?_
      simp [b_spec_BytesToInts_0, start, execOps, stepO, wants, fop, eop, Opd.ev, put, V.cells, plain, loadV, cut, isInt, isStr, isBool, bin, binInt, binStr_neq, binStr_eql, un, asList, L.view, viewArgs, V.view, viewL, finish, resultsOf, resultOf, comps, comp, giveLs, giveL, arrsOf, V.flat, L.flat, setV, setL, storeV, putAt, thaw, thawL, freezeVs, freezeLs, freezeL, V.mut, L.mut, elemPtr, viewRows, wp_seq, wp_block, wp_region, wp_cond, wp_skip, wp_exit, wp_ret, wp_end, wp_sqN, wp_sqR, wp_sqE, wp_bkN, wp_bkR, wp_bkE, Fin_ret, Fin_normal, L.notArr, btk_all, ofBytes_length]
      exact Kn.of [0] (by decide) (by simp [relVs, relV, relLs, relL, relTs, relObs, relOb, L.ren]) (by simp [relVs, relV, relLs, relL, relTs, relObs, relOb, L.ren]))
  refine callL_wp (fn := f_spec_BytesToInts) rfl ?_
  simp [f_spec_BytesToInts, start, execOps, stepO, wants, fop, eop, Opd.ev, put, V.cells, plain, loadV, cut, isInt, isStr, isBool, bin, binInt, binStr_neq, binStr_eql, un, asList, L.view, viewArgs, V.view, viewL, finish, resultsOf, resultOf, comps, comp, giveLs, giveL, arrsOf, V.flat, L.flat, setV, setL, storeV, putAt, thaw, thawL, freezeVs, freezeLs, freezeL, V.mut, L.mut, elemPtr, viewRows, wp_seq, wp_block, wp_region, wp_cond, wp_skip, wp_exit, wp_ret, wp_end, wp_sqN, wp_sqR, wp_sqE, wp_bkN, wp_bkR, wp_bkE, Fin_ret, Fin_normal, L.notArr, ofBytes_length]
  refine wp_loop tidyF Cl.fin rfl E ?_ ?_
  · exact Kn.of [0] (by decide) (by simp [relVs, relV, relLs, relL, relTs, relObs, relOb, L.ren, btk]) (by simp [relVs, relV, relLs, relL, relTs, relObs, relOb, L.ren])
  simp [start, execOps, stepO, wants, fop, eop, Opd.ev, put, V.cells, plain, loadV, cut, isInt, isStr, isBool, bin, binInt, binStr_neq, binStr_eql, un, asList, L.view, viewArgs, V.view, viewL, finish, resultsOf, resultOf, comps, comp, giveLs, giveL, arrsOf, V.flat, L.flat, setV, setL, storeV, putAt, thaw, thawL, freezeVs, freezeLs, freezeL, V.mut, L.mut, elemPtr, viewRows, wp_seq, wp_block, wp_region, wp_cond, wp_skip, wp_exit, wp_ret, wp_end, wp_sqN, wp_sqR, wp_sqE, wp_bkN, wp_bkR, wp_bkE, Fin_ret, Fin_normal, L.notArr]
/-- The number that is derived from a text. -/
def deriveV (k : Int) (s : List UInt8) : Int := if hashV (k :: (bti s ++ [k])) = 0 then 1 else hashV (k :: (bti s ++ [k]))
theorem impl_DeriveFromString_ok (k : Int) {s : List UInt8} (hl : s.length ≤ 900000000) : callL Ph extF 337 [vint .i64 k, vstr s] = some (vint .i64 (deriveV k s)) := by
  have e1 := impl_BytesToInts_ok (s := s) (by omega)
  have e2 := impl_KeyedHash_ok k (ns := bti s) (by simp [bti]; omega)
  refine callL_wp (fn := f_impl_DeriveFromString) rfl ?_
  unfold deriveV
  generalize hashV (k :: (bti s ++ [k])) = H at e2 ⊢
  generalize (bti s).map i1 = B at e1 e2
  by_cases c : H = 0
  · simp [f_impl_DeriveFromString, start, execOps, stepO, wants, fop, eop, Opd.ev, put, V.cells, plain, loadV, cut, isInt, isStr, isBool, bin, binInt, binStr_neq, binStr_eql, un, asList, L.view, viewArgs, V.view, viewL, finish, resultsOf, resultOf, comps, comp, giveLs, giveL, arrsOf, V.flat, L.flat, setV, setL, storeV, putAt, thaw, thawL, freezeVs, freezeLs, freezeL, V.mut, L.mut, elemPtr, viewRows, wp_seq, wp_block, wp_region, wp_cond, wp_skip, wp_exit, wp_ret, wp_end, wp_sqN, wp_sqR, wp_sqE, wp_bkN, wp_bkR, wp_bkE, Fin_ret, Fin_normal, L.notArr, e1, e2, c]
  · simp [f_impl_DeriveFromString, start, execOps, stepO, wants, fop, eop, Opd.ev, put, V.cells, plain, loadV, cut, isInt, isStr, isBool, bin, binInt, binStr_neq, binStr_eql, un, asList, L.view, viewArgs, V.view, viewL, finish, resultsOf, resultOf, comps, comp, giveLs, giveL, arrsOf, V.flat, L.flat, setV, setL, storeV, putAt, thaw, thawL, freezeVs, freezeLs, freezeL, V.mut, L.mut, elemPtr, viewRows, wp_seq, wp_block, wp_region, wp_cond, wp_skip, wp_exit, wp_ret, wp_end, wp_sqN, wp_sqR, wp_sqE, wp_bkN, wp_bkR, wp_bkE, Fin_ret, Fin_normal, L.notArr, e1, e2, c]
theorem spec_DeriveFromString_ok (k : Int) {s : List UInt8} (hl : s.length ≤ 900000000) : callL Ph extF 331 [vint .i64 k, vstr s] = some (vint .i64 (deriveV k s)) := by
  have e1 := spec_BytesToInts_ok (s := s) (by omega)
  have e2 := spec_KeyedHash_ok k (ns := bti s) (by simp [bti]; omega)
  have r := hashV_range (k :: (bti s ++ [k]))
  have e3 : callL Ph extF 344 [vint .i64 1, vint .i64 (hashV (k :: (bti s ++ [k])))] = some (vint .i64 (deriveV k s)) := by
    refine callL_wp (fn := f_spec_Max) rfl ?_
    unfold deriveV
    generalize hashV (k :: (bti s ++ [k])) = H at r ⊢
    by_cases c : 1 < H
    · have c' : ¬ H = 0 := by omega
      simp [f_spec_Max, start, execOps, stepO, wants, fop, eop, Opd.ev, put, V.cells, plain, loadV, cut, isInt, isStr, isBool, bin, binInt, binStr_neq, binStr_eql, un, asList, L.view, viewArgs, V.view, viewL, finish, resultsOf, resultOf, comps, comp, giveLs, giveL, arrsOf, V.flat, L.flat, setV, setL, storeV, putAt, thaw, thawL, freezeVs, freezeLs, freezeL, V.mut, L.mut, elemPtr, viewRows, wp_seq, wp_block, wp_region, wp_cond, wp_skip, wp_exit, wp_ret, wp_end, wp_sqN, wp_sqR, wp_sqE, wp_bkN, wp_bkR, wp_bkE, Fin_ret, Fin_normal, L.notArr, c, c']
    · by_cases c' : H = 0
      · simp [f_spec_Max, start, execOps, stepO, wants, fop, eop, Opd.ev, put, V.cells, plain, loadV, cut, isInt, isStr, isBool, bin, binInt, binStr_neq, binStr_eql, un, asList, L.view, viewArgs, V.view, viewL, finish, resultsOf, resultOf, comps, comp, giveLs, giveL, arrsOf, V.flat, L.flat, setV, setL, storeV, putAt, thaw, thawL, freezeVs, freezeLs, freezeL, V.mut, L.mut, elemPtr, viewRows, wp_seq, wp_block, wp_region, wp_cond, wp_skip, wp_exit, wp_ret, wp_end, wp_sqN, wp_sqR, wp_sqE, wp_bkN, wp_bkR, wp_bkE, Fin_ret, Fin_normal, L.notArr, c, c']
      · have c'' : H = 1 := by omega
        simp [f_spec_Max, start, execOps, stepO, wants, fop, eop, Opd.ev, put, V.cells, plain, loadV, cut, isInt, isStr, isBool, bin, binInt, binStr_neq, binStr_eql, un, asList, L.view, viewArgs, V.view, viewL, finish, resultsOf, resultOf, comps, comp, giveLs, giveL, arrsOf, V.flat, L.flat, setV, setL, storeV, putAt, thaw, thawL, freezeVs, freezeLs, freezeL, V.mut, L.mut, elemPtr, viewRows, wp_seq, wp_block, wp_region, wp_cond, wp_skip, wp_exit, wp_ret, wp_end, wp_sqN, wp_sqR, wp_sqE, wp_bkN, wp_bkR, wp_bkE, Fin_ret, Fin_normal, L.notArr, c'']
  refine callL_wp (fn := f_spec_DeriveFromString) rfl ?_
  generalize hashV (k :: (bti s ++ [k])) = H at e2 e3
  generalize (bti s).map i1 = B at e1 e2
  simp [f_spec_DeriveFromString, start, execOps, stepO, wants, fop, eop, Opd.ev, put, V.cells, plain, loadV, cut, isInt, isStr, isBool, bin, binInt, binStr_neq, binStr_eql, un, asList, L.view, viewArgs, V.view, viewL, finish, resultsOf, resultOf, comps, comp, giveLs, giveL, arrsOf, V.flat, L.flat, setV, setL, storeV, putAt, thaw, thawL, freezeVs, freezeLs, freezeL, V.mut, L.mut, elemPtr, viewRows, wp_seq, wp_block, wp_region, wp_cond, wp_skip, wp_exit, wp_ret, wp_end, wp_sqN, wp_sqR, wp_sqE, wp_bkN, wp_bkR, wp_bkE, Fin_ret, Fin_normal, L.notArr, e1, e2, e3]

/-! ### what a file holds -/
def byteAt (n i : Int) : Int := n.fdiv (2 ^ (min (8 * i).toNat IntKind.i64.bits)) % 256
def bodyR (n : Int) (k : Nat) : List (List PV) := (List.range k).map fun (j : Nat) => [.int .u8 (byteAt n (5 - (j : Int)))]
theorem bodyR_succ (n : Int) (k : Nat) : bodyR n (k + 1) = bodyR n k ++ [[.int .u8 (byteAt n (5 - (k : Int)))]] := by simp [bodyR, List.range_succ]
theorem bodyR_len (n : Int) (k : Nat) : (bodyR n k).length = k := by simp [bodyR]
def bodyB (n : Int) : List UInt8 := (List.range 6).map fun (j : Nat) => UInt8.ofNat (byteAt n (5 - (j : Int))).toNat
theorem byteAt_range (n i : Int) : 0 ≤ byteAt n i ∧ byteAt n i < 256 := by unfold byteAt; omega
theorem bodyR_all (n : Int) : bodyR n 6 = ofBytes (bodyB n) := by
  unfold bodyR bodyB ofBytes
  rw [List.map_map]
  refine List.map_congr_left fun j _ => ?_
  obtain ⟨h1, h2⟩ := byteAt_range n (5 - (j : Int))
  simp only [Function.comp, UInt8.toNat_ofNat']
  congr 2
  omega
/-- The number behind a file. -/
def fileN (nm path : List UInt8) (v : Int) : Int := hashV (IntKind.i64.wrap (1 + v) :: ([103, deriveV 107 nm, deriveV 109 path] ++ [IntKind.i64.wrap (1 + v)]))
theorem and255 {x : Int} (h0 : 0 ≤ x) (h1 : x ≤ 4611686018427387904) : IntKind.u8.wrap (IntKind.i64.wrap ((BitVec.ofInt IntKind.i64.bits x &&& BitVec.ofInt IntKind.i64.bits 255).toNat : Int)) = x % 256 := by
  have : ((BitVec.ofInt IntKind.i64.bits x &&& BitVec.ofInt IntKind.i64.bits 255).toNat : Int) = x % 256 := by
    obtain ⟨n, rfl⟩ := Int.eq_ofNat_of_zero_le h0
    rw [BitVec.toNat_and]
    have e1 : (BitVec.ofInt IntKind.i64.bits (n : Int)).toNat = n := by
      simp [IntKind.bits, BitVec.toNat_ofInt]; omega
    have e2 : (BitVec.ofInt IntKind.i64.bits 255).toNat = 2 ^ 8 - 1 := by decide
    rw [e1, e2, Nat.and_two_pow_sub_one_eq_mod]
    omega
  rw [this, IntKind.wrap_u8, IntKind.wrap_i64]
  omega
theorem fdiv_small {n : Int} (h0 : 0 ≤ n) (h1 : n < 2147483647) (m : Nat) : 0 ≤ n.fdiv (2 ^ m) ∧ n.fdiv (2 ^ m) < 2147483647 := by
  have hp : (0 : Int) < 2 ^ m := Int.pow_pos (by omega)
  rw [Int.fdiv_eq_ediv_of_nonneg _ (Int.le_of_lt hp)]
  exact ⟨Int.ediv_nonneg h0 (Int.le_of_lt hp), Int.lt_of_le_of_lt (Int.ediv_le_self _ h0) h1⟩
theorem impl_BodyOf_ok {nm path : List UInt8} {sv : Int} {fs : List (List PV)} {sh : Bool} {v : Int} (h1 : nm.length ≤ 900000000) (h2 : path.length ≤ 900000000) : callL Ph extF 320 [.agg [.pv (.str nm), .pv (.int .i64 sv), .pv (.lst fs), .pv (.bool sh)], vstr path, vint .i64 v] = some (.one (.own 1 (ofBytes (bodyB (fileN nm path v))))) := by
  have e1 := impl_DeriveFromString_ok 107 h1
  have e2 := impl_DeriveFromString_ok 109 h2
  have e3 := impl_KeyedHash_ok (IntKind.i64.wrap (1 + v)) (ns := [103, deriveV 107 nm, deriveV 109 path]) (by simp)
  simp only [List.map_cons, List.map_nil, i1] at e3
  have hr := hashV_range (IntKind.i64.wrap (1 + v) :: ([103, deriveV 107 nm, deriveV 109 path] ++ [IntKind.i64.wrap (1 + v)]))
  rw [← bodyR_all]
  change callL _ _ _ _ = some (vint .i64 (fileN nm path v)) at e3
  change 0 ≤ fileN nm path v ∧ fileN nm path v < 2147483647 at hr
  generalize fileN nm path v = H at e3 hr ⊢
  have E := ends_count (call := callL Ph extF) tidyF (c := b_impl_BodyOf_0) rfl (n := 6) (e := .exit 0)
    (S := fun k => ⟨(.one .junk :: .one .junk :: .one .junk :: .one .junk :: .one .junk :: .one .junk :: .one .junk :: vint .i64 H :: .one (.arr 0) :: vint .i64 (5 - (k : Int)) :: .one .junk :: .one .junk :: .one .junk :: .one .junk :: .one .junk :: .one .junk :: .one .junk :: .one .junk :: .one .junk :: .one .junk :: .one .junk :: .one .junk :: .one .junk :: .one .junk :: .one .junk :: .one .junk :: .one .junk :: .one .junk :: .one .junk :: .one .junk :: .one .junk :: .one .junk :: .one .junk :: []), [.arr 1 (bodyR H k)]⟩)
    (σe := ⟨(.one .junk :: .one .junk :: .one .junk :: .one .junk :: .one .junk :: .one .junk :: .one .junk :: .one .junk :: .one (.arr 0) :: .one .junk :: .one .junk :: .one .junk :: .one .junk :: .one .junk :: .one .junk :: .one .junk :: .one .junk :: .one .junk :: .one .junk :: .one .junk :: .one .junk :: .one .junk :: .one .junk :: .one .junk :: .one .junk :: .one .junk :: .one .junk :: .one .junk :: .one .junk :: .one .junk :: .one .junk :: .one .junk :: .one .junk :: []), [.arr 1 (bodyR H 6)]⟩)
    (fun k hlt => by
      have h5 : (0 : Int) ≤ 5 - (k : Int) := by omega
      have hw8 : IntKind.i64.wrap (8 * (5 - (k : Int))) = 8 * (5 - (k : Int)) := by rw [IntKind.wrap_i64]; omega
      have hw1 : IntKind.i64.wrap (5 - (k : Int) - 1) = 5 - (k : Int) - 1 := by rw [IntKind.wrap_i64]; omega
      have hZ : binShift .shr .i64 H (8 * (5 - (k : Int))) = some (vint .i64 (H.fdiv (2 ^ (min (8 * (5 - (k : Int))).toNat IntKind.i64.bits)))) := by
        unfold binShift
        rw [if_neg (by omega)]
      have hu : IntKind.u8.wrap (H.fdiv (2 ^ (min (8 * (5 - (k : Int))).toNat IntKind.i64.bits))) = byteAt H (5 - (k : Int)) := by rw [IntKind.wrap_u8]; rfl
      have hb := bodyR_len H k
      have b1 : k + 1 ≤ 140737488355328 := by omega
      have b2 : k + 1 ≤ 9223372036854775807 := by omega
      have hk1 : 5 - ((k : Int) + 1) = 5 - (k : Int) - 1 := by omega
      refine Steps.of ?_
      rw [bodyR_succ]
      generalize byteAt H (5 - (k : Int)) = Z at hu ⊢
      generalize H.fdiv _ = Y at hZ hu
      generalize bodyR H k = B at hb ⊢
      simp only [Int.natCast_add, Int.cast_ofNat_Int, hk1]
      generalize 5 - (k : Int) = i at h5 hw8 hw1 hZ ⊢
      simp [b_impl_BodyOf_0, start, execOps, stepO, wants, fop, eop, Opd.ev, put, V.cells, plain, loadV, cut, isInt, isStr, isBool, bin, binInt, binStr_neq, binStr_eql, un, asList, L.view, viewArgs, V.view, viewL, finish, resultsOf, resultOf, comps, comp, giveLs, giveL, arrsOf, V.flat, L.flat, setV, setL, storeV, putAt, thaw, thawL, freezeVs, freezeLs, freezeL, V.mut, L.mut, elemPtr, viewRows, wp_seq, wp_block, wp_region, wp_cond, wp_skip, wp_exit, wp_ret, wp_end, wp_sqN, wp_sqR, wp_sqE, wp_bkN, wp_bkR, wp_bkE, Fin_ret, Fin_normal, L.notArr, h5, hw8, hw1, hZ, hu, hb, b1, b2]
      exact Kn.of [2] (by decide) (by simp [relVs, relV, relLs, relL, relTs, relObs, relOb, L.ren]) (by simp [relVs, relV, relLs, relL, relTs, relObs, relOb, L.ren]))
    (by
      refine Ends.stop (by simp) ?_
      simp [b_impl_BodyOf_0, start, execOps, stepO, wants, fop, eop, Opd.ev, put, V.cells, plain, loadV, cut, isInt, isStr, isBool, bin, binInt, binStr_neq, binStr_eql, un, asList, L.view, viewArgs, V.view, viewL, finish, resultsOf, resultOf, comps, comp, giveLs, giveL, arrsOf, V.flat, L.flat, setV, setL, storeV, putAt, thaw, thawL, freezeVs, freezeLs, freezeL, V.mut, L.mut, elemPtr, viewRows, wp_seq, wp_block, wp_region, wp_cond, wp_skip, wp_exit, wp_ret, wp_end, wp_sqN, wp_sqR, wp_sqE, wp_bkN, wp_bkR, wp_bkE, Fin_ret, Fin_normal, L.notArr]
      exact Kn.of [0] (by decide) (by simp [relVs, relV, relLs, relL, relTs, relObs, relOb, L.ren]) (by simp [relVs, relV, relLs, relL, relTs, relObs, relOb, L.ren]))
  refine callL_wp (fn := f_impl_BodyOf) rfl ?_
  simp [f_impl_BodyOf, start, execOps, stepO, wants, fop, eop, Opd.ev, put, V.cells, plain, loadV, cut, isInt, isStr, isBool, bin, binInt, binStr_neq, binStr_eql, un, asList, L.view, viewArgs, V.view, viewL, finish, resultsOf, resultOf, comps, comp, giveLs, giveL, arrsOf, V.flat, L.flat, setV, setL, storeV, putAt, thaw, thawL, freezeVs, freezeLs, freezeL, V.mut, L.mut, elemPtr, viewRows, wp_seq, wp_block, wp_region, wp_cond, wp_skip, wp_exit, wp_ret, wp_end, wp_sqN, wp_sqR, wp_sqE, wp_bkN, wp_bkR, wp_bkE, Fin_ret, Fin_normal, L.notArr, e1, e2, e3]
  refine wp_loop tidyF Cl.fin rfl E ?_ ?_
  · exact Kn.of [2] (by decide) (by simp [relVs, relV, relLs, relL, relTs, relObs, relOb, L.ren, bodyR]) (by simp [relVs, relV, relLs, relL, relTs, relObs, relOb, L.ren])
  simp [start, execOps, stepO, wants, fop, eop, Opd.ev, put, V.cells, plain, loadV, cut, isInt, isStr, isBool, bin, binInt, binStr_neq, binStr_eql, un, asList, L.view, viewArgs, V.view, viewL, finish, resultsOf, resultOf, comps, comp, giveLs, giveL, arrsOf, V.flat, L.flat, setV, setL, storeV, putAt, thaw, thawL, freezeVs, freezeLs, freezeL, V.mut, L.mut, elemPtr, viewRows, wp_seq, wp_block, wp_region, wp_cond, wp_skip, wp_exit, wp_ret, wp_end, wp_sqN, wp_sqR, wp_sqE, wp_bkN, wp_bkR, wp_bkE, Fin_ret, Fin_normal, L.notArr]
theorem spec_BodyOf_ok {nm path : List UInt8} {sv : Int} {fs : List (List PV)} {sh : Bool} {v : Int} (h1 : nm.length ≤ 900000000) (h2 : path.length ≤ 900000000) : callL Ph extF 317 [.agg [.pv (.str nm), .pv (.int .i64 sv), .pv (.lst fs), .pv (.bool sh)], vstr path, vint .i64 v] = some (.one (.own 1 (ofBytes (bodyB (fileN nm path v))))) := by
  have e1 := spec_DeriveFromString_ok 107 h1
  have e2 := spec_DeriveFromString_ok 109 h2
  have e3 := spec_KeyedHash_ok (IntKind.i64.wrap (1 + v)) (ns := [103, deriveV 107 nm, deriveV 109 path]) (by simp)
  simp only [List.map_cons, List.map_nil, i1] at e3
  have hr := hashV_range (IntKind.i64.wrap (1 + v) :: ([103, deriveV 107 nm, deriveV 109 path] ++ [IntKind.i64.wrap (1 + v)]))
  rw [← bodyR_all]
  change callL _ _ _ _ = some (vint .i64 (fileN nm path v)) at e3
  change 0 ≤ fileN nm path v ∧ fileN nm path v < 2147483647 at hr
  generalize fileN nm path v = H at e3 hr ⊢
  have E := ends_count (call := callL Ph extF) tidyF (c := b_spec_BodyOf_0) rfl (n := 6) (e := .exit 0)
    (S := fun k => ⟨(.one .junk :: .one .junk :: .one .junk :: .one .junk :: .one .junk :: .one .junk :: .one .junk :: vint .i64 H :: .one (.arr 0) :: vint .i64 (5 - (k : Int)) :: .one .junk :: .one .junk :: .one .junk :: .one .junk :: .one .junk :: .one .junk :: .one .junk :: .one .junk :: .one .junk :: .one .junk :: .one .junk :: .one .junk :: .one .junk :: .one .junk :: .one .junk :: .one .junk :: .one .junk :: .one .junk :: .one .junk :: .one .junk :: .one .junk :: .one .junk :: .one .junk :: .one .junk :: []), [.arr 1 (bodyR H k)]⟩)
    (σe := ⟨(.one .junk :: .one .junk :: .one .junk :: .one .junk :: .one .junk :: .one .junk :: .one .junk :: .one .junk :: .one (.arr 0) :: .one .junk :: .one .junk :: .one .junk :: .one .junk :: .one .junk :: .one .junk :: .one .junk :: .one .junk :: .one .junk :: .one .junk :: .one .junk :: .one .junk :: .one .junk :: .one .junk :: .one .junk :: .one .junk :: .one .junk :: .one .junk :: .one .junk :: .one .junk :: .one .junk :: .one .junk :: .one .junk :: .one .junk :: .one .junk :: []), [.arr 1 (bodyR H 6)]⟩)
    (fun k hlt => by
      have h5 : (0 : Int) ≤ 5 - (k : Int) := by omega
      have hw8 : IntKind.i64.wrap (8 * (5 - (k : Int))) = 8 * (5 - (k : Int)) := by rw [IntKind.wrap_i64]; omega
      have hw1 : IntKind.i64.wrap (5 - (k : Int) - 1) = 5 - (k : Int) - 1 := by rw [IntKind.wrap_i64]; omega
      have hZ : binShift .shr .i64 H (8 * (5 - (k : Int))) = some (vint .i64 (H.fdiv (2 ^ (min (8 * (5 - (k : Int))).toNat IntKind.i64.bits)))) := by
        unfold binShift
        rw [if_neg (by omega)]
      obtain ⟨d1, d2⟩ := fdiv_small hr.1 hr.2 (min (8 * (5 - (k : Int))).toNat IntKind.i64.bits)
      have hu : IntKind.u8.wrap (IntKind.i64.wrap ((BitVec.ofInt IntKind.i64.bits (H.fdiv (2 ^ (min (8 * (5 - (k : Int))).toNat IntKind.i64.bits))) &&& BitVec.ofInt IntKind.i64.bits 255).toNat : Int)) = byteAt H (5 - (k : Int)) := and255 d1 (by omega)
      have hb := bodyR_len H k
      have b1 : k + 1 ≤ 140737488355328 := by omega
      have b2 : k + 1 ≤ 9223372036854775807 := by omega
      have hk1 : 5 - ((k : Int) + 1) = 5 - (k : Int) - 1 := by omega
      refine Steps.of ?_
      rw [bodyR_succ]
      generalize byteAt H (5 - (k : Int)) = Z at hu ⊢
      generalize H.fdiv _ = Y at hZ hu
      have hA : binInt .and .i64 Y 255 = some (vint .i64 (IntKind.i64.wrap ((BitVec.ofInt IntKind.i64.bits Y &&& BitVec.ofInt IntKind.i64.bits 255).toNat : Int))) := rfl
      generalize IntKind.i64.wrap ((BitVec.ofInt IntKind.i64.bits Y &&& BitVec.ofInt IntKind.i64.bits 255).toNat : Int) = X at hu hA
      generalize bodyR H k = B at hb ⊢
      simp only [Int.natCast_add, Int.cast_ofNat_Int, hk1]
      generalize 5 - (k : Int) = i at h5 hw8 hw1 hZ ⊢
      simp [b_spec_BodyOf_0, start, execOps, stepO, wants, fop, eop, Opd.ev, put, V.cells, plain, loadV, cut, isInt, isStr, isBool, bin, binInt, binStr_neq, binStr_eql, un, asList, L.view, viewArgs, V.view, viewL, finish, resultsOf, resultOf, comps, comp, giveLs, giveL, arrsOf, V.flat, L.flat, setV, setL, storeV, putAt, thaw, thawL, freezeVs, freezeLs, freezeL, V.mut, L.mut, elemPtr, viewRows, wp_seq, wp_block, wp_region, wp_cond, wp_skip, wp_exit, wp_ret, wp_end, wp_sqN, wp_sqR, wp_sqE, wp_bkN, wp_bkR, wp_bkE, Fin_ret, Fin_normal, L.notArr, h5, hw8, hw1, hZ, ↓hA, hu, hb, b1, b2]
      exact Kn.of [2] (by decide) (by simp [relVs, relV, relLs, relL, relTs, relObs, relOb, L.ren]) (by simp [relVs, relV, relLs, relL, relTs, relObs, relOb, L.ren]))
    (by
      refine Ends.stop (by simp) ?_
      simp [b_spec_BodyOf_0, start, execOps, stepO, wants, fop, eop, Opd.ev, put, V.cells, plain, loadV, cut, isInt, isStr, isBool, bin, binInt, binStr_neq, binStr_eql, un, asList, L.view, viewArgs, V.view, viewL, finish, resultsOf, resultOf, comps, comp, giveLs, giveL, arrsOf, V.flat, L.flat, setV, setL, storeV, putAt, thaw, thawL, freezeVs, freezeLs, freezeL, V.mut, L.mut, elemPtr, viewRows, wp_seq, wp_block, wp_region, wp_cond, wp_skip, wp_exit, wp_ret, wp_end, wp_sqN, wp_sqR, wp_sqE, wp_bkN, wp_bkR, wp_bkE, Fin_ret, Fin_normal, L.notArr]
      exact Kn.of [0] (by decide) (by simp [relVs, relV, relLs, relL, relTs, relObs, relOb, L.ren]) (by simp [relVs, relV, relLs, relL, relTs, relObs, relOb, L.ren]))
  refine callL_wp (fn := f_spec_BodyOf) rfl ?_
  simp [f_spec_BodyOf, start, execOps, stepO, wants, fop, eop, Opd.ev, put, V.cells, plain, loadV, cut, isInt, isStr, isBool, bin, binInt, binStr_neq, binStr_eql, un, asList, L.view, viewArgs, V.view, viewL, finish, resultsOf, resultOf, comps, comp, giveLs, giveL, arrsOf, V.flat, L.flat, setV, setL, storeV, putAt, thaw, thawL, freezeVs, freezeLs, freezeL, V.mut, L.mut, elemPtr, viewRows, wp_seq, wp_block, wp_region, wp_cond, wp_skip, wp_exit, wp_ret, wp_end, wp_sqN, wp_sqR, wp_sqE, wp_bkN, wp_bkR, wp_bkE, Fin_ret, Fin_normal, L.notArr, e1, e2, e3]
  refine wp_loop tidyF Cl.fin rfl E ?_ ?_
  · exact Kn.of [2] (by decide) (by simp [relVs, relV, relLs, relL, relTs, relObs, relOb, L.ren, bodyR]) (by simp [relVs, relV, relLs, relL, relTs, relObs, relOb, L.ren])
  simp [start, execOps, stepO, wants, fop, eop, Opd.ev, put, V.cells, plain, loadV, cut, isInt, isStr, isBool, bin, binInt, binStr_neq, binStr_eql, un, asList, L.view, viewArgs, V.view, viewL, finish, resultsOf, resultOf, comps, comp, giveLs, giveL, arrsOf, V.flat, L.flat, setV, setL, storeV, putAt, thaw, thawL, freezeVs, freezeLs, freezeL, V.mut, L.mut, elemPtr, viewRows, wp_seq, wp_block, wp_region, wp_cond, wp_skip, wp_exit, wp_ret, wp_end, wp_sqN, wp_sqR, wp_sqE, wp_bkN, wp_bkR, wp_bkE, Fin_ret, Fin_normal, L.notArr]
end Gi
