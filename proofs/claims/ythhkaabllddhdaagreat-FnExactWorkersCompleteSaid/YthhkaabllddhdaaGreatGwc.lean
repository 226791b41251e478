/- What a cache answers; is a cache complete? -/
import Derived.Test.YthhkaabllddhdaaGreatGua2
import Derived.Test.YthhkaabllddhdaaGreatGwb
namespace Gi
open Go Go.RowKit
set_option linter.unusedSimpArgs false
set_option linter.unusedVariables false
set_option maxHeartbeats 4000000
set_option maxRecDepth 4000

/-! ### bytes -/
theorem byte_row {r : List PV} (h : HasL t_ByteS r) : ∃ b : UInt8, r = [.int .u8 b.toNat] := by
  obtain ⟨p0, r1, rfl, g0, k1⟩ := HasL_cons h
  obtain rfl := HasL_nil k1
  obtain ⟨c0, rfl⟩ := Has_int g0
  have hw := (g0.2 : (Lit.int .u8 c0).wf = true)
  simp [Lit.wf, IntKind.min, IntKind.max, IntKind.signed, IntKind.bits] at hw
  refine ⟨UInt8.ofNat c0.toNat, ?_⟩
  simp only [UInt8.toNat_ofNat']
  congr 2
  omega
theorem bytes_rows : ∀ {rows : List (List PV)}, (∀ r ∈ rows, HasL t_ByteS r) → ∃ s : List UInt8, rows = ofBytes s
  | [], _ => ⟨[], rfl⟩
  | r :: rows, h => by
    obtain ⟨s, rfl⟩ := bytes_rows (fun r m => h r (List.mem_cons_of_mem _ m))
    obtain ⟨b, rfl⟩ := byte_row (h r List.mem_cons_self)
    exact ⟨b :: s, rfl⟩
theorem bytesOf_of : ∀ (s : List UInt8), bytesOf (ofBytes s) = some s
  | [] => rfl
  | b :: s => by
    have ih := bytesOf_of s
    simp only [ofBytes, List.map_cons] at ih ⊢
    simp only [bytesOf, ih, Int.toNat_natCast, UInt8.ofNat_toNat]
theorem ofBytes_all (s : List UInt8) : (ofBytes s).all (fun e => e.length == 1) = true := by simp [ofBytes]
theorem beq_range {a b : List UInt8} (h : a.length = b.length) : (a == b) = !((List.range a.length).any fun k => !(((a.getD k 0).toNat : Int) == (b.getD k 0).toNat)) := by
  by_cases e : a = b
  · subst e; simp
  · have e1 : (a == b) = false := by simpa using e
    rw [e1]
    have : ((List.range a.length).any fun k => !(((a.getD k 0).toNat : Int) == (b.getD k 0).toNat)) = true := by
      refine Classical.byContradiction fun hn => e (List.ext_getElem h fun k h1 h2 => ?_)
      have hn' : ((List.range a.length).any fun k => !(((a.getD k 0).toNat : Int) == (b.getD k 0).toNat)) = false := by simpa using hn
      rw [List.any_eq_false] at hn'
      have := hn' k (List.mem_range.2 h1)
      simp [h1, h2] at this
      exact UInt8.toNat_inj.1 (by omega)
    rw [this]; rfl
theorem sliceEqualByte_ok {a b : List UInt8} (hl : a.length ≤ maxLen) : callL Ph extF 335 [vlst (ofBytes a), vlst (ofBytes b)] = some (vbool (a == b)) := by
  refine callL_wp (fn := f_slices_Equal_byte_byte) rfl ?_
  by_cases hn : a.length = b.length
  · have E := ends_any (call := callL Ph extF) tidyF (c := b_slices_Equal_byte_byte_0) rfl (rows := List.range a.length) (p := fun k => !(((a.getD k 0).toNat : Int) == (b.getD k 0).toNat)) (e := .exit 0) (er := .ret)
      (S := fun k => ⟨(vlst (ofBytes a) :: vlst (ofBytes b) :: .one .junk :: .one .junk :: .one .junk :: .one .junk :: .one .junk :: .one .junk :: .one .junk :: .one .junk :: .one .junk :: .one .junk :: vint .i64 a.length :: vint .i64 k :: .one .junk :: .one .junk :: .one .junk :: .one .junk :: .one .junk :: .one .junk :: .one .junk :: .one .junk :: .one .junk :: .one .junk :: .one .junk :: .one .junk :: []), []⟩)
      (R := ⟨(.one .junk :: .one .junk :: .one .junk :: .one .junk :: vbool false :: .one .junk :: .one .junk :: .one .junk :: .one .junk :: .one .junk :: .one .junk :: .one .junk :: .one .junk :: .one .junk :: .one .junk :: .one .junk :: .one .junk :: .one .junk :: .one .junk :: .one .junk :: .one .junk :: .one .junk :: .one .junk :: .one .junk :: .one .junk :: .one .junk :: []), []⟩) (σe := ⟨(.one .junk :: .one .junk :: .one .junk :: .one .junk :: .one .junk :: .one .junk :: .one .junk :: .one .junk :: .one .junk :: .one .junk :: .one .junk :: .one .junk :: .one .junk :: .one .junk :: .one .junk :: .one .junk :: .one .junk :: .one .junk :: .one .junk :: .one .junk :: .one .junk :: .one .junk :: .one .junk :: .one .junk :: .one .junk :: .one .junk :: []), []⟩)
      (fun k hk hp => by
        have hlt : k < a.length := by simpa using hk
        have hlt2 : k < b.length := by omega
        have hw := wrap_small (k := k) (by unfold maxLen at hl; omega)
        have hq0 : (a[k].toNat : Int) = (b[k].toNat : Int) := by simpa [hlt, hlt2] using hp
        have hq : a[k] = b[k] := UInt8.toNat_inj.1 (by omega)
        refine Steps.of ?_
        simp [b_slices_Equal_byte_byte_0, start, execOps, stepO, wants, fop, eop, Opd.ev, put, V.cells, plain, loadV, cut, isInt, isStr, isBool, bin, binInt, binStr_neq, binStr_eql, un, asList, L.view, viewArgs, V.view, viewL, finish, resultsOf, resultOf, comps, comp, giveLs, giveL, arrsOf, V.flat, L.flat, setV, setL, storeV, putAt, thaw, thawL, freezeVs, freezeLs, freezeL, V.mut, L.mut, elemPtr, viewRows, wp_seq, wp_block, wp_region, wp_cond, wp_skip, wp_exit, wp_ret, wp_end, wp_sqN, wp_sqR, wp_sqE, wp_bkN, wp_bkR, wp_bkE, Fin_ret, Fin_normal, L.notArr, hlt, hlt2, ofBytes_get, ofBytes_length, hw, hq]
        exact Kn.of [] (by decide) trivial (by simp [relVs, relV, relLs, relL, relTs, relObs, relOb, L.ren]))
      (fun k hk hp => by
        have hlt : k < a.length := by simpa using hk
        have hlt2 : k < b.length := by omega
        have hq0 : ¬ (a[k].toNat : Int) = (b[k].toNat : Int) := by simpa [hlt, hlt2] using hp
        have hq : ¬ a[k] = b[k] := fun e => hq0 (by rw [e])
        refine Ends.stop (by simp) ?_
        simp [b_slices_Equal_byte_byte_0, start, execOps, stepO, wants, fop, eop, Opd.ev, put, V.cells, plain, loadV, cut, isInt, isStr, isBool, bin, binInt, binStr_neq, binStr_eql, un, asList, L.view, viewArgs, V.view, viewL, finish, resultsOf, resultOf, comps, comp, giveLs, giveL, arrsOf, V.flat, L.flat, setV, setL, storeV, putAt, thaw, thawL, freezeVs, freezeLs, freezeL, V.mut, L.mut, elemPtr, viewRows, wp_seq, wp_block, wp_region, wp_cond, wp_skip, wp_exit, wp_ret, wp_end, wp_sqN, wp_sqR, wp_sqE, wp_bkN, wp_bkR, wp_bkE, Fin_ret, Fin_normal, L.notArr, hlt, hlt2, ofBytes_get, ofBytes_length, hq, hq0]
        exact Kn.of [] (by decide) trivial (by simp [relVs, relV, relLs, relL, relTs, relObs, relOb, L.ren]))
      (by
        refine Ends.stop (by simp) ?_
        simp [b_slices_Equal_byte_byte_0, start, execOps, stepO, wants, fop, eop, Opd.ev, put, V.cells, plain, loadV, cut, isInt, isStr, isBool, bin, binInt, binStr_neq, binStr_eql, un, asList, L.view, viewArgs, V.view, viewL, finish, resultsOf, resultOf, comps, comp, giveLs, giveL, arrsOf, V.flat, L.flat, setV, setL, storeV, putAt, thaw, thawL, freezeVs, freezeLs, freezeL, V.mut, L.mut, elemPtr, viewRows, wp_seq, wp_block, wp_region, wp_cond, wp_skip, wp_exit, wp_ret, wp_end, wp_sqN, wp_sqR, wp_sqE, wp_bkN, wp_bkR, wp_bkE, Fin_ret, Fin_normal, L.notArr]
        exact Kn.of [] (by decide) trivial (by simp [relVs, relV, relLs, relL, relTs, relObs, relOb, L.ren]))
    rw [beq_range hn]
    generalize ((List.range a.length).any fun k => !(((a.getD k 0).toNat : Int) == (b.getD k 0).toNat)) = B at E ⊢
    simp [f_slices_Equal_byte_byte, start, execOps, stepO, wants, fop, eop, Opd.ev, put, V.cells, plain, loadV, cut, isInt, isStr, isBool, bin, binInt, binStr_neq, binStr_eql, un, asList, L.view, viewArgs, V.view, viewL, finish, resultsOf, resultOf, comps, comp, giveLs, giveL, arrsOf, V.flat, L.flat, setV, setL, storeV, putAt, thaw, thawL, freezeVs, freezeLs, freezeL, V.mut, L.mut, elemPtr, viewRows, wp_seq, wp_block, wp_region, wp_cond, wp_skip, wp_exit, wp_ret, wp_end, wp_sqN, wp_sqR, wp_sqE, wp_bkN, wp_bkR, wp_bkE, Fin_ret, Fin_normal, L.notArr, ofBytes_length, hn]
    refine wp_loop tidyF Cl.fin rfl E ?_ ?_
    · exact Kn.of [] (by decide) trivial (by simp [relVs, relV, relLs, relL, relTs, relObs, relOb, L.ren, hn])
    cases B <;> simp [start, execOps, stepO, wants, fop, eop, Opd.ev, put, V.cells, plain, loadV, cut, isInt, isStr, isBool, bin, binInt, binStr_neq, binStr_eql, un, asList, L.view, viewArgs, V.view, viewL, finish, resultsOf, resultOf, comps, comp, giveLs, giveL, arrsOf, V.flat, L.flat, setV, setL, storeV, putAt, thaw, thawL, freezeVs, freezeLs, freezeL, V.mut, L.mut, elemPtr, viewRows, wp_seq, wp_block, wp_region, wp_cond, wp_skip, wp_exit, wp_ret, wp_end, wp_sqN, wp_sqR, wp_sqE, wp_bkN, wp_bkR, wp_bkE, Fin_ret, Fin_normal, L.notArr]
  · have e1 : (a == b) = false := by
      have : ¬ a = b := fun e => hn (by rw [e])
      simpa using this
    have hn' : ¬ (a.length : Int) = (b.length : Int) := by omega
    rw [e1]
    simp [f_slices_Equal_byte_byte, start, execOps, stepO, wants, fop, eop, Opd.ev, put, V.cells, plain, loadV, cut, isInt, isStr, isBool, bin, binInt, binStr_neq, binStr_eql, un, asList, L.view, viewArgs, V.view, viewL, finish, resultsOf, resultOf, comps, comp, giveLs, giveL, arrsOf, V.flat, L.flat, setV, setL, storeV, putAt, thaw, thawL, freezeVs, freezeLs, freezeL, V.mut, L.mut, elemPtr, viewRows, wp_seq, wp_block, wp_region, wp_cond, wp_skip, wp_exit, wp_ret, wp_end, wp_sqN, wp_sqR, wp_sqE, wp_bkN, wp_bkR, wp_bkE, Fin_ret, Fin_normal, L.notArr, ofBytes_length, hn']
theorem impl_EqualBytes_ok {a b : List UInt8} (hl : a.length ≤ maxLen) : callL Ph extF 319 [vlst (ofBytes a), vlst (ofBytes b)] = some (vbool (a == b)) := by
  have e1 := sliceEqualByte_ok (b := b) hl
  refine callL_wp (fn := f_impl_EqualBytes) rfl ?_
  simp [f_impl_EqualBytes, start, execOps, stepO, wants, fop, eop, Opd.ev, put, V.cells, plain, loadV, cut, isInt, isStr, isBool, bin, binInt, binStr_neq, binStr_eql, un, asList, L.view, viewArgs, V.view, viewL, finish, resultsOf, resultOf, comps, comp, giveLs, giveL, arrsOf, V.flat, L.flat, setV, setL, storeV, putAt, thaw, thawL, freezeVs, freezeLs, freezeL, V.mut, L.mut, elemPtr, viewRows, wp_seq, wp_block, wp_region, wp_cond, wp_skip, wp_exit, wp_ret, wp_end, wp_sqN, wp_sqR, wp_sqE, wp_bkN, wp_bkR, wp_bkE, Fin_ret, Fin_normal, L.notArr, e1]
theorem spec_EqualBytes_ok {a b : List UInt8} : callL Ph extF 316 [vlst (ofBytes a), vlst (ofBytes b)] = some (vbool (a == b)) := by
  refine callL_wp (fn := f_spec_EqualBytes) rfl ?_
  simp [f_spec_EqualBytes, start, execOps, stepO, wants, fop, eop, Opd.ev, put, V.cells, plain, loadV, cut, isInt, isStr, isBool, bin, binInt, binStr_neq, binStr_eql, un, asList, L.view, viewArgs, V.view, viewL, finish, resultsOf, resultOf, comps, comp, giveLs, giveL, arrsOf, V.flat, L.flat, setV, setL, storeV, putAt, thaw, thawL, freezeVs, freezeLs, freezeL, V.mut, L.mut, elemPtr, viewRows, wp_seq, wp_block, wp_region, wp_cond, wp_skip, wp_exit, wp_ret, wp_end, wp_sqN, wp_sqR, wp_sqE, wp_bkN, wp_bkR, wp_bkE, Fin_ret, Fin_normal, L.notArr, bytesOf_of]
theorem impl_copyBytesB_ok {a : List UInt8} (hl : a.length ≤ 1000000000) : callL Ph extF 261 [vlst (ofBytes a)] = some (.one (.own 1 (ofBytes a))) := by
  have h1 := ofBytes_all a
  have b1 : a.length ≤ 140737488355328 := by omega
  have b2 : a.length ≤ 9223372036854775807 := by omega
  refine callL_wp (fn := f_impl_copyBytes) rfl ?_
  simp [f_impl_copyBytes, start, execOps, stepO, wants, fop, eop, Opd.ev, put, V.cells, plain, loadV, cut, isInt, isStr, isBool, bin, binInt, binStr_neq, binStr_eql, un, asList, L.view, viewArgs, V.view, viewL, finish, resultsOf, resultOf, comps, comp, giveLs, giveL, arrsOf, V.flat, L.flat, setV, setL, storeV, putAt, thaw, thawL, freezeVs, freezeLs, freezeL, V.mut, L.mut, elemPtr, viewRows, wp_seq, wp_block, wp_region, wp_cond, wp_skip, wp_exit, wp_ret, wp_end, wp_sqN, wp_sqR, wp_sqE, wp_bkN, wp_bkR, wp_bkE, Fin_ret, Fin_normal, L.notArr, ↓h1, ofBytes_length, b1, b2]

/-! ### answers -/
theorem find_none {p : List PV → Bool} : ∀ {rs : List (List PV)} {k : Nat}, findI p rs k < 0 → rs.find? p = none
  | [], _, _ => rfl
  | r :: rs, k, h => by
    unfold findI at h
    cases hp : p r with
    | true => rw [hp] at h; simp only [cond_true] at h; omega
    | false => rw [hp] at h; rw [List.find?_cons, hp]; exact find_none h
theorem find_some {p : List PV → Bool} : ∀ {rs : List (List PV)} {k j : Nat} (hj : j < rs.length), findI p rs k = ((k + j : Nat) : Int) → rs.find? p = some rs[j]
  | [], _, _, hj, _ => by simp at hj
  | r :: rs, k, j, hj, h => by
    unfold findI at h
    cases hp : p r with
    | true =>
      rw [hp] at h
      simp only [cond_true] at h
      have : j = 0 := by omega
      subst this
      rw [List.find?_cons, hp]; rfl
    | false =>
      rw [hp] at h
      simp only [cond_false] at h
      rw [List.find?_cons, hp]
      cases j with
      | zero =>
        rcases findI_range p rs (k + 1) with h1 | ⟨i, h1, h2⟩
        · omega
        · omega
      | succ j => exact find_some (rs := rs) (k := k + 1) (j := j) (by simpa using hj) (by rw [h]; congr 1; omega)
def isE (s p : List UInt8) : List PV → Bool
  | .str a :: .str b :: _ => (a == s) && (b == p)
  | _ => false
def entriesOf : List PV → List (List PV)
  | [_, .lst es] => es
  | _ => []
def mcRow (caches : List (List PV)) (v : Int) (s p : List UInt8) : Option (List PV) :=
  match caches.find? (isC v) with
  | some c => (entriesOf c).find? (isE s p)
  | none => none
def mcV : Option (List PV) → V
  | some [_, _, .int _ a, .int _ b, .int _ c, .lst body, .bool d] => .tup [(true, [.pv (.int .i64 a), .pv (.int .i64 b), .pv (.int .i64 c), .own 1 body, .pv (.bool d)]), (false, [.pv (.bool true)])]
  | _ => .tup [(true, [.pv (.int .i64 4), .pv (.int .i64 0), .pv (.int .i64 0), .nil, .pv (.bool false)]), (false, [.pv (.bool false)])]
theorem impl_ErrorResponse_ok : callL Ph extF 332 [] = some (.agg [.pv (.int .i64 4), .pv (.int .i64 0), .pv (.int .i64 0), .nil, .pv (.bool false)]) := by
  refine callL_wp (fn := f_impl_ErrorResponse) rfl ?_
  simp [f_impl_ErrorResponse, start, execOps, stepO, wants, fop, eop, Opd.ev, put, V.cells, plain, loadV, cut, isInt, isStr, isBool, bin, binInt, binStr_neq, binStr_eql, un, asList, L.view, viewArgs, V.view, viewL, finish, resultsOf, resultOf, comps, comp, giveLs, giveL, arrsOf, V.flat, L.flat, setV, setL, storeV, putAt, thaw, thawL, freezeVs, freezeLs, freezeL, V.mut, L.mut, elemPtr, viewRows, wp_seq, wp_block, wp_region, wp_cond, wp_skip, wp_exit, wp_ret, wp_end, wp_sqN, wp_sqR, wp_sqE, wp_bkN, wp_bkR, wp_bkE, Fin_ret, Fin_normal, L.notArr, fillL]
theorem spec_ErrorResponse_ok : callL Ph extF 327 [] = some (.agg [.pv (.int .i64 4), .pv (.int .i64 0), .pv (.int .i64 0), .nil, .pv (.bool false)]) := by
  refine callL_wp (fn := f_spec_ErrorResponse) rfl ?_
  simp [f_spec_ErrorResponse, start, execOps, stepO, wants, fop, eop, Opd.ev, put, V.cells, plain, loadV, cut, isInt, isStr, isBool, bin, binInt, binStr_neq, binStr_eql, un, asList, L.view, viewArgs, V.view, viewL, finish, resultsOf, resultOf, comps, comp, giveLs, giveL, arrsOf, V.flat, L.flat, setV, setL, storeV, putAt, thaw, thawL, freezeVs, freezeLs, freezeL, V.mut, L.mut, elemPtr, viewRows, wp_seq, wp_block, wp_region, wp_cond, wp_skip, wp_exit, wp_ret, wp_end, wp_sqN, wp_sqR, wp_sqE, wp_bkN, wp_bkR, wp_bkE, Fin_ret, Fin_normal, L.notArr, fillL]
theorem impl_copyResponse_ok {a b c : Int} {s : List UInt8} {d : Bool} (hl : s.length ≤ 1000000000) : callL Ph extF 334 [.agg [.pv (.int .i64 a), .pv (.int .i64 b), .pv (.int .i64 c), .pv (.lst (ofBytes s)), .pv (.bool d)]] = some (.agg [.pv (.int .i64 a), .pv (.int .i64 b), .pv (.int .i64 c), .own 1 (ofBytes s), .pv (.bool d)]) := by
  have e1 := impl_copyBytesB_ok hl
  refine callL_wp (fn := f_impl_copyResponse) rfl ?_
  simp [f_impl_copyResponse, start, execOps, stepO, wants, fop, eop, Opd.ev, put, V.cells, plain, loadV, cut, isInt, isStr, isBool, bin, binInt, binStr_neq, binStr_eql, un, asList, L.view, viewArgs, V.view, viewL, finish, resultsOf, resultOf, comps, comp, giveLs, giveL, arrsOf, V.flat, L.flat, setV, setL, storeV, putAt, thaw, thawL, freezeVs, freezeLs, freezeL, V.mut, L.mut, elemPtr, viewRows, wp_seq, wp_block, wp_region, wp_cond, wp_skip, wp_exit, wp_ret, wp_end, wp_sqN, wp_sqR, wp_sqE, wp_bkN, wp_bkR, wp_bkE, Fin_ret, Fin_normal, L.notArr, e1]
theorem spec_l15Copy_ok {a b c : Int} {s : List UInt8} {d : Bool} (hl : s.length ≤ 1000000000) : callL Ph extF 329 [.agg [.pv (.int .i64 a), .pv (.int .i64 b), .pv (.int .i64 c), .pv (.lst (ofBytes s)), .pv (.bool d)]] = some (.agg [.pv (.int .i64 a), .pv (.int .i64 b), .pv (.int .i64 c), .own 1 (ofBytes s), .pv (.bool d)]) := by
  have h1 := ofBytes_all s
  have b1 : s.length ≤ 140737488355328 := by omega
  have b2 : s.length ≤ 9223372036854775807 := by omega
  refine callL_wp (fn := f_spec_l15Copy) rfl ?_
  simp [f_spec_l15Copy, start, execOps, stepO, wants, fop, eop, Opd.ev, put, V.cells, plain, loadV, cut, isInt, isStr, isBool, bin, binInt, binStr_neq, binStr_eql, un, asList, L.view, viewArgs, V.view, viewL, finish, resultsOf, resultOf, comps, comp, giveLs, giveL, arrsOf, V.flat, L.flat, setV, setL, storeV, putAt, thaw, thawL, freezeVs, freezeLs, freezeL, V.mut, L.mut, elemPtr, viewRows, wp_seq, wp_block, wp_region, wp_cond, wp_skip, wp_exit, wp_ret, wp_end, wp_sqN, wp_sqR, wp_sqE, wp_bkN, wp_bkR, wp_bkE, Fin_ret, Fin_normal, L.notArr, ↓h1, ofBytes_length, b1, b2]
theorem impl_entryAt_ok {n : Int} {es : List (List PV)} (h : Has (.lst t_CachedS) (.lst es)) (s p : List UInt8) : callL Ph extF 333 [.agg [.pv (.int .i64 n), .pv (.lst es)], vstr s, vstr p] = some (vint .i64 (findI (isE s p) es 0)) := by
  obtain ⟨hl, hr⟩ := Has_rows h
  have e1 : callL Ph extF 346 [vlst es, .one (.fn 347 [[.str s], [.str p]])] = some (vint .i64 (findI (isE s p) es 0)) :=
    ixF_ok (z := 7) rfl hl (fun r m => HasL_len (hr r m)) (fun r m => by
      obtain ⟨c0, c1, c2, c3, c4, c5, c6, rfl, _⟩ := cached_cells (hr r m)
      refine callL_wp (fn := f_impl_entryAt_1) rfl ?_
      cases q1 : (c0 == s) <;> simp [f_impl_entryAt_1, start, execOps, stepO, wants, fop, eop, Opd.ev, put, V.cells, plain, loadV, cut, isInt, isStr, isBool, bin, binInt, binStr_neq, binStr_eql, un, asList, L.view, viewArgs, V.view, viewL, finish, resultsOf, resultOf, comps, comp, giveLs, giveL, arrsOf, V.flat, L.flat, setV, setL, storeV, putAt, thaw, thawL, freezeVs, freezeLs, freezeL, V.mut, L.mut, elemPtr, viewRows, wp_seq, wp_block, wp_region, wp_cond, wp_skip, wp_exit, wp_ret, wp_end, wp_sqN, wp_sqR, wp_sqE, wp_bkN, wp_bkR, wp_bkE, Fin_ret, Fin_normal, L.notArr, capV, isE, q1])
  refine callL_wp (fn := f_impl_entryAt) rfl ?_
  simp [f_impl_entryAt, start, execOps, stepO, wants, fop, eop, Opd.ev, put, V.cells, plain, loadV, cut, isInt, isStr, isBool, bin, binInt, binStr_neq, binStr_eql, un, asList, L.view, viewArgs, V.view, viewL, finish, resultsOf, resultOf, comps, comp, giveLs, giveL, arrsOf, V.flat, L.flat, setV, setL, storeV, putAt, thaw, thawL, freezeVs, freezeLs, freezeL, V.mut, L.mut, elemPtr, viewRows, wp_seq, wp_block, wp_region, wp_cond, wp_skip, wp_exit, wp_ret, wp_end, wp_sqN, wp_sqR, wp_sqE, wp_bkN, wp_bkR, wp_bkE, Fin_ret, Fin_normal, L.notArr, capsOf, capOf, e1]
theorem spec_l17Find_ok {n : Int} {es : List (List PV)} (h : Has (.lst t_CachedS) (.lst es)) (s p : List UInt8) : callL Ph extF 328 [.agg [.pv (.int .i64 n), .pv (.lst es)], vstr s, vstr p] = some (vint .i64 (findI (isE s p) es 0)) := by
  obtain ⟨hl, hr⟩ := Has_rows h
  have hB : ∀ k (hlt : k < es.length), ∃ c0 c1 c2 c3 c4 c5 c6, es[k] = [.str c0, .str c1, .int .i64 c2, .int .i64 c3, .int .i64 c4, .lst c5, .bool c6] ∧ isE s p es[k] = ((c0 == s) && (c1 == p)) := fun k hlt => by
    obtain ⟨c0, c1, c2, c3, c4, c5, c6, hrk, _⟩ := cached_cells (hr _ (List.getElem_mem hlt))
    exact ⟨c0, c1, c2, c3, c4, c5, c6, hrk, by rw [hrk]; rfl⟩
  have E := ends_find (call := callL Ph extF) tidyF (c := b_spec_l17Find_0) rfl (rows := es) (p := isE s p) (e := .exit 0) (er := .ret)
    (S := fun k => ⟨(.one .junk :: vstr s :: vstr p :: .one (.ptr 0 0 0) :: .one .junk :: .one .junk :: .one .junk :: vint .i64 k :: .one .junk :: .one .junk :: .one .junk :: .one .junk :: .one .junk :: .one .junk :: .one .junk :: .one .junk :: .one .junk :: .one .junk :: .one .junk :: .one .junk :: .one .junk :: .one .junk :: .one .junk :: .one .junk :: .one .junk :: .one .junk :: .one .junk :: .one .junk :: .one .junk :: .one .junk :: .one .junk :: .one .junk :: .one .junk :: .one .junk :: []), [.box [.pv (.int .i64 n), .pv (.lst es)]]⟩)
    (R := fun k => ⟨(.one .junk :: .one .junk :: .one .junk :: .one .junk :: .one .junk :: .one .junk :: vint .i64 k :: .one .junk :: .one .junk :: .one .junk :: .one .junk :: .one .junk :: .one .junk :: .one .junk :: .one .junk :: .one .junk :: .one .junk :: .one .junk :: .one .junk :: .one .junk :: .one .junk :: .one .junk :: .one .junk :: .one .junk :: .one .junk :: .one .junk :: .one .junk :: .one .junk :: .one .junk :: .one .junk :: .one .junk :: .one .junk :: .one .junk :: .one .junk :: []), []⟩) (σe := ⟨(.one .junk :: .one .junk :: .one .junk :: .one .junk :: .one .junk :: .one .junk :: .one .junk :: .one .junk :: .one .junk :: .one .junk :: .one .junk :: .one .junk :: .one .junk :: .one .junk :: .one .junk :: .one .junk :: .one .junk :: .one .junk :: .one .junk :: .one .junk :: .one .junk :: .one .junk :: .one .junk :: .one .junk :: .one .junk :: .one .junk :: .one .junk :: .one .junk :: .one .junk :: .one .junk :: .one .junk :: .one .junk :: .one .junk :: .one .junk :: []), []⟩)
    (fun k hlt hp => by
      have hw := wrap_small (k := k) (by unfold maxLen at hl; omega)
      obtain ⟨c0, c1, c2, c3, c4, c5, c6, hrk, hq⟩ := hB k hlt
      rw [hq] at hp
      refine Steps.of ?_
      cases q1 : (c0 == s)
      · simp [b_spec_l17Find_0, start, execOps, stepO, wants, fop, eop, Opd.ev, put, V.cells, plain, loadV, cut, isInt, isStr, isBool, bin, binInt, binStr_neq, binStr_eql, un, asList, L.view, viewArgs, V.view, viewL, finish, resultsOf, resultOf, comps, comp, giveLs, giveL, arrsOf, V.flat, L.flat, setV, setL, storeV, putAt, thaw, thawL, freezeVs, freezeLs, freezeL, V.mut, L.mut, elemPtr, viewRows, wp_seq, wp_block, wp_region, wp_cond, wp_skip, wp_exit, wp_ret, wp_end, wp_sqN, wp_sqR, wp_sqE, wp_bkN, wp_bkR, wp_bkE, Fin_ret, Fin_normal, L.notArr, hlt, hrk, hw, q1]
        exact Kn.of [0] (by decide) (by simp [relVs, relV, relLs, relL, relTs, relObs, relOb, L.ren]) (by simp [relVs, relV, relLs, relL, relTs, relObs, relOb, L.ren])
      · rw [q1, Bool.true_and] at hp
        simp [b_spec_l17Find_0, start, execOps, stepO, wants, fop, eop, Opd.ev, put, V.cells, plain, loadV, cut, isInt, isStr, isBool, bin, binInt, binStr_neq, binStr_eql, un, asList, L.view, viewArgs, V.view, viewL, finish, resultsOf, resultOf, comps, comp, giveLs, giveL, arrsOf, V.flat, L.flat, setV, setL, storeV, putAt, thaw, thawL, freezeVs, freezeLs, freezeL, V.mut, L.mut, elemPtr, viewRows, wp_seq, wp_block, wp_region, wp_cond, wp_skip, wp_exit, wp_ret, wp_end, wp_sqN, wp_sqR, wp_sqE, wp_bkN, wp_bkR, wp_bkE, Fin_ret, Fin_normal, L.notArr, hlt, hrk, hw, q1, hp]
        exact Kn.of [0] (by decide) (by simp [relVs, relV, relLs, relL, relTs, relObs, relOb, L.ren]) (by simp [relVs, relV, relLs, relL, relTs, relObs, relOb, L.ren]))
    (fun k hlt hp => by
      obtain ⟨c0, c1, c2, c3, c4, c5, c6, hrk, hq⟩ := hB k hlt
      rw [hq, Bool.and_eq_true] at hp
      refine Ends.stop (by simp) ?_
      simp [b_spec_l17Find_0, start, execOps, stepO, wants, fop, eop, Opd.ev, put, V.cells, plain, loadV, cut, isInt, isStr, isBool, bin, binInt, binStr_neq, binStr_eql, un, asList, L.view, viewArgs, V.view, viewL, finish, resultsOf, resultOf, comps, comp, giveLs, giveL, arrsOf, V.flat, L.flat, setV, setL, storeV, putAt, thaw, thawL, freezeVs, freezeLs, freezeL, V.mut, L.mut, elemPtr, viewRows, wp_seq, wp_block, wp_region, wp_cond, wp_skip, wp_exit, wp_ret, wp_end, wp_sqN, wp_sqR, wp_sqE, wp_bkN, wp_bkR, wp_bkE, Fin_ret, Fin_normal, L.notArr, hlt, hrk, hp.1, hp.2]
      exact Kn.of [] (by decide) (by simp [relVs, relV, relLs, relL, relTs, relObs, relOb, L.ren]) (by simp [relVs, relV, relLs, relL, relTs, relObs, relOb, L.ren]))
    (by
      refine Ends.stop (by simp) ?_
      simp [b_spec_l17Find_0, start, execOps, stepO, wants, fop, eop, Opd.ev, put, V.cells, plain, loadV, cut, isInt, isStr, isBool, bin, binInt, binStr_neq, binStr_eql, un, asList, L.view, viewArgs, V.view, viewL, finish, resultsOf, resultOf, comps, comp, giveLs, giveL, arrsOf, V.flat, L.flat, setV, setL, storeV, putAt, thaw, thawL, freezeVs, freezeLs, freezeL, V.mut, L.mut, elemPtr, viewRows, wp_seq, wp_block, wp_region, wp_cond, wp_skip, wp_exit, wp_ret, wp_end, wp_sqN, wp_sqR, wp_sqE, wp_bkN, wp_bkR, wp_bkE, Fin_ret, Fin_normal, L.notArr]
      exact Kn.of [] (by decide) (by simp [relVs, relV, relLs, relL, relTs, relObs, relOb, L.ren]) (by simp [relVs, relV, relLs, relL, relTs, relObs, relOb, L.ren]))
  refine callL_wp (fn := f_spec_l17Find) rfl ?_
  simp [f_spec_l17Find, start, execOps, stepO, wants, fop, eop, Opd.ev, put, V.cells, plain, loadV, cut, isInt, isStr, isBool, bin, binInt, binStr_neq, binStr_eql, un, asList, L.view, viewArgs, V.view, viewL, finish, resultsOf, resultOf, comps, comp, giveLs, giveL, arrsOf, V.flat, L.flat, setV, setL, storeV, putAt, thaw, thawL, freezeVs, freezeLs, freezeL, V.mut, L.mut, elemPtr, viewRows, wp_seq, wp_block, wp_region, wp_cond, wp_skip, wp_exit, wp_ret, wp_end, wp_sqN, wp_sqR, wp_sqE, wp_bkN, wp_bkR, wp_bkE, Fin_ret, Fin_normal, L.notArr]
  rcases E with ⟨h1, _, E⟩ | ⟨j, hj, h1, _, _, E⟩
  · refine wp_loop tidyF Cl.fin rfl E ?_ ?_
    · exact Kn.of [0] (by decide) (by simp [relVs, relV, relLs, relL, relTs, relObs, relOb, L.ren]) (by simp [relVs, relV, relLs, relL, relTs, relObs, relOb, L.ren])
    simp [start, execOps, stepO, wants, fop, eop, Opd.ev, put, V.cells, plain, loadV, cut, isInt, isStr, isBool, bin, binInt, binStr_neq, binStr_eql, un, asList, L.view, viewArgs, V.view, viewL, finish, resultsOf, resultOf, comps, comp, giveLs, giveL, arrsOf, V.flat, L.flat, setV, setL, storeV, putAt, thaw, thawL, freezeVs, freezeLs, freezeL, V.mut, L.mut, elemPtr, viewRows, wp_seq, wp_block, wp_region, wp_cond, wp_skip, wp_exit, wp_ret, wp_end, wp_sqN, wp_sqR, wp_sqE, wp_bkN, wp_bkR, wp_bkE, Fin_ret, Fin_normal, L.notArr, h1]
  · refine wp_loop tidyF Cl.fin rfl E ?_ ?_
    · exact Kn.of [0] (by decide) (by simp [relVs, relV, relLs, relL, relTs, relObs, relOb, L.ren]) (by simp [relVs, relV, relLs, relL, relTs, relObs, relOb, L.ren])
    simp [start, execOps, stepO, wants, fop, eop, Opd.ev, put, V.cells, plain, loadV, cut, isInt, isStr, isBool, bin, binInt, binStr_neq, binStr_eql, un, asList, L.view, viewArgs, V.view, viewL, finish, resultsOf, resultOf, comps, comp, giveLs, giveL, arrsOf, V.flat, L.flat, setV, setL, storeV, putAt, thaw, thawL, freezeVs, freezeLs, freezeL, V.mut, L.mut, elemPtr, viewRows, wp_seq, wp_block, wp_region, wp_cond, wp_skip, wp_exit, wp_ret, wp_end, wp_sqN, wp_sqR, wp_sqE, wp_bkN, wp_bkR, wp_bkE, Fin_ret, Fin_normal, L.notArr, h1]
theorem matchCache_both {caches : List (List PV)} (h : Has (.lst t_CacheS) (.lst caches)) (hz : sz (.lst caches) ≤ 1048576) (v : Int) (s p : List UInt8) :
    callL Ph extF 318 [.agg [.pv (.lst caches)], vint .i64 v, vstr s, vstr p] = some (mcV (mcRow caches v s p)) ∧ callL Ph extF 315 [.agg [.pv (.lst caches)], vint .i64 v, vstr s, vstr p] = some (mcV (mcRow caches v s p)) := by
  obtain ⟨hl, hr⟩ := Has_rows h
  have a1 := impl_FindCache_ok h v
  have a2 := spec_FindCache_ok h v
  have a3 := impl_ErrorResponse_ok
  have a4 := spec_ErrorResponse_ok
  by_cases hn : findI (isC v) caches 0 < 0
  · have hm : mcRow caches v s p = none := by unfold mcRow; rw [find_none hn]
    rw [hm]
    constructor
    · refine callL_wp (fn := f_impl_MatchCache) rfl ?_
      simp [f_impl_MatchCache, start, execOps, stepO, wants, fop, eop, Opd.ev, put, V.cells, plain, loadV, cut, isInt, isStr, isBool, bin, binInt, binStr_neq, binStr_eql, un, asList, L.view, viewArgs, V.view, viewL, finish, resultsOf, resultOf, comps, comp, giveLs, giveL, arrsOf, V.flat, L.flat, setV, setL, storeV, putAt, thaw, thawL, freezeVs, freezeLs, freezeL, V.mut, L.mut, elemPtr, viewRows, wp_seq, wp_block, wp_region, wp_cond, wp_skip, wp_exit, wp_ret, wp_end, wp_sqN, wp_sqR, wp_sqE, wp_bkN, wp_bkR, wp_bkE, Fin_ret, Fin_normal, L.notArr, a1, a3, hn, mcV]
    · refine callL_wp (fn := f_spec_MatchCache) rfl ?_
      simp [f_spec_MatchCache, start, execOps, stepO, wants, fop, eop, Opd.ev, put, V.cells, plain, loadV, cut, isInt, isStr, isBool, bin, binInt, binStr_neq, binStr_eql, un, asList, L.view, viewArgs, V.view, viewL, finish, resultsOf, resultOf, comps, comp, giveLs, giveL, arrsOf, V.flat, L.flat, setV, setL, storeV, putAt, thaw, thawL, freezeVs, freezeLs, freezeL, V.mut, L.mut, elemPtr, viewRows, wp_seq, wp_block, wp_region, wp_cond, wp_skip, wp_exit, wp_ret, wp_end, wp_sqN, wp_sqR, wp_sqE, wp_bkN, wp_bkR, wp_bkE, Fin_ret, Fin_normal, L.notArr, a2, a4, hn, mcV]
  · obtain ⟨j, hj, hfi⟩ := findI_at hn
    obtain ⟨n, es, hrj, hes⟩ := cache_row (hr _ (List.getElem_mem hj))
    have hfs := find_some (k := 0) hj (by rw [hfi]; simp)
    have b1 := impl_entryAt_ok (n := n) hes s p
    have b2 := spec_l17Find_ok (n := n) hes s p
    rw [hfi] at a1 a2
    have hneg : ¬ (j : Int) < 0 := by omega
    have hm : mcRow caches v s p = es.find? (isE s p) := by unfold mcRow; rw [hfs, hrj]; rfl
    rw [hm]
    by_cases hn2 : findI (isE s p) es 0 < 0
    · rw [find_none hn2]
      constructor
      · refine callL_wp (fn := f_impl_MatchCache) rfl ?_
        simp [f_impl_MatchCache, start, execOps, stepO, wants, fop, eop, Opd.ev, put, V.cells, plain, loadV, cut, isInt, isStr, isBool, bin, binInt, binStr_neq, binStr_eql, un, asList, L.view, viewArgs, V.view, viewL, finish, resultsOf, resultOf, comps, comp, giveLs, giveL, arrsOf, V.flat, L.flat, setV, setL, storeV, putAt, thaw, thawL, freezeVs, freezeLs, freezeL, V.mut, L.mut, elemPtr, viewRows, wp_seq, wp_block, wp_region, wp_cond, wp_skip, wp_exit, wp_ret, wp_end, wp_sqN, wp_sqR, wp_sqE, wp_bkN, wp_bkR, wp_bkE, Fin_ret, Fin_normal, L.notArr, a1, a3, hneg, hj, hrj, b1, hn2, mcV]
      · refine callL_wp (fn := f_spec_MatchCache) rfl ?_
        simp [f_spec_MatchCache, start, execOps, stepO, wants, fop, eop, Opd.ev, put, V.cells, plain, loadV, cut, isInt, isStr, isBool, bin, binInt, binStr_neq, binStr_eql, un, asList, L.view, viewArgs, V.view, viewL, finish, resultsOf, resultOf, comps, comp, giveLs, giveL, arrsOf, V.flat, L.flat, setV, setL, storeV, putAt, thaw, thawL, freezeVs, freezeLs, freezeL, V.mut, L.mut, elemPtr, viewRows, wp_seq, wp_block, wp_region, wp_cond, wp_skip, wp_exit, wp_ret, wp_end, wp_sqN, wp_sqR, wp_sqE, wp_bkN, wp_bkR, wp_bkE, Fin_ret, Fin_normal, L.notArr, a2, a4, hneg, hj, hrj, b2, hn2, mcV]
    · obtain ⟨i, hi, hfi2⟩ := findI_at hn2
      obtain ⟨hle, hre⟩ := Has_rows hes
      obtain ⟨d0, d1, d2, d3, d4, d5, d6, hri, _, _, _, _, _, g5, _⟩ := cached_cells (hre _ (List.getElem_mem hi))
      obtain ⟨_, hr5⟩ := Has_rows g5
      obtain ⟨t, rfl⟩ := bytes_rows hr5
      have hsz : t.length ≤ 1000000000 := by
        have s1 := row_le (List.getElem_mem hj) hz
        rw [hrj] at s1
        have s2 : sz (.lst es) ≤ 1048576 := by simp only [szL, sz] at s1 ⊢; omega
        have s3 := row_le (List.getElem_mem hi) s2
        rw [hri] at s3
        simp only [szL, sz_lst, ofBytes_length] at s3
        omega
      have c1 := impl_copyResponse_ok (a := d2) (b := d3) (c := d4) (d := d6) hsz
      have c2 := spec_l15Copy_ok (a := d2) (b := d3) (c := d4) (d := d6) hsz
      rw [find_some (k := 0) hi (by rw [hfi2]; simp), hri]
      rw [hfi2] at b1 b2
      have hneg2 : ¬ (i : Int) < 0 := by omega
      constructor
      · refine callL_wp (fn := f_impl_MatchCache) rfl ?_
        simp [f_impl_MatchCache, start, execOps, stepO, wants, fop, eop, Opd.ev, put, V.cells, plain, loadV, cut, isInt, isStr, isBool, bin, binInt, binStr_neq, binStr_eql, un, asList, L.view, viewArgs, V.view, viewL, finish, resultsOf, resultOf, comps, comp, giveLs, giveL, arrsOf, V.flat, L.flat, setV, setL, storeV, putAt, thaw, thawL, freezeVs, freezeLs, freezeL, V.mut, L.mut, elemPtr, viewRows, wp_seq, wp_block, wp_region, wp_cond, wp_skip, wp_exit, wp_ret, wp_end, wp_sqN, wp_sqR, wp_sqE, wp_bkN, wp_bkR, wp_bkE, Fin_ret, Fin_normal, L.notArr, a1, hneg, hj, hrj, b1, hneg2, hi, hri, c1, mcV]
      · refine callL_wp (fn := f_spec_MatchCache) rfl ?_
        simp [f_spec_MatchCache, start, execOps, stepO, wants, fop, eop, Opd.ev, put, V.cells, plain, loadV, cut, isInt, isStr, isBool, bin, binInt, binStr_neq, binStr_eql, un, asList, L.view, viewArgs, V.view, viewL, finish, resultsOf, resultOf, comps, comp, giveLs, giveL, arrsOf, V.flat, L.flat, setV, setL, storeV, putAt, thaw, thawL, freezeVs, freezeLs, freezeL, V.mut, L.mut, elemPtr, viewRows, wp_seq, wp_block, wp_region, wp_cond, wp_skip, wp_exit, wp_ret, wp_end, wp_sqN, wp_sqR, wp_sqE, wp_bkN, wp_bkR, wp_bkE, Fin_ret, Fin_normal, L.notArr, a2, hneg, hj, hrj, b2, hneg2, hi, hri, c2, mcV]
theorem mcRow_cells {caches : List (List PV)} (h : Has (.lst t_CacheS) (.lst caches)) {v : Int} {s p : List UInt8} {r : List PV} (e : mcRow caches v s p = some r) : HasL t_CachedS r := by
  obtain ⟨hl, hr⟩ := Has_rows h
  unfold mcRow at e
  split at e
  · rename_i c hc
    obtain ⟨n, es, rfl, hes⟩ := cache_row (hr _ (List.mem_of_find?_eq_some hc))
    exact (Has_rows hes).2 _ (List.mem_of_find?_eq_some e)
  · cases e
end Gi
