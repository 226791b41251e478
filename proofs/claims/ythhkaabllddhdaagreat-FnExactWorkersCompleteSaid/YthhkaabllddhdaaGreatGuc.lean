/- The last number of a device; the number of a site; is a number queued? -/
import Derived.Test.YthhkaabllddhdaaGreatGtx
namespace Gi
open Go Go.RowKit
set_option linter.unusedSimpArgs false
set_option linter.unusedVariables false
set_option maxHeartbeats 4000000
set_option maxRecDepth 4000

/-! ### LastSeq -/
def isD (d : Int) : List PV → Bool
  | .int _ a :: _ => a == d
  | _ => false
def seqOf : List PV → Int
  | [_, .int _ b] => b
  | _ => 0
def lastV (d : Int) : List (List PV) → Int
  | [] => 0
  | r :: rs => cond (isD d r) (seqOf r) (lastV d rs)
theorem applied_row {r : List PV} (h : HasL t_AppliedS r) : ∃ a b, r = [.int .i64 a, .int .i64 b] := by
  obtain ⟨p0, r1, rfl, g0, k1⟩ := HasL_cons h
  obtain ⟨p1, r2, rfl, g1, k2⟩ := HasL_cons k1
  obtain rfl := HasL_nil k2
  obtain ⟨c0, rfl⟩ := Has_int g0
  obtain ⟨c1, rfl⟩ := Has_int g1
  exact ⟨c0, c1, rfl⟩
theorem lastV_none {d : Int} : ∀ (rs : List (List PV)) (k : Nat), findI (isD d) rs k < 0 → lastV d rs = 0
  | [], _, _ => rfl
  | r :: rs, k, h => by
    unfold findI at h
    unfold lastV
    cases hq : isD d r with
    | true => rw [hq] at h; simp only [cond_true] at h; omega
    | false => rw [hq] at h; exact lastV_none rs (k + 1) h
theorem lastV_some {d : Int} : ∀ (rs : List (List PV)) (k j : Nat) (hj : j < rs.length), findI (isD d) rs k = ((k + j : Nat) : Int) → lastV d rs = seqOf rs[j]
  | [], _, _, hj, _ => by simp at hj
  | r :: rs, k, j, hj, h => by
    unfold findI at h
    unfold lastV
    cases hq : isD d r with
    | true =>
      rw [hq] at h
      simp only [cond_true] at h ⊢
      have : j = 0 := by omega
      subst this
      rfl
    | false =>
      rw [hq] at h
      simp only [cond_false] at h ⊢
      cases j with
      | zero =>
        rcases findI_range (isD d) rs (k + 1) with h1 | ⟨i, h1, h2⟩
        · omega
        · omega
      | succ j =>
        exact lastV_some rs (k + 1) j (by simpa using hj) (by rw [h]; congr 1; omega)
theorem impl_LastSeq_ok {s0 : List UInt8} {s1 : List (List PV)} {s2 : Int} {s3 s4 : List (List PV)} (h : Has (.lst t_AppliedS) (.lst s3)) (d : Int) : callL Ph extF 148 [.agg [.pv (.str s0), .pv (.lst s1), .pv (.int .i64 s2), .pv (.lst s3), .pv (.lst s4)], vint .i64 d] = some (vint .i64 (lastV d s3)) := by
  obtain ⟨hl, hr⟩ := Has_rows h
  have e1 : callL Ph extF 211 [vlst s3, .one (.fn 212 [[.int .i64 d]])] = some (vint .i64 (findI (isD d) s3 0)) :=
    ixF_ok (z := 2) rfl hl (fun r m => HasL_len (hr r m)) (fun r m => by
      obtain ⟨a, b, rfl⟩ := applied_row (hr r m)
      refine callL_fn (fn := f_impl_deviceAt_1) rfl ?_
      simp [f_impl_deviceAt_1, start, execL, exec, execOps, stepO, wants, fop, eop, Opd.ev, put, V.cells, plain, loadV, cut, isInt, isStr, isBool, bin, binInt, binStr_neq, binStr_eql, un, asList, L.view, viewArgs, V.view, viewL, done, finish, resultsOf, resultOf, comps, comp, giveLs, giveL, arrsOf, V.flat, L.flat, setV, setL, storeV, putAt, thaw, thawL, freezeVs, freezeLs, freezeL, V.mut, L.mut, elemPtr, viewRows, capV, isD])
  have e2 : callL Ph extF 176 [.agg [.pv (.str s0), .pv (.lst s1), .pv (.int .i64 s2), .pv (.lst s3), .pv (.lst s4)], vint .i64 d] = some (vint .i64 (findI (isD d) s3 0)) := by
    refine callL_fn (fn := f_impl_deviceAt) rfl ?_
    simp [f_impl_deviceAt, start, execL, exec, execOps, stepO, wants, fop, eop, Opd.ev, put, V.cells, plain, loadV, cut, isInt, isStr, isBool, bin, binInt, binStr_neq, binStr_eql, un, asList, L.view, viewArgs, V.view, viewL, done, finish, resultsOf, resultOf, comps, comp, giveLs, giveL, arrsOf, V.flat, L.flat, setV, setL, storeV, putAt, thaw, thawL, freezeVs, freezeLs, freezeL, V.mut, L.mut, elemPtr, viewRows, capsOf, capOf, e1]
  refine callL_fn (fn := f_impl_LastSeq) rfl ?_
  by_cases hn : findI (isD d) s3 0 < 0
  · rw [lastV_none s3 0 hn]
    simp [f_impl_LastSeq, start, execL, exec, execOps, stepO, wants, fop, eop, Opd.ev, put, V.cells, plain, loadV, cut, isInt, isStr, isBool, bin, binInt, binStr_neq, binStr_eql, un, asList, L.view, viewArgs, V.view, viewL, done, finish, resultsOf, resultOf, comps, comp, giveLs, giveL, arrsOf, V.flat, L.flat, setV, setL, storeV, putAt, thaw, thawL, freezeVs, freezeLs, freezeL, V.mut, L.mut, elemPtr, viewRows, e2, hn]
  · obtain ⟨j, hj, hfi⟩ := findI_at hn
    obtain ⟨a, b, hab⟩ := applied_row (hr _ (List.getElem_mem hj))
    rw [lastV_some s3 0 j hj (by rw [hfi]; simp), hab]
    rw [hfi] at e2
    have hneg : ¬ (j : Int) < 0 := by omega
    simp [f_impl_LastSeq, start, execL, exec, execOps, stepO, wants, fop, eop, Opd.ev, put, V.cells, plain, loadV, cut, isInt, isStr, isBool, bin, binInt, binStr_neq, binStr_eql, un, asList, L.view, viewArgs, V.view, viewL, done, finish, resultsOf, resultOf, comps, comp, giveLs, giveL, arrsOf, V.flat, L.flat, setV, setL, storeV, putAt, thaw, thawL, freezeVs, freezeLs, freezeL, V.mut, L.mut, elemPtr, viewRows, e2, hneg, hj, hab, seqOf]
theorem sls_loop {s0 : List UInt8} {s1 : List (List PV)} {s2 : Int} {s3 s4 : List (List PV)} {d : Int} (hl : s3.length ≤ maxLen) (hr : ∀ r ∈ s3, HasL t_AppliedS r) : ∀ (m k : Nat) (i : Int), i = k → k + m = s3.length → ∀ (x0 x3 x4 x6 x7 x8 x9 x10 x11 x12 x13 x14 x15 x16 x17 x18 x19 x20 x21 x22 x23 x24 x25 x26 : V),
    Runs (loopL (exec (callL Ph extF) loopL b_spec_LastSeq_0) ⟨(x0 :: vint .i64 d :: .one (.ptr 0 0 0) :: x3 :: x4 :: vint .i64 i :: x6 :: x7 :: x8 :: x9 :: x10 :: x11 :: x12 :: x13 :: x14 :: x15 :: x16 :: x17 :: x18 :: x19 :: x20 :: x21 :: x22 :: x23 :: x24 :: x25 :: x26 :: []), [.box [.pv (.str s0), .pv (.lst s1), .pv (.int .i64 s2), .pv (.lst s3), .pv (.lst s4)]]⟩) fun e σ' => (e = .exit 0 ∧ lastV d (s3.drop k) = 0 ∧ ∃ (x0 x3 x4 x6 x7 x8 x9 x10 x11 x12 x13 x14 x15 x16 x17 x18 x19 x20 x21 x22 x23 x24 x25 x26 : V), σ' = ⟨(x0 :: vint .i64 d :: .one (.ptr 0 0 0) :: x3 :: x4 :: vint .i64 (s3.length : Nat) :: x6 :: x7 :: x8 :: x9 :: x10 :: x11 :: x12 :: x13 :: x14 :: x15 :: x16 :: x17 :: x18 :: x19 :: x20 :: x21 :: x22 :: x23 :: x24 :: x25 :: x26 :: []), [.box [.pv (.str s0), .pv (.lst s1), .pv (.int .i64 s2), .pv (.lst s3), .pv (.lst s4)]]⟩) ∨ (e = .ret ∧ σ'.t.length = 27 ∧ σ'.t[4]? = some (vint .i64 (lastV d (s3.drop k)))) := by
  generalize hF : exec (callL Ph extF) loopL b_spec_LastSeq_0 = F
  intro m
  induction m with
  | zero =>
    intro k i hi hk x0 x3 x4 x6 x7 x8 x9 x10 x11 x12 x13 x14 x15 x16 x17 x18 x19 x20 x21 x22 x23 x24 x25 x26
    subst hi
    have hk' : k = s3.length := by omega
    subst hk'
    rw [loopL_go0 hF]
    simp (maxSteps := 4000000) [b_spec_LastSeq_0, start, execL, exec, execOps, stepO, wants, fop, eop, Opd.ev, put, V.cells, plain, loadV, cut, isInt, isStr, isBool, bin, binInt, binStr_neq, binStr_eql, un, asList, L.view, viewArgs, V.view, viewL, done, finish, resultsOf, resultOf, comps, comp, giveLs, giveL, arrsOf, V.flat, L.flat, setV, setL, storeV, putAt, thaw, thawL, freezeVs, freezeLs, freezeL, V.mut, L.mut, elemPtr, viewRows, findI, lastV, Runs_some]
  | succ m ih =>
    intro k i hi hk x0 x3 x4 x6 x7 x8 x9 x10 x11 x12 x13 x14 x15 x16 x17 x18 x19 x20 x21 x22 x23 x24 x25 x26
    subst hi
    have hlt : k < s3.length := by omega
    have hw := wrap_small (k := k) (by unfold maxLen at hl; omega)
    obtain ⟨a, b, hrk⟩ := applied_row (hr _ (List.getElem_mem hlt))
    have hp : isD d s3[k] = (a == d) := by rw [hrk]; rfl
    have hp2 : seqOf s3[k] = b := by rw [hrk]; rfl
    have key := ih (k + 1) ((k : Int) + 1) (by omega) (by omega)
    clear ih
    rw [List.drop_eq_getElem_cons hlt]
    simp only [lastV]
    generalize lastV d (s3.drop (k + 1)) = B at key ⊢
    rw [loopL_go0 hF]
    rw [hp, hp2]; cases c1 : (a == d) <;>
      first
      | omega
      | (simp [b_spec_LastSeq_0, start, execL, exec, execOps, stepO, wants, fop, eop, Opd.ev, put, V.cells, plain, loadV, cut, isInt, isStr, isBool, bin, binInt, binStr_neq, binStr_eql, un, asList, L.view, viewArgs, V.view, viewL, done, finish, resultsOf, resultOf, comps, comp, giveLs, giveL, arrsOf, V.flat, L.flat, setV, setL, storeV, putAt, thaw, thawL, freezeVs, freezeLs, freezeL, V.mut, L.mut, elemPtr, viewRows, hlt, hw, hrk, c1]
         exact key _ _ _ _ _ _ _ _ _ _ _ _ _ _ _ _ _ _ _ _ _ _ _ _)
      | (simp [b_spec_LastSeq_0, start, execL, exec, execOps, stepO, wants, fop, eop, Opd.ev, put, V.cells, plain, loadV, cut, isInt, isStr, isBool, bin, binInt, binStr_neq, binStr_eql, un, asList, L.view, viewArgs, V.view, viewL, done, finish, resultsOf, resultOf, comps, comp, giveLs, giveL, arrsOf, V.flat, L.flat, setV, setL, storeV, putAt, thaw, thawL, freezeVs, freezeLs, freezeL, V.mut, L.mut, elemPtr, viewRows, hlt, hw, hrk, c1, Runs_some]; done)
theorem sls_loop' {s0 : List UInt8} {s1 : List (List PV)} {s2 : Int} {s3 s4 : List (List PV)} {d : Int} (hl : s3.length ≤ maxLen) (hr : ∀ r ∈ s3, HasL t_AppliedS r) : ∀ (m k : Nat) (i : Int), i = k → k + m = s3.length → ∀ (x0 x3 x4 x6 x7 x8 x9 x10 x11 x12 x13 x14 x15 x16 x17 x18 x19 x20 x21 x22 x23 x24 x25 x26 : V) (σ : St), σ = ⟨(x0 :: vint .i64 d :: .one (.ptr 0 0 0) :: x3 :: x4 :: vint .i64 i :: x6 :: x7 :: x8 :: x9 :: x10 :: x11 :: x12 :: x13 :: x14 :: x15 :: x16 :: x17 :: x18 :: x19 :: x20 :: x21 :: x22 :: x23 :: x24 :: x25 :: x26 :: []), [.box [.pv (.str s0), .pv (.lst s1), .pv (.int .i64 s2), .pv (.lst s3), .pv (.lst s4)]]⟩ →
    Runs (loopL (exec (callL Ph extF) loopL b_spec_LastSeq_0) σ) fun e σ' => (e = .exit 0 ∧ lastV d (s3.drop k) = 0 ∧ ∃ (x0 x3 x4 x6 x7 x8 x9 x10 x11 x12 x13 x14 x15 x16 x17 x18 x19 x20 x21 x22 x23 x24 x25 x26 : V), σ' = ⟨(x0 :: vint .i64 d :: .one (.ptr 0 0 0) :: x3 :: x4 :: vint .i64 (s3.length : Nat) :: x6 :: x7 :: x8 :: x9 :: x10 :: x11 :: x12 :: x13 :: x14 :: x15 :: x16 :: x17 :: x18 :: x19 :: x20 :: x21 :: x22 :: x23 :: x24 :: x25 :: x26 :: []), [.box [.pv (.str s0), .pv (.lst s1), .pv (.int .i64 s2), .pv (.lst s3), .pv (.lst s4)]]⟩) ∨ (e = .ret ∧ σ'.t.length = 27 ∧ σ'.t[4]? = some (vint .i64 (lastV d (s3.drop k)))) := by
  intro m k i hi hk x0 x3 x4 x6 x7 x8 x9 x10 x11 x12 x13 x14 x15 x16 x17 x18 x19 x20 x21 x22 x23 x24 x25 x26 σ hσ
  subst hσ
  exact sls_loop hl hr m k i hi hk x0 x3 x4 x6 x7 x8 x9 x10 x11 x12 x13 x14 x15 x16 x17 x18 x19 x20 x21 x22 x23 x24 x25 x26
theorem spec_LastSeq_ok {s0 : List UInt8} {s1 : List (List PV)} {s2 : Int} {s3 s4 : List (List PV)} (h : Has (.lst t_AppliedS) (.lst s3)) (d : Int) : callL Ph extF 147 [.agg [.pv (.str s0), .pv (.lst s1), .pv (.int .i64 s2), .pv (.lst s3), .pv (.lst s4)], vint .i64 d] = some (vint .i64 (lastV d s3)) := by
  obtain ⟨hl, hr⟩ := Has_rows h
  refine callL_fn (fn := f_spec_LastSeq) rfl ?_
  have LP := sls_loop' (s0 := s0) (s1 := s1) (s2 := s2) (s4 := s4) (d := d) hl hr s3.length 0 0 rfl (by omega)
  simp only [List.drop_zero] at LP
  generalize hF : exec (callL Ph extF) loopL b_spec_LastSeq_0 = F at LP
  simp [f_spec_LastSeq, start, execL, exec, execOps, stepO, wants, fop, eop, Opd.ev, put, V.cells, plain, loadV, cut, isInt, isStr, isBool, bin, binInt, binStr_neq, binStr_eql, un, asList, L.view, viewArgs, V.view, viewL, done, finish, resultsOf, resultOf, comps, comp, giveLs, giveL, arrsOf, V.flat, L.flat, setV, setL, storeV, putAt, thaw, thawL, freezeVs, freezeLs, freezeL, V.mut, L.mut, elemPtr, viewRows, hF]
  generalize hσ : St.mk _ _ = σ0
  obtain ⟨e, σ', q1, q3⟩ := (LP _ _ _ _ _ _ _ _ _ _ _ _ _ _ _ _ _ _ _ _ _ _ _ _ σ0 hσ.symm).get
  rw [q1]
  rcases q3 with ⟨rfl, q4, x0, x3, x4, x6, x7, x8, x9, x10, x11, x12, x13, x14, x15, x16, x17, x18, x19, x20, x21, x22, x23, x24, x25, x26, rfl⟩ | ⟨rfl, q5, q7⟩
  · simp [start, execL, exec, execOps, stepO, wants, fop, eop, Opd.ev, put, V.cells, plain, loadV, cut, isInt, isStr, isBool, bin, binInt, binStr_neq, binStr_eql, un, asList, L.view, viewArgs, V.view, viewL, done, finish, resultsOf, resultOf, comps, comp, giveLs, giveL, arrsOf, V.flat, L.flat, setV, setL, storeV, putAt, thaw, thawL, freezeVs, freezeLs, freezeL, V.mut, L.mut, elemPtr, viewRows, q4]
  · obtain ⟨_, q8⟩ := List.getElem?_eq_some_iff.1 q7
    simp [start, execL, exec, execOps, stepO, wants, fop, eop, Opd.ev, put, V.cells, plain, loadV, cut, isInt, isStr, isBool, bin, binInt, binStr_neq, binStr_eql, un, asList, L.view, viewArgs, V.view, viewL, done, finish, resultsOf, resultOf, comps, comp, giveLs, giveL, arrsOf, V.flat, L.flat, setV, setL, storeV, putAt, thaw, thawL, freezeVs, freezeLs, freezeL, V.mut, L.mut, elemPtr, viewRows, q5, q8]

/-! ### SiteNumber -/
def siteNo (s : List UInt8) : Int := cond (s == [98, 97, 110, 107]) 0 (cond (s == [110, 101, 119, 115]) 1 (cond (s == [115, 104, 111, 112]) 2 (-1)))
theorem siteNo_range (s : List UInt8) : siteNo s = -1 ∨ siteNo s = 0 ∨ siteNo s = 1 ∨ siteNo s = 2 := by
  unfold siteNo
  cases (s == [98, 97, 110, 107]) <;> cases (s == [110, 101, 119, 115]) <;> cases (s == [115, 104, 111, 112]) <;> simp
theorem beq_swap (a b : List UInt8) : (a == b) = (b == a) := by
  by_cases h : a = b
  · subst h; rfl
  · have h' : ¬ b = a := fun e => h e.symm
    rw [beq_eq_false_iff_ne.2 h, beq_eq_false_iff_ne.2 h']
theorem impl_SiteNumber_ok (s : List UInt8) : callL Ph extF 154 [vstr s] = some (vint .i64 (siteNo s)) := by
  have e1 : callL Ph extF 182 [vlst [[.str [98, 97, 110, 107]], [.str [110, 101, 119, 115]], [.str [115, 104, 111, 112]]], vstr s] = some (vint .i64 (siteNo s)) := by
    refine callL_fn (fn := f_slices_Index_string_string) rfl ?_
    generalize hF : exec (callL Ph extF) loopL b_slices_Index_string_string_0 = F
    unfold siteNo
    simp [f_slices_Index_string_string, start, execL, exec, execOps, stepO, wants, fop, eop, Opd.ev, put, V.cells, plain, loadV, cut, isInt, isStr, isBool, bin, binInt, binStr_neq, binStr_eql, un, asList, L.view, viewArgs, V.view, viewL, done, finish, resultsOf, resultOf, comps, comp, giveLs, giveL, arrsOf, V.flat, L.flat, setV, setL, storeV, putAt, thaw, thawL, freezeVs, freezeLs, freezeL, V.mut, L.mut, elemPtr, viewRows, hF]
    cases h1 : (s == [98, 97, 110, 107])
    · cases h2 : (s == [110, 101, 119, 115])
      · cases h3 : (s == [115, 104, 111, 112])
        · rw [loopL_go0 hF]; simp [b_slices_Index_string_string_0, start, execL, exec, execOps, stepO, wants, fop, eop, Opd.ev, put, V.cells, plain, loadV, cut, isInt, isStr, isBool, bin, binInt, binStr_neq, binStr_eql, un, asList, L.view, viewArgs, V.view, viewL, done, finish, resultsOf, resultOf, comps, comp, giveLs, giveL, arrsOf, V.flat, L.flat, setV, setL, storeV, putAt, thaw, thawL, freezeVs, freezeLs, freezeL, V.mut, L.mut, elemPtr, viewRows, h1, IntKind.wrap_i64]
          rw [loopL_go0 hF]; simp [b_slices_Index_string_string_0, start, execL, exec, execOps, stepO, wants, fop, eop, Opd.ev, put, V.cells, plain, loadV, cut, isInt, isStr, isBool, bin, binInt, binStr_neq, binStr_eql, un, asList, L.view, viewArgs, V.view, viewL, done, finish, resultsOf, resultOf, comps, comp, giveLs, giveL, arrsOf, V.flat, L.flat, setV, setL, storeV, putAt, thaw, thawL, freezeVs, freezeLs, freezeL, V.mut, L.mut, elemPtr, viewRows, h2, IntKind.wrap_i64]
          rw [loopL_go0 hF]; simp [b_slices_Index_string_string_0, start, execL, exec, execOps, stepO, wants, fop, eop, Opd.ev, put, V.cells, plain, loadV, cut, isInt, isStr, isBool, bin, binInt, binStr_neq, binStr_eql, un, asList, L.view, viewArgs, V.view, viewL, done, finish, resultsOf, resultOf, comps, comp, giveLs, giveL, arrsOf, V.flat, L.flat, setV, setL, storeV, putAt, thaw, thawL, freezeVs, freezeLs, freezeL, V.mut, L.mut, elemPtr, viewRows, h3, IntKind.wrap_i64]
          rw [loopL_go0 hF]; simp [b_slices_Index_string_string_0, start, execL, exec, execOps, stepO, wants, fop, eop, Opd.ev, put, V.cells, plain, loadV, cut, isInt, isStr, isBool, bin, binInt, binStr_neq, binStr_eql, un, asList, L.view, viewArgs, V.view, viewL, done, finish, resultsOf, resultOf, comps, comp, giveLs, giveL, arrsOf, V.flat, L.flat, setV, setL, storeV, putAt, thaw, thawL, freezeVs, freezeLs, freezeL, V.mut, L.mut, elemPtr, viewRows]
        · rw [loopL_go0 hF]; simp [b_slices_Index_string_string_0, start, execL, exec, execOps, stepO, wants, fop, eop, Opd.ev, put, V.cells, plain, loadV, cut, isInt, isStr, isBool, bin, binInt, binStr_neq, binStr_eql, un, asList, L.view, viewArgs, V.view, viewL, done, finish, resultsOf, resultOf, comps, comp, giveLs, giveL, arrsOf, V.flat, L.flat, setV, setL, storeV, putAt, thaw, thawL, freezeVs, freezeLs, freezeL, V.mut, L.mut, elemPtr, viewRows, h1, IntKind.wrap_i64]
          rw [loopL_go0 hF]; simp [b_slices_Index_string_string_0, start, execL, exec, execOps, stepO, wants, fop, eop, Opd.ev, put, V.cells, plain, loadV, cut, isInt, isStr, isBool, bin, binInt, binStr_neq, binStr_eql, un, asList, L.view, viewArgs, V.view, viewL, done, finish, resultsOf, resultOf, comps, comp, giveLs, giveL, arrsOf, V.flat, L.flat, setV, setL, storeV, putAt, thaw, thawL, freezeVs, freezeLs, freezeL, V.mut, L.mut, elemPtr, viewRows, h2, IntKind.wrap_i64]
          rw [loopL_go0 hF]; simp [b_slices_Index_string_string_0, start, execL, exec, execOps, stepO, wants, fop, eop, Opd.ev, put, V.cells, plain, loadV, cut, isInt, isStr, isBool, bin, binInt, binStr_neq, binStr_eql, un, asList, L.view, viewArgs, V.view, viewL, done, finish, resultsOf, resultOf, comps, comp, giveLs, giveL, arrsOf, V.flat, L.flat, setV, setL, storeV, putAt, thaw, thawL, freezeVs, freezeLs, freezeL, V.mut, L.mut, elemPtr, viewRows, h3]
      · rw [loopL_go0 hF]; simp [b_slices_Index_string_string_0, start, execL, exec, execOps, stepO, wants, fop, eop, Opd.ev, put, V.cells, plain, loadV, cut, isInt, isStr, isBool, bin, binInt, binStr_neq, binStr_eql, un, asList, L.view, viewArgs, V.view, viewL, done, finish, resultsOf, resultOf, comps, comp, giveLs, giveL, arrsOf, V.flat, L.flat, setV, setL, storeV, putAt, thaw, thawL, freezeVs, freezeLs, freezeL, V.mut, L.mut, elemPtr, viewRows, h1, IntKind.wrap_i64]
        rw [loopL_go0 hF]; simp [b_slices_Index_string_string_0, start, execL, exec, execOps, stepO, wants, fop, eop, Opd.ev, put, V.cells, plain, loadV, cut, isInt, isStr, isBool, bin, binInt, binStr_neq, binStr_eql, un, asList, L.view, viewArgs, V.view, viewL, done, finish, resultsOf, resultOf, comps, comp, giveLs, giveL, arrsOf, V.flat, L.flat, setV, setL, storeV, putAt, thaw, thawL, freezeVs, freezeLs, freezeL, V.mut, L.mut, elemPtr, viewRows, h2]
    · rw [loopL_go0 hF]; simp [b_slices_Index_string_string_0, start, execL, exec, execOps, stepO, wants, fop, eop, Opd.ev, put, V.cells, plain, loadV, cut, isInt, isStr, isBool, bin, binInt, binStr_neq, binStr_eql, un, asList, L.view, viewArgs, V.view, viewL, done, finish, resultsOf, resultOf, comps, comp, giveLs, giveL, arrsOf, V.flat, L.flat, setV, setL, storeV, putAt, thaw, thawL, freezeVs, freezeLs, freezeL, V.mut, L.mut, elemPtr, viewRows, h1]
  refine callL_fn (fn := f_impl_SiteNumber) rfl ?_
  simp [f_impl_SiteNumber, start, execL, exec, execOps, stepO, wants, fop, eop, Opd.ev, put, V.cells, plain, loadV, cut, isInt, isStr, isBool, bin, binInt, binStr_neq, binStr_eql, un, asList, L.view, viewArgs, V.view, viewL, done, finish, resultsOf, resultOf, comps, comp, giveLs, giveL, arrsOf, V.flat, L.flat, setV, setL, storeV, putAt, thaw, thawL, freezeVs, freezeLs, freezeL, V.mut, L.mut, elemPtr, viewRows, e1]
theorem spec_SiteNumber_ok (s : List UInt8) : callL Ph extF 153 [vstr s] = some (vint .i64 (siteNo s)) := by
  have e1 : callL Ph extF 181 [] = some (.one (.own 1 [[.str [98, 97, 110, 107]], [.str [110, 101, 119, 115]], [.str [115, 104, 111, 112]]])) := by
    refine callL_fn (fn := f_spec_l29Names) rfl ?_
    simp [f_spec_l29Names, start, execL, exec, execOps, stepO, wants, fop, eop, Opd.ev, put, V.cells, plain, loadV, cut, isInt, isStr, isBool, bin, binInt, binStr_neq, binStr_eql, un, asList, L.view, viewArgs, V.view, viewL, done, finish, resultsOf, resultOf, comps, comp, giveLs, giveL, arrsOf, V.flat, L.flat, setV, setL, storeV, putAt, thaw, thawL, freezeVs, freezeLs, freezeL, V.mut, L.mut, elemPtr, viewRows]
  refine callL_fn (fn := f_spec_SiteNumber) rfl ?_
  generalize hF : exec (callL Ph extF) loopL b_spec_SiteNumber_0 = F
  unfold siteNo
  rw [beq_swap s [98, 97, 110, 107], beq_swap s [110, 101, 119, 115], beq_swap s [115, 104, 111, 112]]
  simp [f_spec_SiteNumber, start, execL, exec, execOps, stepO, wants, fop, eop, Opd.ev, put, V.cells, plain, loadV, cut, isInt, isStr, isBool, bin, binInt, binStr_neq, binStr_eql, un, asList, L.view, viewArgs, V.view, viewL, done, finish, resultsOf, resultOf, comps, comp, giveLs, giveL, arrsOf, V.flat, L.flat, setV, setL, storeV, putAt, thaw, thawL, freezeVs, freezeLs, freezeL, V.mut, L.mut, elemPtr, viewRows, hF, e1]
  cases h1 : (([98, 97, 110, 107] : List UInt8) == s)
  · cases h2 : (([110, 101, 119, 115] : List UInt8) == s)
    · cases h3 : (([115, 104, 111, 112] : List UInt8) == s)
      · rw [loopL_go0 hF]; simp [b_spec_SiteNumber_0, start, execL, exec, execOps, stepO, wants, fop, eop, Opd.ev, put, V.cells, plain, loadV, cut, isInt, isStr, isBool, bin, binInt, binStr_neq, binStr_eql, un, asList, L.view, viewArgs, V.view, viewL, done, finish, resultsOf, resultOf, comps, comp, giveLs, giveL, arrsOf, V.flat, L.flat, setV, setL, storeV, putAt, thaw, thawL, freezeVs, freezeLs, freezeL, V.mut, L.mut, elemPtr, viewRows, h1, IntKind.wrap_i64]
        rw [loopL_go0 hF]; simp [b_spec_SiteNumber_0, start, execL, exec, execOps, stepO, wants, fop, eop, Opd.ev, put, V.cells, plain, loadV, cut, isInt, isStr, isBool, bin, binInt, binStr_neq, binStr_eql, un, asList, L.view, viewArgs, V.view, viewL, done, finish, resultsOf, resultOf, comps, comp, giveLs, giveL, arrsOf, V.flat, L.flat, setV, setL, storeV, putAt, thaw, thawL, freezeVs, freezeLs, freezeL, V.mut, L.mut, elemPtr, viewRows, h2, IntKind.wrap_i64]
        rw [loopL_go0 hF]; simp [b_spec_SiteNumber_0, start, execL, exec, execOps, stepO, wants, fop, eop, Opd.ev, put, V.cells, plain, loadV, cut, isInt, isStr, isBool, bin, binInt, binStr_neq, binStr_eql, un, asList, L.view, viewArgs, V.view, viewL, done, finish, resultsOf, resultOf, comps, comp, giveLs, giveL, arrsOf, V.flat, L.flat, setV, setL, storeV, putAt, thaw, thawL, freezeVs, freezeLs, freezeL, V.mut, L.mut, elemPtr, viewRows, h3, IntKind.wrap_i64]
        rw [loopL_go0 hF]; simp [b_spec_SiteNumber_0, start, execL, exec, execOps, stepO, wants, fop, eop, Opd.ev, put, V.cells, plain, loadV, cut, isInt, isStr, isBool, bin, binInt, binStr_neq, binStr_eql, un, asList, L.view, viewArgs, V.view, viewL, done, finish, resultsOf, resultOf, comps, comp, giveLs, giveL, arrsOf, V.flat, L.flat, setV, setL, storeV, putAt, thaw, thawL, freezeVs, freezeLs, freezeL, V.mut, L.mut, elemPtr, viewRows]
      · rw [loopL_go0 hF]; simp [b_spec_SiteNumber_0, start, execL, exec, execOps, stepO, wants, fop, eop, Opd.ev, put, V.cells, plain, loadV, cut, isInt, isStr, isBool, bin, binInt, binStr_neq, binStr_eql, un, asList, L.view, viewArgs, V.view, viewL, done, finish, resultsOf, resultOf, comps, comp, giveLs, giveL, arrsOf, V.flat, L.flat, setV, setL, storeV, putAt, thaw, thawL, freezeVs, freezeLs, freezeL, V.mut, L.mut, elemPtr, viewRows, h1, IntKind.wrap_i64]
        rw [loopL_go0 hF]; simp [b_spec_SiteNumber_0, start, execL, exec, execOps, stepO, wants, fop, eop, Opd.ev, put, V.cells, plain, loadV, cut, isInt, isStr, isBool, bin, binInt, binStr_neq, binStr_eql, un, asList, L.view, viewArgs, V.view, viewL, done, finish, resultsOf, resultOf, comps, comp, giveLs, giveL, arrsOf, V.flat, L.flat, setV, setL, storeV, putAt, thaw, thawL, freezeVs, freezeLs, freezeL, V.mut, L.mut, elemPtr, viewRows, h2, IntKind.wrap_i64]
        rw [loopL_go0 hF]; simp [b_spec_SiteNumber_0, start, execL, exec, execOps, stepO, wants, fop, eop, Opd.ev, put, V.cells, plain, loadV, cut, isInt, isStr, isBool, bin, binInt, binStr_neq, binStr_eql, un, asList, L.view, viewArgs, V.view, viewL, done, finish, resultsOf, resultOf, comps, comp, giveLs, giveL, arrsOf, V.flat, L.flat, setV, setL, storeV, putAt, thaw, thawL, freezeVs, freezeLs, freezeL, V.mut, L.mut, elemPtr, viewRows, h3]
    · rw [loopL_go0 hF]; simp [b_spec_SiteNumber_0, start, execL, exec, execOps, stepO, wants, fop, eop, Opd.ev, put, V.cells, plain, loadV, cut, isInt, isStr, isBool, bin, binInt, binStr_neq, binStr_eql, un, asList, L.view, viewArgs, V.view, viewL, done, finish, resultsOf, resultOf, comps, comp, giveLs, giveL, arrsOf, V.flat, L.flat, setV, setL, storeV, putAt, thaw, thawL, freezeVs, freezeLs, freezeL, V.mut, L.mut, elemPtr, viewRows, h1, IntKind.wrap_i64]
      rw [loopL_go0 hF]; simp [b_spec_SiteNumber_0, start, execL, exec, execOps, stepO, wants, fop, eop, Opd.ev, put, V.cells, plain, loadV, cut, isInt, isStr, isBool, bin, binInt, binStr_neq, binStr_eql, un, asList, L.view, viewArgs, V.view, viewL, done, finish, resultsOf, resultOf, comps, comp, giveLs, giveL, arrsOf, V.flat, L.flat, setV, setL, storeV, putAt, thaw, thawL, freezeVs, freezeLs, freezeL, V.mut, L.mut, elemPtr, viewRows, h2]
  · rw [loopL_go0 hF]; simp [b_spec_SiteNumber_0, start, execL, exec, execOps, stepO, wants, fop, eop, Opd.ev, put, V.cells, plain, loadV, cut, isInt, isStr, isBool, bin, binInt, binStr_neq, binStr_eql, un, asList, L.view, viewArgs, V.view, viewL, done, finish, resultsOf, resultOf, comps, comp, giveLs, giveL, arrsOf, V.flat, L.flat, setV, setL, storeV, putAt, thaw, thawL, freezeVs, freezeLs, freezeL, V.mut, L.mut, elemPtr, viewRows, h1]
end Gi
