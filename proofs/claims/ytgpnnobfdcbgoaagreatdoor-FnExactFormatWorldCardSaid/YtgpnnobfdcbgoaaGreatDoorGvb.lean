/- A world's text: the law. -/
import Derived.Test.YtgpnnobfdcbgoaaGreatDoorGtx
namespace Gi
open Go Go.RowKit
set_option linter.unusedSimpArgs false
set_option linter.unusedVariables false
set_option maxHeartbeats 4000000
set_option maxRecDepth 4000

theorem len_has {n : Nat} (h : n ≤ maxLen) : Has (.int .i64) (.int .i64 (n : Int)) := by
  unfold maxLen at h
  refine ⟨rfl, ?_⟩
  simp [Lit.wf, IntKind.min, IntKind.max, IntKind.signed, IntKind.bits]
  omega
theorem wrap_has (x : Int) : Has (.int .i64) (.int .i64 (IntKind.i64.wrap x)) := by
  rw [IntKind.wrap_i64]
  refine ⟨rfl, ?_⟩
  simp [Lit.wf, IntKind.min, IntKind.max, IntKind.signed, IntKind.bits]
  omega
theorem szL_str {s : List UInt8} {ps : List PV} {n : Nat} (h : szL (.str s :: ps) ≤ n) : s.length ≤ n ∧ szL ps ≤ n := by
  simp only [szL, sz] at h
  omega

def outN (r : List PV) : Int := match (r[19]? : Option PV) with
  | some (.lst es) => (es.length : Int)
  | _ => 0
def pwE (acc : Int) (r : List PV) : Int := IntKind.i64.wrap (acc + outN r)
theorem pw_has : ∀ (rows : List (List PV)) (acc : Int), Has (.int .i64) (.int .i64 acc) → Has (.int .i64) (.int .i64 (rows.foldl pwE acc))
  | [], _, h => h
  | r :: rows, acc, h => pw_has rows _ (wrap_has _)

theorem impl_PendingCount_ok {x0 x1 : Int} {x2 : List (List PV)} {x3 x4 : Int} : callL Ph extF 291 [.agg [.pv (.int .i64 x0), .pv (.int .i64 x1), .pv (.lst x2), .pv (.int .i64 x3), .pv (.int .i64 x4)]] = some (vint .i64 x2.length) := by
  refine callL_fn (fn := f_impl_PendingCount) rfl ?_
  simp [f_impl_PendingCount, start, execL, exec, execOps, stepO, wants, fop, eop, Opd.ev, put, V.cells, plain, loadV, cut, isInt, isStr, isBool, bin, binInt, binStr_neq, binStr_eql, un, asList, L.view, viewArgs, V.view, viewL, done, finish, resultsOf, resultOf, comps, comp, giveLs, giveL, arrsOf, V.flat, L.flat, setV, setL, storeV, putAt, thaw, thawL, freezeVs, freezeLs, freezeL, V.mut, L.mut, elemPtr, viewRows]
theorem ipw_loop {c3 : List (List PV)} (hl : c3.length ≤ maxLen) (hr : ∀ r ∈ c3, HasL t_BucketS r) : ∀ (m k : Nat) (i : Int), i = k → k + m = c3.length → ∀ (acc : Int) (x0 x1 x2 x4 x5 x6 x7 x11 x12 x13 x14 x15 x16 x17 x18 x19 x20 x21 : V) (h : List AObj) (σ : St), σ = ⟨(x0 :: x1 :: x2 :: vint .i64 acc :: x4 :: x5 :: x6 :: x7 :: vlst c3 :: vint .i64 c3.length :: vint .i64 i :: x11 :: x12 :: x13 :: x14 :: x15 :: x16 :: x17 :: x18 :: x19 :: x20 :: x21 :: []), h⟩ →
    Runs (loopL (exec (callL Ph extF) loopL b_impl_PendingWrites_0) σ) fun e σ' => e = .exit 0 ∧ ∃ (x0 x1 x2 x4 x5 x6 x7 x11 x12 x13 x14 x15 x16 x17 x18 x19 x20 x21 : V) (h' : List AObj), σ' = ⟨(x0 :: x1 :: x2 :: vint .i64 ((c3.drop k).foldl (pwE) acc) :: x4 :: x5 :: x6 :: x7 :: vlst c3 :: vint .i64 c3.length :: vint .i64 (c3.length : Nat) :: x11 :: x12 :: x13 :: x14 :: x15 :: x16 :: x17 :: x18 :: x19 :: x20 :: x21 :: []), h'⟩ := by
  generalize hF : exec (callL Ph extF) loopL b_impl_PendingWrites_0 = F
  intro m
  induction m with
  | zero =>
    intro k i hi hk acc x0 x1 x2 x4 x5 x6 x7 x11 x12 x13 x14 x15 x16 x17 x18 x19 x20 x21 h σ hσ
    subst hi hσ
    have hk' : k = c3.length := by omega
    subst hk'
    rw [loopL_go0 hF]
    simp (maxSteps := 4000000) [b_impl_PendingWrites_0, start, execL, exec, execOps, stepO, wants, fop, eop, Opd.ev, put, V.cells, plain, loadV, cut, isInt, isStr, isBool, bin, binInt, binStr_neq, binStr_eql, un, asList, L.view, viewArgs, V.view, viewL, done, finish, resultsOf, resultOf, comps, comp, giveLs, giveL, arrsOf, V.flat, L.flat, setV, setL, storeV, putAt, thaw, thawL, freezeVs, freezeLs, freezeL, V.mut, L.mut, elemPtr, viewRows, Runs_some]
  | succ m ih =>
    intro k i hi hk acc x0 x1 x2 x4 x5 x6 x7 x11 x12 x13 x14 x15 x16 x17 x18 x19 x20 x21 h σ hσ
    subst hi hσ
    have hlt : k < c3.length := by omega
    have hw := wrap_small (k := k) (by unfold maxLen at hl; omega)
    obtain ⟨d0, d1, d2, d3, d4, d5, d6, d7, d8, d9, d10, d11, d12, d13, d14, d15, d16, d17, d18, d19, d20, d21, d22, d23, hrk, _⟩ := bucket_cells (hr _ (List.getElem_mem hlt))
    have e1 := impl_PendingCount_ok (x0 := d17) (x1 := d18) (x2 := d19) (x3 := d20) (x4 := d21)
    have hs : pwE acc c3[k] = IntKind.i64.wrap (acc + d19.length) := by rw [hrk]; rfl
    have key := ih (k + 1) ((k : Int) + 1) (by omega) (by omega) (IntKind.i64.wrap (acc + d19.length))
    clear ih
    rw [List.drop_eq_getElem_cons hlt, List.foldl_cons, hs]
    generalize hB : (c3.drop (k + 1)).foldl (pwE) (IntKind.i64.wrap (acc + d19.length)) = B at key ⊢
    rw [loopL_go0 hF]
    simp [b_impl_PendingWrites_0, start, execL, exec, execOps, stepO, wants, fop, eop, Opd.ev, put, V.cells, plain, loadV, cut, isInt, isStr, isBool, bin, binInt, binStr_neq, binStr_eql, un, asList, L.view, viewArgs, V.view, viewL, done, finish, resultsOf, resultOf, comps, comp, giveLs, giveL, arrsOf, V.flat, L.flat, setV, setL, storeV, putAt, thaw, thawL, freezeVs, freezeLs, freezeL, V.mut, L.mut, elemPtr, viewRows, hlt, hw, hrk, e1]
    exact key _ _ _ _ _ _ _ _ _ _ _ _ _ _ _ _ _ _ _ _ rfl
theorem impl_PendingWrites_ok {c0 : Int} {c1 : Bool} {c2 : Int} {c3 c4 : List (List PV)} {c5 : Int} {c6 c7 c8 c9 : List (List PV)} (h : Has (.lst t_BucketS) (.lst c3)) : callL Ph extF 290 [.agg [.pv (.int .i64 c0), .pv (.bool c1), .pv (.int .i64 c2), .pv (.lst c3), .pv (.lst c4), .pv (.int .i64 c5), .pv (.lst c6), .pv (.lst c7), .pv (.lst c8), .pv (.lst c9)]] = some (vint .i64 (c3.foldl pwE 0)) := by
  obtain ⟨hl, hr⟩ := Has_rows h
  refine callL_fn (fn := f_impl_PendingWrites) rfl ?_
  have LP := ipw_loop hl hr c3.length 0 0 rfl (by omega) 0
  simp only [List.drop_zero] at LP
  generalize hF : exec (callL Ph extF) loopL b_impl_PendingWrites_0 = F at LP
  simp [f_impl_PendingWrites, start, execL, exec, execOps, stepO, wants, fop, eop, Opd.ev, put, V.cells, plain, loadV, cut, isInt, isStr, isBool, bin, binInt, binStr_neq, binStr_eql, un, asList, L.view, viewArgs, V.view, viewL, done, finish, resultsOf, resultOf, comps, comp, giveLs, giveL, arrsOf, V.flat, L.flat, setV, setL, storeV, putAt, thaw, thawL, freezeVs, freezeLs, freezeL, V.mut, L.mut, elemPtr, viewRows, hF]
  generalize hσ : St.mk _ _ = σ0
  obtain ⟨e, σ', q1, rfl, x0, x1, x2, x4, x5, x6, x7, x11, x12, x13, x14, x15, x16, x17, x18, x19, x20, x21, h', rfl⟩ := (LP _ _ _ _ _ _ _ _ _ _ _ _ _ _ _ _ _ _ _ σ0 hσ.symm).get
  rw [q1]
  simp [start, execL, exec, execOps, stepO, wants, fop, eop, Opd.ev, put, V.cells, plain, loadV, cut, isInt, isStr, isBool, bin, binInt, binStr_neq, binStr_eql, un, asList, L.view, viewArgs, V.view, viewL, done, finish, resultsOf, resultOf, comps, comp, giveLs, giveL, arrsOf, V.flat, L.flat, setV, setL, storeV, putAt, thaw, thawL, freezeVs, freezeLs, freezeL, V.mut, L.mut, elemPtr, viewRows]
theorem spw_loop {c0 : Int} {c1 : Bool} {c2 : Int} {c3 c4 : List (List PV)} {c5 : Int} {c6 c7 c8 c9 : List (List PV)} (hl : c3.length ≤ maxLen) (hr : ∀ r ∈ c3, HasL t_BucketS r) : ∀ (m k : Nat) (i : Int), i = k → k + m = c3.length → ∀ (acc : Int) (x0 x2 x5 x6 x7 x8 x9 x10 x11 x12 x13 x14 x15 x16 x17 x18 x19 x20 x21 x22 x23 x24 x25 x26 : V) (h : List AObj) (σ : St), σ = ⟨(x0 :: .one (.ptr 0 0 0) :: x2 :: vint .i64 acc :: vint .i64 i :: x5 :: x6 :: x7 :: x8 :: x9 :: x10 :: x11 :: x12 :: x13 :: x14 :: x15 :: x16 :: x17 :: x18 :: x19 :: x20 :: x21 :: x22 :: x23 :: x24 :: x25 :: x26 :: []), .box [.pv (.int .i64 c0), .pv (.bool c1), .pv (.int .i64 c2), .pv (.lst c3), .pv (.lst c4), .pv (.int .i64 c5), .pv (.lst c6), .pv (.lst c7), .pv (.lst c8), .pv (.lst c9)] :: h⟩ →
    Runs (loopL (exec (callL Ph extF) loopL b_spec_PendingWrites_0) σ) fun e σ' => e = .exit 0 ∧ ∃ (x0 x2 x5 x6 x7 x8 x9 x10 x11 x12 x13 x14 x15 x16 x17 x18 x19 x20 x21 x22 x23 x24 x25 x26 : V) (h' : List AObj), σ' = ⟨(x0 :: .one (.ptr 0 0 0) :: x2 :: vint .i64 ((c3.drop k).foldl (pwE) acc) :: vint .i64 (c3.length : Nat) :: x5 :: x6 :: x7 :: x8 :: x9 :: x10 :: x11 :: x12 :: x13 :: x14 :: x15 :: x16 :: x17 :: x18 :: x19 :: x20 :: x21 :: x22 :: x23 :: x24 :: x25 :: x26 :: []), .box [.pv (.int .i64 c0), .pv (.bool c1), .pv (.int .i64 c2), .pv (.lst c3), .pv (.lst c4), .pv (.int .i64 c5), .pv (.lst c6), .pv (.lst c7), .pv (.lst c8), .pv (.lst c9)] :: h'⟩ := by
  generalize hF : exec (callL Ph extF) loopL b_spec_PendingWrites_0 = F
  intro m
  induction m with
  | zero =>
    intro k i hi hk acc x0 x2 x5 x6 x7 x8 x9 x10 x11 x12 x13 x14 x15 x16 x17 x18 x19 x20 x21 x22 x23 x24 x25 x26 h σ hσ
    subst hi hσ
    have hk' : k = c3.length := by omega
    subst hk'
    rw [loopL_go0 hF]
    simp (maxSteps := 4000000) [b_spec_PendingWrites_0, start, execL, exec, execOps, stepO, wants, fop, eop, Opd.ev, put, V.cells, plain, loadV, cut, isInt, isStr, isBool, bin, binInt, binStr_neq, binStr_eql, un, asList, L.view, viewArgs, V.view, viewL, done, finish, resultsOf, resultOf, comps, comp, giveLs, giveL, arrsOf, V.flat, L.flat, setV, setL, storeV, putAt, thaw, thawL, freezeVs, freezeLs, freezeL, V.mut, L.mut, elemPtr, viewRows, Runs_some]
  | succ m ih =>
    intro k i hi hk acc x0 x2 x5 x6 x7 x8 x9 x10 x11 x12 x13 x14 x15 x16 x17 x18 x19 x20 x21 x22 x23 x24 x25 x26 h σ hσ
    subst hi hσ
    have hlt : k < c3.length := by omega
    have hw := wrap_small (k := k) (by unfold maxLen at hl; omega)
    obtain ⟨d0, d1, d2, d3, d4, d5, d6, d7, d8, d9, d10, d11, d12, d13, d14, d15, d16, d17, d18, d19, d20, d21, d22, d23, hrk, _⟩ := bucket_cells (hr _ (List.getElem_mem hlt))
    have hs : pwE acc c3[k] = IntKind.i64.wrap (acc + d19.length) := by rw [hrk]; rfl
    have key := ih (k + 1) ((k : Int) + 1) (by omega) (by omega) (IntKind.i64.wrap (acc + d19.length))
    clear ih
    rw [List.drop_eq_getElem_cons hlt, List.foldl_cons, hs]
    generalize hB : (c3.drop (k + 1)).foldl (pwE) (IntKind.i64.wrap (acc + d19.length)) = B at key ⊢
    rw [loopL_go0 hF]
    simp [b_spec_PendingWrites_0, start, execL, exec, execOps, stepO, wants, fop, eop, Opd.ev, put, V.cells, plain, loadV, cut, isInt, isStr, isBool, bin, binInt, binStr_neq, binStr_eql, un, asList, L.view, viewArgs, V.view, viewL, done, finish, resultsOf, resultOf, comps, comp, giveLs, giveL, arrsOf, V.flat, L.flat, setV, setL, storeV, putAt, thaw, thawL, freezeVs, freezeLs, freezeL, V.mut, L.mut, elemPtr, viewRows, hlt, hw, hrk]
    exact key _ _ _ _ _ _ _ _ _ _ _ _ _ _ _ _ _ _ _ _ _ _ _ _ _ _ rfl
theorem spec_PendingWrites_ok {c0 : Int} {c1 : Bool} {c2 : Int} {c3 c4 : List (List PV)} {c5 : Int} {c6 c7 c8 c9 : List (List PV)} (h : Has (.lst t_BucketS) (.lst c3)) : callL Ph extF 289 [.agg [.pv (.int .i64 c0), .pv (.bool c1), .pv (.int .i64 c2), .pv (.lst c3), .pv (.lst c4), .pv (.int .i64 c5), .pv (.lst c6), .pv (.lst c7), .pv (.lst c8), .pv (.lst c9)]] = some (vint .i64 (c3.foldl pwE 0)) := by
  obtain ⟨hl, hr⟩ := Has_rows h
  refine callL_fn (fn := f_spec_PendingWrites) rfl ?_
  have LP := spw_loop (c0 := c0) (c1 := c1) (c2 := c2) (c4 := c4) (c5 := c5) (c6 := c6) (c7 := c7) (c8 := c8) (c9 := c9) hl hr c3.length 0 0 rfl (by omega) 0
  simp only [List.drop_zero] at LP
  generalize hF : exec (callL Ph extF) loopL b_spec_PendingWrites_0 = F at LP
  simp [f_spec_PendingWrites, start, execL, exec, execOps, stepO, wants, fop, eop, Opd.ev, put, V.cells, plain, loadV, cut, isInt, isStr, isBool, bin, binInt, binStr_neq, binStr_eql, un, asList, L.view, viewArgs, V.view, viewL, done, finish, resultsOf, resultOf, comps, comp, giveLs, giveL, arrsOf, V.flat, L.flat, setV, setL, storeV, putAt, thaw, thawL, freezeVs, freezeLs, freezeL, V.mut, L.mut, elemPtr, viewRows, hF]
  generalize hσ : St.mk _ _ = σ0
  obtain ⟨e, σ', q1, rfl, x0, x2, x5, x6, x7, x8, x9, x10, x11, x12, x13, x14, x15, x16, x17, x18, x19, x20, x21, x22, x23, x24, x25, x26, h', rfl⟩ := (LP _ _ _ _ _ _ _ _ _ _ _ _ _ _ _ _ _ _ _ _ _ _ _ _ _ σ0 hσ.symm).get
  rw [q1]
  simp [start, execL, exec, execOps, stepO, wants, fop, eop, Opd.ev, put, V.cells, plain, loadV, cut, isInt, isStr, isBool, bin, binInt, binStr_neq, binStr_eql, un, asList, L.view, viewArgs, V.view, viewL, done, finish, resultsOf, resultOf, comps, comp, giveLs, giveL, arrsOf, V.flat, L.flat, setV, setL, storeV, putAt, thaw, thawL, freezeVs, freezeLs, freezeL, V.mut, L.mut, elemPtr, viewRows]

def fmtWorld (c0 : Int) (c1 : Bool) (n4 n3 : Nat) (p : Int) : List UInt8 := Lib.itoa c0 ++ ((if c1 then [32, 111, 110] else [32, 111, 102, 102]) ++ 32 :: (Lib.itoa n4 ++ 32 :: (Lib.itoa n3 ++ 32 :: Lib.itoa p)))
theorem impl_FormatWorld_ok {c0 : Int} {c1 : Bool} {c2 : Int} {c3 : List (List PV)} {c4 : List (List PV)} {c5 : Int} {c6 : List (List PV)} {c7 : List (List PV)} {c8 : List (List PV)} {c9 : List (List PV)} (g0 : Has (.int .i64) (.int .i64 c0)) (g1 : Has (.bool) (.bool c1)) (g2 : Has (.int .i64) (.int .i64 c2)) (g3 : Has (.lst t_BucketS) (.lst c3)) (g4 : Has (.lst t_PageS) (.lst c4)) (g5 : Has (.int .i64) (.int .i64 c5)) (g6 : Has (.lst t_LockS) (.lst c6)) (g7 : Has (.lst t_MailS) (.lst c7)) (g8 : Has (.lst t_SiteS) (.lst c8)) (g9 : Has (.lst t_ServerS) (.lst c9)) (hs : szL [.int .i64 c0, .bool c1, .int .i64 c2, .lst c3, .lst c4, .int .i64 c5, .lst c6, .lst c7, .lst c8, .lst c9] ≤ 1048576) : callL Ph extF 288 [.agg [.pv (.int .i64 c0), .pv (.bool c1), .pv (.int .i64 c2), .pv (.lst c3), .pv (.lst c4), .pv (.int .i64 c5), .pv (.lst c6), .pv (.lst c7), .pv (.lst c8), .pv (.lst c9)]] = some (vstr (fmtWorld c0 c1 c4.length c3.length (c3.foldl pwE 0))) := by
  have e0 := impl_FormatInt_ok g0
  have e4 := impl_FormatInt_ok (len_has (Has_rows g4).1)
  have e3 := impl_FormatInt_ok (len_has (Has_rows g3).1)
  have hp := pw_has c3 0 (len_has (n := 0) (by decide))
  have e5 := impl_PendingWrites_ok (c0 := c0) (c1 := c1) (c2 := c2) (c4 := c4) (c5 := c5) (c6 := c6) (c7 := c7) (c8 := c8) (c9 := c9) g3
  generalize c3.foldl pwE 0 = p at hp e5
  have e6 := impl_FormatInt_ok hp
  have l0 := itoa_le g0
  have l4 := itoa_le (len_has (Has_rows g4).1)
  have l3 := itoa_le (len_has (Has_rows g3).1)
  have l6 := itoa_le hp
  clear hs
  refine callL_fn (fn := f_impl_FormatWorld) rfl ?_
  cases c1 <;> simp (disch := (try simp only [List.length_append, List.length_cons, List.length_nil]); omega) [f_impl_FormatWorld, start, execL, exec, execOps, stepO, wants, fop, eop, Opd.ev, put, V.cells, plain, loadV, cut, isInt, isStr, isBool, bin, binInt, binStr_neq, binStr_eql, un, asList, L.view, viewArgs, V.view, viewL, done, finish, resultsOf, resultOf, comps, comp, giveLs, giveL, arrsOf_one, arrsOf_nil, V.flat, L.flat, setV, setL, storeV, putAt, thaw, thawL, freezeVs, freezeLs, freezeL, V.mut, L.mut, elemPtr, viewRows, e0, e3, e4, e5, e6, binStr_add, fmtWorld]

theorem spec_FormatWorld_ok {c0 : Int} {c1 : Bool} {c2 : Int} {c3 : List (List PV)} {c4 : List (List PV)} {c5 : Int} {c6 : List (List PV)} {c7 : List (List PV)} {c8 : List (List PV)} {c9 : List (List PV)} (g0 : Has (.int .i64) (.int .i64 c0)) (g1 : Has (.bool) (.bool c1)) (g2 : Has (.int .i64) (.int .i64 c2)) (g3 : Has (.lst t_BucketS) (.lst c3)) (g4 : Has (.lst t_PageS) (.lst c4)) (g5 : Has (.int .i64) (.int .i64 c5)) (g6 : Has (.lst t_LockS) (.lst c6)) (g7 : Has (.lst t_MailS) (.lst c7)) (g8 : Has (.lst t_SiteS) (.lst c8)) (g9 : Has (.lst t_ServerS) (.lst c9)) (hs : szL [.int .i64 c0, .bool c1, .int .i64 c2, .lst c3, .lst c4, .int .i64 c5, .lst c6, .lst c7, .lst c8, .lst c9] ≤ 1048576) : callL Ph extF 287 [.agg [.pv (.int .i64 c0), .pv (.bool c1), .pv (.int .i64 c2), .pv (.lst c3), .pv (.lst c4), .pv (.int .i64 c5), .pv (.lst c6), .pv (.lst c7), .pv (.lst c8), .pv (.lst c9)]] = some (vstr (fmtWorld c0 c1 c4.length c3.length (c3.foldl pwE 0))) := by
  have e0 := spec_FormatInt_ok g0
  have e4 := spec_FormatInt_ok (len_has (Has_rows g4).1)
  have e3 := spec_FormatInt_ok (len_has (Has_rows g3).1)
  have hp := pw_has c3 0 (len_has (n := 0) (by decide))
  have e5 := spec_PendingWrites_ok (c0 := c0) (c1 := c1) (c2 := c2) (c4 := c4) (c5 := c5) (c6 := c6) (c7 := c7) (c8 := c8) (c9 := c9) g3
  generalize c3.foldl pwE 0 = p at hp e5
  have e6 := spec_FormatInt_ok hp
  have l0 := itoa_le g0
  have l4 := itoa_le (len_has (Has_rows g4).1)
  have l3 := itoa_le (len_has (Has_rows g3).1)
  have l6 := itoa_le hp
  clear hs
  refine callL_fn (fn := f_spec_FormatWorld) rfl ?_
  cases c1 <;> simp (disch := (try simp only [List.length_append, List.length_cons, List.length_nil]); omega) [f_spec_FormatWorld, start, execL, exec, execOps, stepO, wants, fop, eop, Opd.ev, put, V.cells, plain, loadV, cut, isInt, isStr, isBool, bin, binInt, binStr_neq, binStr_eql, un, asList, L.view, viewArgs, V.view, viewL, done, finish, resultsOf, resultOf, comps, comp, giveLs, giveL, arrsOf_one, arrsOf_nil, V.flat, L.flat, setV, setL, storeV, putAt, thaw, thawL, freezeVs, freezeLs, freezeL, V.mut, L.mut, elemPtr, viewRows, e0, e3, e4, e5, e6, binStr_add, fmtWorld]

theorem law_World {r : List PV} (h : HasL t_World r) : callL Ph extF 284 [.agg (r.map .pv)] = some (vbool true) := by
  obtain ⟨p0, r1, rfl, g0, k1⟩ := HasL_cons h
  obtain ⟨p1, r2, rfl, g1, k2⟩ := HasL_cons k1
  obtain ⟨p2, r3, rfl, g2, k3⟩ := HasL_cons k2
  obtain ⟨p3, r4, rfl, g3, k4⟩ := HasL_cons k3
  obtain ⟨p4, r5, rfl, g4, k5⟩ := HasL_cons k4
  obtain ⟨p5, r6, rfl, g5, k6⟩ := HasL_cons k5
  obtain ⟨p6, r7, rfl, g6, k7⟩ := HasL_cons k6
  obtain ⟨p7, r8, rfl, g7, k8⟩ := HasL_cons k7
  obtain ⟨p8, r9, rfl, g8, k9⟩ := HasL_cons k8
  obtain ⟨p9, r10, rfl, g9, k10⟩ := HasL_cons k9
  obtain rfl := HasL_nil k10
  obtain ⟨c0, rfl⟩ := Has_int g0
  obtain ⟨c1, rfl⟩ := Has_bool g1
  obtain ⟨c2, rfl⟩ := Has_int g2
  obtain ⟨c3, rfl⟩ := Has_lst g3
  obtain ⟨c4, rfl⟩ := Has_lst g4
  obtain ⟨c5, rfl⟩ := Has_int g5
  obtain ⟨c6, rfl⟩ := Has_lst g6
  obtain ⟨c7, rfl⟩ := Has_lst g7
  obtain ⟨c8, rfl⟩ := Has_lst g8
  obtain ⟨c9, rfl⟩ := Has_lst g9
  show callL Ph extF 284 [.agg [.pv (.int .i64 c0), .pv (.bool c1), .pv (.int .i64 c2), .pv (.lst c3), .pv (.lst c4), .pv (.int .i64 c5), .pv (.lst c6), .pv (.lst c7), .pv (.lst c8), .pv (.lst c9)]] = _
  have m : callL Ph extF 104 [.agg [.pv (.int .i64 c0), .pv (.bool c1), .pv (.int .i64 c2), .pv (.lst c3), .pv (.lst c4), .pv (.int .i64 c5), .pv (.lst c6), .pv (.lst c7), .pv (.lst c8), .pv (.lst c9)], vint .i64 1048576] = some (vint .i64 (less 1048576 (szL [.int .i64 c0, .bool c1, .int .i64 c2, .lst c3, .lst c4, .int .i64 c5, .lst c6, .lst c7, .lst c8, .lst c9]))) := szWorld_ok (ext := extF) h 1048576 (by omega) (by omega)
  generalize q : less 1048576 (szL [.int .i64 c0, .bool c1, .int .i64 c2, .lst c3, .lst c4, .int .i64 c5, .lst c6, .lst c7, .lst c8, .lst c9]) = l at m
  refine callL_fn (fn := f_laws_FnExactFormatWorld) rfl ?_
  by_cases n : l < 0
  · simp [f_laws_FnExactFormatWorld, start, execL, exec, execOps, stepO, wants, fop, eop, Opd.ev, put, V.cells, plain, loadV, cut, isInt, isStr, isBool, bin, binInt, binStr_neq, binStr_eql, un, asList, L.view, viewArgs, V.view, viewL, done, finish, resultsOf, resultOf, comps, comp, giveLs, giveL, arrsOf, V.flat, L.flat, setV, setL, storeV, putAt, thaw, thawL, freezeVs, freezeLs, freezeL, V.mut, L.mut, elemPtr, viewRows, m, n]
  · obtain ⟨_, hs⟩ := less_pos (by omega) q n
    have hs' : szL [.int .i64 c0, .bool c1, .int .i64 c2, .lst c3, .lst c4, .int .i64 c5, .lst c6, .lst c7, .lst c8, .lst c9] ≤ 1048576 := by omega
    have e1 := toWorld_ok (ext := extF) g0 g1 g2 g3 g4 g5 g6 g7 g8 g9 hs'
    have e2 := spec_FormatWorld_ok g0 g1 g2 g3 g4 g5 g6 g7 g8 g9 hs'
    have e3 := impl_FormatWorld_ok g0 g1 g2 g3 g4 g5 g6 g7 g8 g9 hs'
    have e4 : callL Ph extF 108 [.agg [.pv (.int .i64 c0), .pv (.bool c1), .pv (.int .i64 c2), .pv (.lst c3), .pv (.lst c4), .pv (.int .i64 c5), .pv (.lst c6), .pv (.lst c7), .pv (.lst c8), .pv (.lst c9)], .agg [.pv (.int .i64 c0), .pv (.bool c1), .pv (.int .i64 c2), .pv (.lst c3), .pv (.lst c4), .pv (.int .i64 c5), .pv (.lst c6), .pv (.lst c7), .pv (.lst c8), .pv (.lst c9)]] = some (vbool true) := eqWorld_ok (ext := extF) h
    simp [f_laws_FnExactFormatWorld, start, execL, exec, execOps, stepO, wants, fop, eop, Opd.ev, put, V.cells, plain, loadV, cut, isInt, isStr, isBool, bin, binInt, binStr_neq, binStr_eql, un, asList, L.view, viewArgs, V.view, viewL, done, finish, resultsOf, resultOf, comps, comp, giveLs, giveL, arrsOf, V.flat, L.flat, setV, setL, storeV, putAt, thaw, thawL, freezeVs, freezeLs, freezeL, V.mut, L.mut, elemPtr, viewRows, m, n, e1, e2, e3, e4]
end Gi
