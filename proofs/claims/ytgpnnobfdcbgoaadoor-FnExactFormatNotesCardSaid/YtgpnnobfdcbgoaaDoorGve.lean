/- The text of a store's notes: the law. -/
import Derived.Test.YtgpnnobfdcbgoaaDoorGtb
import Derived.Test.YtgpnnobfdcbgoaaDoorGtd
namespace Gi
open Go Go.RowKit
set_option linter.unusedSimpArgs false
set_option linter.unusedVariables false
set_option maxHeartbeats 4000000
set_option maxRecDepth 4000

def itText : List PV → List UInt8
  | [.int _ a, .int _ b, .str s, .lst fs] => fmtKey a b s ++ fmtFields fs
  | _ => []
theorem item_row {r : List PV} (h : HasL t_ItemS r) : ∃ a b s fs, r = [.int .i64 a, .int .i64 b, .str s, .lst fs] ∧ Has (.int .i64) (.int .i64 b) ∧ s.length ≤ maxLen ∧ Has (.lst t_FieldS) (.lst fs) := by
  obtain ⟨p0, r1, rfl, g0, k1⟩ := HasL_cons h
  obtain ⟨p1, r2, rfl, g1, k2⟩ := HasL_cons k1
  obtain ⟨p2, r3, rfl, g2, k3⟩ := HasL_cons k2
  obtain ⟨p3, r4, rfl, g3, k4⟩ := HasL_cons k3
  obtain rfl := HasL_nil k4
  obtain ⟨c0, rfl⟩ := Has_int g0
  obtain ⟨c1, rfl⟩ := Has_int g1
  obtain ⟨c2, rfl⟩ := Has_str g2
  obtain ⟨c3, rfl⟩ := Has_lst g3
  exact ⟨c0, c1, c2, c3, rfl, g1, g2, g3⟩
theorem itText_len {r : List PV} (h : HasL t_ItemS r) : (itText r).length ≤ 100 + 24 * szL r := by
  obtain ⟨a, b, s, fs, rfl, hb, hs, hf⟩ := item_row h
  have l1 := fmtKey_len (a := a) (s := s) hb
  have l2 := fmtFields_len (Has_rows hf).2
  have l3 := sz_lst fs
  simp only [itText, szL, List.length_append]
  generalize sz (.lst fs) = q at l3 ⊢
  generalize szRows fs = q' at l3 l2
  generalize sz (.int .i64 a) = q1
  generalize sz (.int .i64 b) = q2
  generalize sz (.str s) = q3
  omega
def notesT : Bool → List (List PV) → List UInt8
  | _, [] => []
  | b, r :: rs => (if b then [] else [59, 32]) ++ (itText r ++ notesT false rs)
theorem notesT_len : ∀ (b : Bool) {rows : List (List PV)}, (∀ r ∈ rows, HasL t_ItemS r) → (notesT b rows).length ≤ 102 * rows.length + 24 * szRows rows
  | _, [], _ => by simp [notesT]
  | b, r :: rows, h => by
    have l1 := itText_len (h r List.mem_cons_self)
    have l2 := notesT_len false (fun r m => h r (List.mem_cons_of_mem _ m))
    simp only [notesT, List.length_append, List.length_cons, szRows]
    generalize szL r = q at l1 ⊢
    generalize szRows rows = q' at l2 ⊢
    cases b
    · simp only [Bool.false_eq_true, if_false, List.length_cons, List.length_nil]; omega
    · simp only [if_true, List.length_nil]; omega
theorem notesT_tail : ∀ (rows : List (List PV)), notesT false rows = Lib.joinTail [59, 32] (rows.map itText)
  | [] => rfl
  | r :: rows => by
    have := notesT_tail rows
    simp only [notesT, this, Lib.joinTail, List.map_cons, List.flatten_cons, Bool.false_eq_true, if_false, List.append_assoc]
theorem notesT_join : ∀ {rows : List (List PV)}, rows ≠ [] → notesT true rows = Lib.join (rows.map itText) [59, 32]
  | [], h => absurd rfl h
  | r :: rows, _ => by
    rw [List.map_cons, Lib.join_cons, ← notesT_tail]
    simp [notesT]
def itRow (r : List PV) : List PV := [.str (itText r)]
theorem strsOf_it : ∀ (rows : List (List PV)), strsOf (rows.map itRow) = some (rows.map itText)
  | [] => rfl
  | r :: rows => by simp [strsOf, itRow, strsOf_it rows]

def ifnQ (rows es : List (List PV)) (e : Ex) (σ' : St) : Prop := e = .exit 0 ∧ ∃ (x0 x1 x2 x4 x5 x6 x7 x8 x9 x10 x11 x15 x16 x17 x18 x19 x20 x21 x22 x23 x24 x25 : V) (h' : List AObj) (o' : Nat), h'[o']? = some (.arr 1 es) ∧ σ' = ⟨(x0 :: x1 :: x2 :: .one (.arr o') :: x4 :: x5 :: x6 :: x7 :: x8 :: x9 :: x10 :: x11 :: vlst rows :: vint .i64 rows.length :: vint .i64 (rows.length : Nat) :: x15 :: x16 :: x17 :: x18 :: x19 :: x20 :: x21 :: x22 :: x23 :: x24 :: x25 :: []), h'⟩
theorem ifn_loop {rows : List (List PV)} (hl : rows.length ≤ 1048576) (hr : ∀ r ∈ rows, HasL t_ItemS r) (hz : ∀ r ∈ rows, szL r ≤ 1048576) : ∀ (m k : Nat) (i : Int), i = k → k + m = rows.length → ∀ (acc : List (List PV)), acc.length = k → ∀ (x0 x1 x2 x4 x5 x6 x7 x8 x9 x10 x11 x15 x16 x17 x18 x19 x20 x21 x22 x23 x24 x25 : V) (h : List AObj) (o : Nat) (ho : o < h.length) (hoo : h[o]? = some (.arr 1 acc)) (σ : St), σ = ⟨(x0 :: x1 :: x2 :: .one (.arr o) :: x4 :: x5 :: x6 :: x7 :: x8 :: x9 :: x10 :: x11 :: vlst rows :: vint .i64 rows.length :: vint .i64 i :: x15 :: x16 :: x17 :: x18 :: x19 :: x20 :: x21 :: x22 :: x23 :: x24 :: x25 :: []), h⟩ →
    Runs (loopL (exec (callL Ph extF) loopL b_impl_FormatNotes_0) σ) (ifnQ rows (acc ++ (rows.drop k).map itRow)) := by
  generalize hF : exec (callL Ph extF) loopL b_impl_FormatNotes_0 = F
  intro m
  induction m with
  | zero =>
    intro k i hi hk acc ha x0 x1 x2 x4 x5 x6 x7 x8 x9 x10 x11 x15 x16 x17 x18 x19 x20 x21 x22 x23 x24 x25 h o ho hoo σ hσ
    subst hi hσ
    have hk' : k = rows.length := by omega
    subst hk'
    rw [loopL_go0 hF]
    simp [b_impl_FormatNotes_0, start, execL, exec, execOps, stepO, wants, fop, eop, Opd.ev, put, V.cells, plain, loadV, cut, isInt, isStr, isBool, bin, binInt, binStr_neq, binStr_eql, un, asList, L.view, viewArgs, V.view, viewL, done, finish, resultsOf, resultOf, comps, comp, giveLs, giveL, arrsOf, V.flat, L.flat, setV, setL, storeV, putAt, thaw, thawL, freezeVs, freezeLs, freezeL, V.mut, L.mut, elemPtr, viewRows]
    rw [Runs_some]
    exact ⟨rfl, _, _, _, _, _, _, _, _, _, _, _, _, _, _, _, _, _, _, _, _, _, _, h, o, by simpa using hoo, rfl⟩
  | succ m ih =>
    intro k i hi hk acc ha x0 x1 x2 x4 x5 x6 x7 x8 x9 x10 x11 x15 x16 x17 x18 x19 x20 x21 x22 x23 x24 x25 h o ho hoo σ hσ
    subst hi hσ
    have hlt : k < rows.length := by omega
    have hw := wrap_small (k := k) (by omega)
    have hzk := hz _ (List.getElem_mem hlt)
    obtain ⟨a, b, s, fs, hrk, hb, hs, hf⟩ := item_row (hr _ (List.getElem_mem hlt))
    rw [hrk] at hzk
    have e1 := impl_FormatItem_ok (a := a) hb hs hf (by simp only [szL] at hzk; omega)
    have key := ih (k + 1) ((k : Int) + 1) (by omega) (by omega) (acc ++ [itRow rows[k]]) (by simp [ha])
    clear ih
    have hir : itRow rows[k] = [.str (fmtKey a b s ++ fmtFields fs)] := by rw [hrk]; rfl
    rw [List.drop_eq_getElem_cons hlt, List.map_cons]
    rw [hir] at key ⊢
    generalize fmtKey a b s ++ fmtFields fs = tx at e1 key ⊢
    rw [List.append_assoc, List.singleton_append] at key
    generalize acc ++ [PV.str tx] :: (rows.drop (k + 1)).map itRow = R at key ⊢
    have hne : (h.length + 1 == o) = false := by simp; omega
    have c1 : (acc.length + 1) * 16 ≤ 140737488355328 := by omega
    have c2 : acc.length + 1 ≤ 9223372036854775807 := by omega
    have c3 : acc.length ≤ 9223372036854775806 := by omega
    have c4 : acc.length < 9223372036854775807 := by omega
    have ho1 : o < h.length + 1 := by omega
    have hog : h[o] = AObj.arr 1 acc := by
      rw [List.getElem?_eq_getElem ho] at hoo
      exact Option.some.inj hoo
    rw [loopL_go0 hF]
    simp [b_impl_FormatNotes_0, start, execL, exec, execOps, stepO, wants, fop, eop, Opd.ev, put, V.cells, plain, loadV, cut, isInt, isStr, isBool, bin, binInt, binStr_neq, binStr_eql, un, asList, L.view, viewArgs, V.view, viewL, done, finish, resultsOf, resultOf, comps, comp, giveLs, giveL, arrsOf, V.flat, L.flat, setV, setL, storeV, putAt, thaw, thawL, freezeVs, freezeLs, freezeL, V.mut, L.mut, elemPtr, viewRows, hlt, hw, hrk, e1, hoo, hog, hne, c1, c2, c3, c4, ho, ho1, List.getElem?_append, L.notArr]
    refine key _ _ _ _ _ _ _ _ _ _ _ _ _ _ _ _ _ _ _ _ _ _ _ _ ?_ ?_ _ rfl
    · simp
    · simp
theorem sfn_loop {nm : List UInt8} {rows : List (List PV)} {au : Int} (hl : rows.length ≤ 1048576) (hr : ∀ r ∈ rows, HasL t_ItemS r) (hz : ∀ r ∈ rows, szL r ≤ 1048576) : ∀ (m k : Nat) (i : Int), i = k → k + m = rows.length → ∀ (acc : List UInt8), acc.length + (notesT (k == 0) (rows.drop k)).length ≤ 1000000000 → ∀ (x0 x2 x5 x6 x7 x8 x9 x10 x11 x12 x13 x14 x15 x16 x17 x18 x19 x20 x21 x22 x23 x24 x25 x26 x27 x28 : V) (h : List AObj) (σ : St), σ = ⟨(x0 :: .one (.ptr 0 0 0) :: x2 :: vstr acc :: vint .i64 i :: x5 :: x6 :: x7 :: x8 :: x9 :: x10 :: x11 :: x12 :: x13 :: x14 :: x15 :: x16 :: x17 :: x18 :: x19 :: x20 :: x21 :: x22 :: x23 :: x24 :: x25 :: x26 :: x27 :: x28 :: []), .box [.pv (.str nm), .pv (.lst rows), .pv (.int .i64 au)] :: h⟩ →
    Runs (loopL (exec (callL Ph extF) loopL b_spec_FormatNotes_0) σ) fun e σ' => e = .exit 0 ∧ ∃ (x0 x2 x5 x6 x7 x8 x9 x10 x11 x12 x13 x14 x15 x16 x17 x18 x19 x20 x21 x22 x23 x24 x25 x26 x27 x28 : V) (h' : List AObj), σ' = ⟨(x0 :: .one (.ptr 0 0 0) :: x2 :: vstr (acc ++ notesT (k == 0) (rows.drop k)) :: vint .i64 (rows.length : Nat) :: x5 :: x6 :: x7 :: x8 :: x9 :: x10 :: x11 :: x12 :: x13 :: x14 :: x15 :: x16 :: x17 :: x18 :: x19 :: x20 :: x21 :: x22 :: x23 :: x24 :: x25 :: x26 :: x27 :: x28 :: []), .box [.pv (.str nm), .pv (.lst rows), .pv (.int .i64 au)] :: h'⟩ := by
  generalize hF : exec (callL Ph extF) loopL b_spec_FormatNotes_0 = F
  intro m
  induction m with
  | zero =>
    intro k i hi hk acc ha x0 x2 x5 x6 x7 x8 x9 x10 x11 x12 x13 x14 x15 x16 x17 x18 x19 x20 x21 x22 x23 x24 x25 x26 x27 x28 h σ hσ
    subst hi hσ
    have hk' : k = rows.length := by omega
    subst hk'
    rw [loopL_go0 hF]
    simp [b_spec_FormatNotes_0, start, execL, exec, execOps, stepO, wants, fop, eop, Opd.ev, put, V.cells, plain, loadV, cut, isInt, isStr, isBool, bin, binInt, binStr_neq, binStr_eql, un, asList, L.view, viewArgs, V.view, viewL, done, finish, resultsOf, resultOf, comps, comp, giveLs, giveL, arrsOf, V.flat, L.flat, setV, setL, storeV, putAt, thaw, thawL, freezeVs, freezeLs, freezeL, V.mut, L.mut, elemPtr, viewRows, Runs_some, notesT]
  | succ m ih =>
    intro k i hi hk acc ha x0 x2 x5 x6 x7 x8 x9 x10 x11 x12 x13 x14 x15 x16 x17 x18 x19 x20 x21 x22 x23 x24 x25 x26 x27 x28 h σ hσ
    subst hi hσ
    have hlt : k < rows.length := by omega
    have hw := wrap_small (k := k) (by omega)
    have hzk := hz _ (List.getElem_mem hlt)
    obtain ⟨a, b, s, fs, hrk, hb, hs, hf⟩ := item_row (hr _ (List.getElem_mem hlt))
    have hir : itText rows[k] = fmtKey a b s ++ fmtFields fs := by rw [hrk]; rfl
    rw [hrk] at hzk
    have e1 := spec_FormatItem_ok (a := a) hb hs hf (by simp only [szL] at hzk; omega)
    rw [← hir] at e1
    have hk1 : (k + 1 == 0) = false := by simp
    have key := ih (k + 1) ((k : Int) + 1) (by omega) (by omega) (acc ++ ((if (k == 0) then [] else [59, 32]) ++ itText rows[k]))
    rw [hk1] at key
    clear ih
    rw [List.drop_eq_getElem_cons hlt, notesT] at ha ⊢
    generalize itText rows[k] = tx at e1 key ha ⊢
    generalize notesT false (rows.drop (k + 1)) = R at key ha ⊢
    rw [loopL_go0 hF]
    rcases Nat.eq_zero_or_pos k with rfl | hpos
    · simp only [beq_self_eq_true, if_true, List.nil_append, List.length_append, List.length_nil] at key ha
      have key := key (by omega)
      simp (disch := (try simp only [List.length_append, List.length_cons, List.length_nil]); omega) [b_spec_FormatNotes_0, start, execL, exec, execOps, stepO, wants, fop, eop, Opd.ev, put, V.cells, plain, loadV, cut, isInt, isStr, isBool, bin, binInt, binStr_neq, binStr_eql, un, asList, L.view, viewArgs, V.view, viewL, done, finish, resultsOf, resultOf, comps, comp, giveLs, giveL, arrsOf, V.flat, L.flat, setV, setL, storeV, putAt, thaw, thawL, freezeVs, freezeLs, freezeL, V.mut, L.mut, elemPtr, viewRows, hlt, hw, hrk, e1, binStr_add]
      simp at key
      exact key _ _ _ _ _ _ _ _ _ _ _ _ _ _ _ _ _ _ _ _ _ _ _ _ _ _ _
    · have hb0 : (k == 0) = false := by simp; omega
      simp only [hb0, Bool.false_eq_true, if_false, List.length_append, List.length_cons, List.length_nil] at key ha
      have key := key (by omega)
      have hp : (0 : Int) < (k : Int) := by omega
      rw [hb0]
      simp (disch := (try simp only [List.length_append, List.length_cons, List.length_nil]); omega) [b_spec_FormatNotes_0, start, execL, exec, execOps, stepO, wants, fop, eop, Opd.ev, put, V.cells, plain, loadV, cut, isInt, isStr, isBool, bin, binInt, binStr_neq, binStr_eql, un, asList, L.view, viewArgs, V.view, viewL, done, finish, resultsOf, resultOf, comps, comp, giveLs, giveL, arrsOf, V.flat, L.flat, setV, setL, storeV, putAt, thaw, thawL, freezeVs, freezeLs, freezeL, V.mut, L.mut, elemPtr, viewRows, hlt, hw, hrk, e1, hp, hpos, binStr_add]
      simp at key
      exact key _ _ _ _ _ _ _ _ _ _ _ _ _ _ _ _ _ _ _ _ _ _ _ _ _ _ _

def fmtNotes (rows : List (List PV)) : List UInt8 := if rows.length = 0 then [45] else notesT true rows
theorem notes_hyps {c0 : List UInt8} {c1 : List (List PV)} {c2 : Int} (g1 : Has (.lst t_ItemS) (.lst c1)) (hs : szL [.str c0, .lst c1, .int .i64 c2] ≤ 1048576) : c1.length ≤ 1048576 ∧ (∀ r ∈ c1, HasL t_ItemS r) ∧ (∀ r ∈ c1, szL r ≤ 1048576) ∧ (notesT true c1).length ≤ 200000000 := by
  have l3 := sz_lst c1
  have hr := (Has_rows g1).2
  have l4 := notesT_len true hr
  have hs1 : sz (.lst c1) ≤ 1048576 := by simp only [szL] at hs; omega
  refine ⟨by omega, hr, fun r hm => ?_, by omega⟩
  have : szL r ≤ szRows c1 := szRows_mem hm
  omega
theorem impl_FormatNotes_ok {c0 : List UInt8} {c1 : List (List PV)} {c2 : Int} (g0 : Has (.str) (.str c0)) (g1 : Has (.lst t_ItemS) (.lst c1)) (g2 : Has (.int .i64) (.int .i64 c2)) (hs : szL [.str c0, .lst c1, .int .i64 c2] ≤ 1048576) : callL Ph extF 23 [.agg [.pv (.str c0), .pv (.lst c1), .pv (.int .i64 c2)]] = some (vstr (fmtNotes c1)) := by
  obtain ⟨hl, hr, hz, hn⟩ := notes_hyps g1 hs
  clear hs
  refine callL_fn (fn := f_impl_FormatNotes) rfl ?_
  cases c1 with
  | nil =>
    generalize hF : exec (callL Ph extF) loopL b_impl_FormatNotes_0 = F
    simp [f_impl_FormatNotes, start, execL, exec, execOps, stepO, wants, fop, eop, Opd.ev, put, V.cells, plain, loadV, cut, isInt, isStr, isBool, bin, binInt, binStr_neq, binStr_eql, un, asList, L.view, viewArgs, V.view, viewL, done, finish, resultsOf, resultOf, comps, comp, giveLs, giveL, arrsOf, V.flat, L.flat, setV, setL, storeV, putAt, thaw, thawL, freezeVs, freezeLs, freezeL, V.mut, L.mut, elemPtr, viewRows, hF, fmtNotes]
  | cons r rows =>
    have LP := ifn_loop hl hr hz (r :: rows).length 0 0 rfl (by omega) [] rfl
    simp only [List.drop_zero, List.nil_append] at LP
    have hj := notesT_join (rows := r :: rows) (by simp)
    have e1 : callL Ph extF 54 [vlst ((r :: rows).map itRow), vstr [59, 32]] = some (vstr (notesT true (r :: rows))) := by
      refine callL_ext rfl ?_
      simp only [extF, strsOf_it, ← hj]
      rw [if_pos ⟨by simp only [List.length_map]; omega, by omega⟩]
    have hfn : fmtNotes (r :: rows) = notesT true (r :: rows) := by simp [fmtNotes]
    rw [hfn]
    generalize notesT true (r :: rows) = tx at e1
    have hl0 : (((r :: rows).length : Int) == 0) = false := by simp; omega
    generalize (r :: rows) = rr at *
    generalize hF : exec (callL Ph extF) loopL b_impl_FormatNotes_0 = F at LP
    simp [f_impl_FormatNotes, start, execL, exec, execOps, stepO, wants, fop, eop, Opd.ev, put, V.cells, plain, loadV, cut, isInt, isStr, isBool, bin, binInt, binStr_neq, binStr_eql, un, asList, L.view, viewArgs, V.view, viewL, done, finish, resultsOf, resultOf, comps, comp, giveLs, giveL, arrsOf, V.flat, L.flat, setV, setL, storeV, putAt, thaw, thawL, freezeVs, freezeLs, freezeL, V.mut, L.mut, elemPtr, viewRows, hF, hl0]
    generalize hσ : St.mk _ _ = σ0
    obtain ⟨e, σ', q1, rfl, x0, x1, x2, x4, x5, x6, x7, x8, x9, x10, x11, x15, x16, x17, x18, x19, x20, x21, x22, x23, x24, x25, h', o', hoo, rfl⟩ := (LP _ _ _ _ _ _ _ _ _ _ _ _ _ _ _ _ _ _ _ _ _ _ [.box [.pv (.str c0), .pv (.lst rr), .pv (.int .i64 c2)], .arr 1 []] 1 (by simp) rfl σ0 hσ.symm).get
    rw [q1]
    simp [start, execL, exec, execOps, stepO, wants, fop, eop, Opd.ev, put, V.cells, plain, loadV, cut, isInt, isStr, isBool, bin, binInt, binStr_neq, binStr_eql, un, asList, L.view, viewArgs, V.view, viewL, done, finish, resultsOf, resultOf, comps, comp, giveLs, giveL, arrsOf, V.flat, L.flat, setV, setL, storeV, putAt, thaw, thawL, freezeVs, freezeLs, freezeL, V.mut, L.mut, elemPtr, viewRows, hoo, e1]

theorem spec_FormatNotes_ok {c0 : List UInt8} {c1 : List (List PV)} {c2 : Int} (g0 : Has (.str) (.str c0)) (g1 : Has (.lst t_ItemS) (.lst c1)) (g2 : Has (.int .i64) (.int .i64 c2)) (hs : szL [.str c0, .lst c1, .int .i64 c2] ≤ 1048576) : callL Ph extF 21 [.agg [.pv (.str c0), .pv (.lst c1), .pv (.int .i64 c2)]] = some (vstr (fmtNotes c1)) := by
  obtain ⟨hl, hr, hz, hn⟩ := notes_hyps g1 hs
  clear hs
  refine callL_fn (fn := f_spec_FormatNotes) rfl ?_
  cases c1 with
  | nil =>
    generalize hF : exec (callL Ph extF) loopL b_spec_FormatNotes_0 = F
    simp [f_spec_FormatNotes, start, execL, exec, execOps, stepO, wants, fop, eop, Opd.ev, put, V.cells, plain, loadV, cut, isInt, isStr, isBool, bin, binInt, binStr_neq, binStr_eql, un, asList, L.view, viewArgs, V.view, viewL, done, finish, resultsOf, resultOf, comps, comp, giveLs, giveL, arrsOf, V.flat, L.flat, setV, setL, storeV, putAt, thaw, thawL, freezeVs, freezeLs, freezeL, V.mut, L.mut, elemPtr, viewRows, hF, fmtNotes]
  | cons r rows =>
    have LP := sfn_loop (nm := c0) (au := c2) hl hr hz (r :: rows).length 0 0 rfl (by omega) [] (by simp only [List.drop_zero, beq_self_eq_true, List.length_nil]; omega)
    simp only [List.drop_zero, List.nil_append, beq_self_eq_true] at LP
    have hfn : fmtNotes (r :: rows) = notesT true (r :: rows) := by simp [fmtNotes]
    rw [hfn]
    generalize notesT true (r :: rows) = tx at LP hn
    have hl0 : (((r :: rows).length : Int) == 0) = false := by simp; omega
    generalize (r :: rows) = rr at *
    generalize hF : exec (callL Ph extF) loopL b_spec_FormatNotes_0 = F at LP
    simp [f_spec_FormatNotes, start, execL, exec, execOps, stepO, wants, fop, eop, Opd.ev, put, V.cells, plain, loadV, cut, isInt, isStr, isBool, bin, binInt, binStr_neq, binStr_eql, un, asList, L.view, viewArgs, V.view, viewL, done, finish, resultsOf, resultOf, comps, comp, giveLs, giveL, arrsOf, V.flat, L.flat, setV, setL, storeV, putAt, thaw, thawL, freezeVs, freezeLs, freezeL, V.mut, L.mut, elemPtr, viewRows, hF, hl0]
    generalize hσ : St.mk _ _ = σ0
    obtain ⟨e, σ', q1, rfl, x0, x2, x5, x6, x7, x8, x9, x10, x11, x12, x13, x14, x15, x16, x17, x18, x19, x20, x21, x22, x23, x24, x25, x26, x27, x28, h', rfl⟩ := (LP _ _ _ _ _ _ _ _ _ _ _ _ _ _ _ _ _ _ _ _ _ _ _ _ _ _ _ σ0 hσ.symm).get
    rw [q1]
    simp [start, execL, exec, execOps, stepO, wants, fop, eop, Opd.ev, put, V.cells, plain, loadV, cut, isInt, isStr, isBool, bin, binInt, binStr_neq, binStr_eql, un, asList, L.view, viewArgs, V.view, viewL, done, finish, resultsOf, resultOf, comps, comp, giveLs, giveL, arrsOf, V.flat, L.flat, setV, setL, storeV, putAt, thaw, thawL, freezeVs, freezeLs, freezeL, V.mut, L.mut, elemPtr, viewRows]

theorem law_Store {r : List PV} (h : HasL t_Store r) : callL Ph extF 3 [.agg (r.map .pv)] = some (vbool true) := by
  obtain ⟨p0, r1, rfl, g0, k1⟩ := HasL_cons h
  obtain ⟨p1, r2, rfl, g1, k2⟩ := HasL_cons k1
  obtain ⟨p2, r3, rfl, g2, k3⟩ := HasL_cons k2
  obtain rfl := HasL_nil k3
  obtain ⟨c0, rfl⟩ := Has_str g0
  obtain ⟨c1, rfl⟩ := Has_lst g1
  obtain ⟨c2, rfl⟩ := Has_int g2
  show callL Ph extF 3 [.agg [.pv (.str c0), .pv (.lst c1), .pv (.int .i64 c2)]] = _
  have m : callL Ph extF 20 [.agg [.pv (.str c0), .pv (.lst c1), .pv (.int .i64 c2)], vint .i64 1048576] = some (vint .i64 (less 1048576 (szL [.str c0, .lst c1, .int .i64 c2]))) := szStore_ok (ext := extF) h 1048576 (by omega) (by omega)
  generalize q : less 1048576 (szL [.str c0, .lst c1, .int .i64 c2]) = l at m
  refine callL_fn (fn := f_laws_FnExactFormatNotes) rfl ?_
  by_cases n : l < 0
  · simp [f_laws_FnExactFormatNotes, start, execL, exec, execOps, stepO, wants, fop, eop, Opd.ev, put, V.cells, plain, loadV, cut, isInt, isStr, isBool, bin, binInt, binStr_neq, binStr_eql, un, asList, L.view, viewArgs, V.view, viewL, done, finish, resultsOf, resultOf, comps, comp, giveLs, giveL, arrsOf, V.flat, L.flat, setV, setL, storeV, putAt, thaw, thawL, freezeVs, freezeLs, freezeL, V.mut, L.mut, elemPtr, viewRows, m, n]
  · obtain ⟨_, hs⟩ := less_pos (by omega) q n
    have hs' : szL [.str c0, .lst c1, .int .i64 c2] ≤ 1048576 := by omega
    have e1 := toStore_ok (ext := extF) g0 g1 g2 hs'
    have e2 := spec_FormatNotes_ok g0 g1 g2 hs'
    have e3 := impl_FormatNotes_ok g0 g1 g2 hs'
    have e4 : callL Ph extF 24 [.agg [.pv (.str c0), .pv (.lst c1), .pv (.int .i64 c2)], .agg [.pv (.str c0), .pv (.lst c1), .pv (.int .i64 c2)]] = some (vbool true) := eqStore_ok (ext := extF) h
    simp [f_laws_FnExactFormatNotes, start, execL, exec, execOps, stepO, wants, fop, eop, Opd.ev, put, V.cells, plain, loadV, cut, isInt, isStr, isBool, bin, binInt, binStr_neq, binStr_eql, un, asList, L.view, viewArgs, V.view, viewL, done, finish, resultsOf, resultOf, comps, comp, giveLs, giveL, arrsOf, V.flat, L.flat, setV, setL, storeV, putAt, thaw, thawL, freezeVs, freezeLs, freezeL, V.mut, L.mut, elemPtr, viewRows, m, n, e1, e2, e3, e4]
end Gi
