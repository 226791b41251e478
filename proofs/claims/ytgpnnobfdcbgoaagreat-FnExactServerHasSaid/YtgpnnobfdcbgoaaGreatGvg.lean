/- Stores copied; what a server has: the law. -/
import Derived.Test.YtgpnnobfdcbgoaaGreatGvf
namespace Gi
open Go Go.RowKit
set_option linter.unusedSimpArgs false
set_option linter.unusedVariables false
set_option maxHeartbeats 4000000
set_option maxRecDepth 4000

theorem server_cells {r : List PV} (h : HasL t_ServerS r) : ∃ (c0 : List UInt8) (c1 : List (List PV)) (c2 : Int) (c3 : List (List PV)) (c4 : List (List PV)), r = [.str c0, .lst c1, .int .i64 c2, .lst c3, .lst c4] ∧ Has (.str) (.str c0) ∧ Has (.lst t_ItemS) (.lst c1) ∧ Has (.int .i64) (.int .i64 c2) ∧ Has (.lst t_AppliedS) (.lst c3) ∧ Has (.lst t_WriteS) (.lst c4) := by
  obtain ⟨p0, r1, rfl, g0, k1⟩ := HasL_cons h
  obtain ⟨p1, r2, rfl, g1, k2⟩ := HasL_cons k1
  obtain ⟨p2, r3, rfl, g2, k3⟩ := HasL_cons k2
  obtain ⟨p3, r4, rfl, g3, k4⟩ := HasL_cons k3
  obtain ⟨p4, r5, rfl, g4, k5⟩ := HasL_cons k4
  obtain rfl := HasL_nil k5
  obtain ⟨c0, rfl⟩ := Has_str g0
  obtain ⟨c1, rfl⟩ := Has_lst g1
  obtain ⟨c2, rfl⟩ := Has_int g2
  obtain ⟨c3, rfl⟩ := Has_lst g3
  obtain ⟨c4, rfl⟩ := Has_lst g4
  exact ⟨c0, c1, c2, c3, c4, rfl, g0, g1, g2, g3, g4⟩
theorem szL_mem : ∀ {ps : List PV} {p : PV}, p ∈ ps → sz p ≤ szL ps
  | q :: ps, p, h => by
    simp only [szL]
    rcases List.mem_cons.1 h with rfl | h
    · omega
    · have := szL_mem h
      omega
theorem lst_small {c : List (List PV)} {n : Nat} (h : sz (.lst c) ≤ n) : c.length ≤ n ∧ ∀ r ∈ c, szL r ≤ n := by
  rw [sz_lst] at h
  refine ⟨by omega, fun r m => ?_⟩
  have := szRows_mem m
  omega

/-! ### copies of records and items -/
theorem impl_copyRecord_ok {rows : List (List PV)} (h : Has (.lst t_FieldS) (.lst rows)) (hn : rows.length ≤ 1048576) : callL Ph extF 242 [.agg [.pv (.lst rows)]] = some (.agg [.own 2 rows]) := by
  have hall : rows.all (fun e => e.length == 2) = true := by
    rw [List.all_eq_true]
    intro r m
    have : r.length = 2 := HasL_len ((Has_rows h).2 r m)
    simpa using this
  have c1 : rows.length * 24 ≤ 140737488355328 := by omega
  have c2 : rows.length ≤ 9223372036854775807 := by omega
  refine callL_fn (fn := f_impl_copyRecord) rfl ?_
  simp [f_impl_copyRecord, start, execL, exec, execOps, stepO, wants, fop, eop, Opd.ev, put, V.cells, plain, loadV, cut, isInt, isStr, isBool, bin, binInt, binStr_neq, binStr_eql, un, asList, L.view, viewArgs, V.view, viewL, done, finish, resultsOf, resultOf, comps, comp, giveLs, giveL, arrsOf, V.flat, L.flat, setV, setL, storeV, putAt, thaw, thawL, freezeVs, freezeLs, freezeL, V.mut, L.mut, elemPtr, viewRows, fillL, L.notArr, ↓hall, c1, c2]
theorem spec_l5Copy_ok {rows : List (List PV)} (h : Has (.lst t_FieldS) (.lst rows)) (hn : rows.length ≤ 1048576) : callL Ph extF 239 [.agg [.pv (.lst rows)]] = some (.agg [.own 2 rows]) := by
  have hall : rows.all (fun e => e.length == 2) = true := by
    rw [List.all_eq_true]
    intro r m
    have : r.length = 2 := HasL_len ((Has_rows h).2 r m)
    simpa using this
  have c1 : rows.length * 24 ≤ 140737488355328 := by omega
  have c2 : rows.length ≤ 9223372036854775807 := by omega
  refine callL_fn (fn := f_spec_l5Copy) rfl ?_
  simp [f_spec_l5Copy, start, execL, exec, execOps, stepO, wants, fop, eop, Opd.ev, put, V.cells, plain, loadV, cut, isInt, isStr, isBool, bin, binInt, binStr_neq, binStr_eql, un, asList, L.view, viewArgs, V.view, viewL, done, finish, resultsOf, resultOf, comps, comp, giveLs, giveL, arrsOf, V.flat, L.flat, setV, setL, storeV, putAt, thaw, thawL, freezeVs, freezeLs, freezeL, V.mut, L.mut, elemPtr, viewRows, fillL, L.notArr, ↓hall, c1, c2]
theorem impl_copyItem_ok {a b : Int} {s : List UInt8} {fs : List (List PV)} (h : Has (.lst t_FieldS) (.lst fs)) (hn : fs.length ≤ 1048576) : callL Ph extF 218 [.agg [.pv (.int .i64 a), .pv (.int .i64 b), .pv (.str s), .pv (.lst fs)]] = some (.agg [.pv (.int .i64 a), .pv (.int .i64 b), .pv (.str s), .pv (.lst fs)]) := by
  have e1 := impl_copyRecord_ok h hn
  refine callL_fn (fn := f_impl_copyItem) rfl ?_
  simp [f_impl_copyItem, start, execL, exec, execOps, stepO, wants, fop, eop, Opd.ev, put, V.cells, plain, loadV, cut, isInt, isStr, isBool, bin, binInt, binStr_neq, binStr_eql, un, asList, L.view, viewArgs, V.view, viewL, done, finish, resultsOf, resultOf, comps, comp, giveLs, giveL, arrsOf, V.flat, L.flat, setV, setL, storeV, putAt, thaw, thawL, freezeVs, freezeLs, freezeL, V.mut, L.mut, elemPtr, viewRows, fillL, e1]
theorem spec_l6Item_ok {a b : Int} {s : List UInt8} {fs : List (List PV)} (h : Has (.lst t_FieldS) (.lst fs)) (hn : fs.length ≤ 1048576) : callL Ph extF 214 [.agg [.pv (.int .i64 a), .pv (.int .i64 b), .pv (.str s), .pv (.lst fs)]] = some (.agg [.pv (.int .i64 a), .pv (.int .i64 b), .pv (.str s), .pv (.lst fs)]) := by
  have e1 := spec_l5Copy_ok h hn
  refine callL_fn (fn := f_spec_l6Item) rfl ?_
  simp [f_spec_l6Item, start, execL, exec, execOps, stepO, wants, fop, eop, Opd.ev, put, V.cells, plain, loadV, cut, isInt, isStr, isBool, bin, binInt, binStr_neq, binStr_eql, un, asList, L.view, viewArgs, V.view, viewL, done, finish, resultsOf, resultOf, comps, comp, giveLs, giveL, arrsOf, V.flat, L.flat, setV, setL, storeV, putAt, thaw, thawL, freezeVs, freezeLs, freezeL, V.mut, L.mut, elemPtr, viewRows, fillL, e1]

/-! ### copies of stores -/
def ownL : List (List PV) → L
  | [] => .nil
  | r :: rs => .own 4 (r :: rs)
def stV (nm : List UInt8) (rows : List (List PV)) (nx : Int) : V := .agg [.pv (.str nm), ownL rows, .pv (.int .i64 nx)]
/-- the cell of a store's items, while they are gathered: the array lies behind the first three variables -/
def IL (h : List AObj) (il : L) (es : List (List PV)) : Prop := (il = .nil ∧ es = []) ∨ (es ≠ [] ∧ ∃ p, il = .arr (p + 3) ∧ p < h.length ∧ h[p]? = some (.arr 4 es))

def icsQ (rows : List (List PV)) (b0 b1 : AObj) (nm : List UInt8) (nx : Int) (e : Ex) (σ' : St) : Prop := e = .exit 0 ∧ ∃ (x0 x1 x4 x5 x6 x7 x8 x9 x10 x11 x15 x16 x17 x18 x19 x20 x21 x22 x23 x24 x25 x26 : V) (h' : List AObj) (il' : L), IL h' il' rows ∧ σ' = ⟨(x0 :: x1 :: .one (.ptr 1 0 0) :: .one (.ptr 2 0 0) :: x4 :: x5 :: x6 :: x7 :: x8 :: x9 :: x10 :: x11 :: vlst rows :: vint .i64 rows.length :: vint .i64 (rows.length : Nat) :: x15 :: x16 :: x17 :: x18 :: x19 :: x20 :: x21 :: x22 :: x23 :: x24 :: x25 :: x26 :: []), b0 :: b1 :: .box [.pv (.str nm), il', .pv (.int .i64 nx)] :: h'⟩
theorem ics_loop {rows : List (List PV)} {b0 b1 : AObj} {nm : List UInt8} {nx : Int} (hl : rows.length ≤ 1048576) (hr : ∀ r ∈ rows, HasL t_ItemS r) (hz : ∀ r ∈ rows, szL r ≤ 1048576) : ∀ (m k : Nat) (i : Int), i = k → k + m = rows.length → ∀ (x0 x1 x4 x5 x6 x7 x8 x9 x10 x11 x15 x16 x17 x18 x19 x20 x21 x22 x23 x24 x25 x26 : V) (h : List AObj) (il : L), IL h il (rows.take k) → ∀ (σ : St), σ = ⟨(x0 :: x1 :: .one (.ptr 1 0 0) :: .one (.ptr 2 0 0) :: x4 :: x5 :: x6 :: x7 :: x8 :: x9 :: x10 :: x11 :: vlst rows :: vint .i64 rows.length :: vint .i64 i :: x15 :: x16 :: x17 :: x18 :: x19 :: x20 :: x21 :: x22 :: x23 :: x24 :: x25 :: x26 :: []), b0 :: b1 :: .box [.pv (.str nm), il, .pv (.int .i64 nx)] :: h⟩ →
    Runs (loopL (exec (callL Ph extF) loopL b_impl_copyStore_0) σ) (icsQ rows b0 b1 nm nx) := by
  generalize hF : exec (callL Ph extF) loopL b_impl_copyStore_0 = F
  intro m
  induction m with
  | zero =>
    intro k i hi hk x0 x1 x4 x5 x6 x7 x8 x9 x10 x11 x15 x16 x17 x18 x19 x20 x21 x22 x23 x24 x25 x26 h il hil σ hσ
    subst hi hσ
    have hk' : k = rows.length := by omega
    subst hk'
    rw [List.take_length] at hil
    rw [loopL_go0 hF]
    simp [b_impl_copyStore_0, start, execL, exec, execOps, stepO, wants, fop, eop, Opd.ev, put, V.cells, plain, loadV, cut, isInt, isStr, isBool, bin, binInt, binStr_neq, binStr_eql, un, asList, L.view, viewArgs, V.view, viewL, done, finish, resultsOf, resultOf, comps, comp, giveLs, giveL, arrsOf, V.flat, L.flat, setV, setL, storeV, putAt, thaw, thawL, freezeVs, freezeLs, freezeL, V.mut, L.mut, elemPtr, viewRows]
    rw [Runs_some]
    exact ⟨rfl, _, _, _, _, _, _, _, _, _, _, _, _, _, _, _, _, _, _, _, _, _, _, h, il, hil, rfl⟩
  | succ m ih =>
    intro k i hi hk x0 x1 x4 x5 x6 x7 x8 x9 x10 x11 x15 x16 x17 x18 x19 x20 x21 x22 x23 x24 x25 x26 h il hil σ hσ
    subst hi hσ
    have hlt : k < rows.length := by omega
    have hw := wrap_small (k := k) (by omega)
    obtain ⟨a, b, s, fs, hrk, hf⟩ := item_row4 (hr _ (List.getElem_mem hlt))
    have hzk := hz _ (List.getElem_mem hlt)
    have hfn : fs.length ≤ 1048576 := by
      have := szL_mem (ps := rows[k]) (p := .lst fs) (by rw [hrk]; simp)
      exact (lst_small (Nat.le_trans this hzk)).1
    have e1 := impl_copyItem_ok (a := a) (b := b) (s := s) hf hfn
    have ht : rows.take (k + 1) = rows.take k ++ [[.int .i64 a, .int .i64 b, .str s, .lst fs]] := by rw [List.take_succ_eq_append_getElem hlt, hrk]
    have htl : (rows.take k).length = k := by simp; omega
    have key := ih (k + 1) ((k : Int) + 1) (by omega) (by omega)
    clear ih
    rw [ht] at key
    generalize rows.take k = es at hil key htl
    rw [loopL_go0 hF]
    rcases hil with ⟨rfl, rfl⟩ | ⟨hne, p, rfl, hp, hpp⟩
    · simp [b_impl_copyStore_0, start, execL, exec, execOps, stepO, wants, fop, eop, Opd.ev, put, V.cells, plain, loadV, cut, isInt, isStr, isBool, bin, binInt, binStr_neq, binStr_eql, un, asList, L.view, viewArgs, V.view, viewL, done, finish, resultsOf, resultOf, comps, comp, giveLs, giveL, arrsOf, V.flat, L.flat, setV, setL, storeV, putAt, thaw, thawL, freezeVs, freezeLs, freezeL, V.mut, L.mut, elemPtr, viewRows, hlt, hw, hrk, e1]
      refine key _ _ _ _ _ _ _ _ _ _ _ _ _ _ _ _ _ _ _ _ _ _ _ _ (Or.inr ⟨?_, h.length + 2, rfl, ?_, ?_⟩) _ rfl <;> simp
    · have hpg : h[p] = AObj.arr 4 es := by
        rw [List.getElem?_eq_getElem hp] at hpp
        exact Option.some.inj hpp
      have c1 : (es.length + 1) * 56 ≤ 140737488355328 := by omega
      have c2 : es.length + 1 ≤ 9223372036854775807 := by omega
      have c3 : es.length ≤ 9223372036854775806 := by omega
      have c4 : es.length < 9223372036854775807 := by omega
      have n1 : (h.length + 1 == p) = false := by simp; omega
      have n2 : ¬ h.length + 1 = p := by omega
      have p1 : p < h.length + 1 := by omega
      simp [b_impl_copyStore_0, start, execL, exec, execOps, stepO, wants, fop, eop, Opd.ev, put, V.cells, plain, loadV, cut, isInt, isStr, isBool, bin, binInt, binStr_neq, binStr_eql, un, asList, L.view, viewArgs, V.view, viewL, done, finish, resultsOf, resultOf, comps, comp, giveLs, giveL, arrsOf, V.flat, L.flat, setV, setL, storeV, putAt, thaw, thawL, freezeVs, freezeLs, freezeL, V.mut, L.mut, elemPtr, viewRows, hlt, hw, hrk, e1, hpp, hpg, hp, p1, n1, n2, c1, c2, c3, c4, List.getElem?_append, L.notArr]
      refine key _ _ _ _ _ _ _ _ _ _ _ _ _ _ _ _ _ _ _ _ _ _ _ _ (Or.inr ⟨?_, h.length + 2, rfl, ?_, ?_⟩) _ rfl <;> simp
theorem impl_copyStore_ok {nm : List UInt8} {rows : List (List PV)} {nx : Int} (hl : rows.length ≤ 1048576) (hr : ∀ r ∈ rows, HasL t_ItemS r) (hz : ∀ r ∈ rows, szL r ≤ 1048576) : callL Ph extF 191 [.agg [.pv (.str nm), .pv (.lst rows), .pv (.int .i64 nx)]] = some (stV nm rows nx) := by
  refine callL_fn (fn := f_impl_copyStore) rfl ?_
  have LP := ics_loop (b0 := .box [.pv (.str nm), .pv (.lst rows), .pv (.int .i64 nx)]) (b1 := .box [.pv (.str []), .nil, .pv (.int .i64 0)]) (nm := nm) (nx := nx) hl hr hz rows.length 0 0 rfl (by omega)
  generalize hF : exec (callL Ph extF) loopL b_impl_copyStore_0 = F at LP
  simp [f_impl_copyStore, start, execL, exec, execOps, stepO, wants, fop, eop, Opd.ev, put, V.cells, plain, loadV, cut, isInt, isStr, isBool, bin, binInt, binStr_neq, binStr_eql, un, asList, L.view, viewArgs, V.view, viewL, done, finish, resultsOf, resultOf, comps, comp, giveLs, giveL, arrsOf, V.flat, L.flat, setV, setL, storeV, putAt, thaw, thawL, freezeVs, freezeLs, freezeL, V.mut, L.mut, elemPtr, viewRows, fillL, hF]
  generalize hσ : St.mk _ _ = σ0
  obtain ⟨e, σ', q1, rfl, x0, x1, x4, x5, x6, x7, x8, x9, x10, x11, x15, x16, x17, x18, x19, x20, x21, x22, x23, x24, x25, x26, h', il', hil, rfl⟩ := (LP _ _ _ _ _ _ _ _ _ _ _ _ _ _ _ _ _ _ _ _ _ _ _ _ (Or.inl ⟨rfl, by simp⟩) σ0 hσ.symm).get
  rw [q1]
  rcases hil with ⟨rfl, rfl⟩ | ⟨hne, p, rfl, hp, hpp⟩
  · simp [start, execL, exec, execOps, stepO, wants, fop, eop, Opd.ev, put, V.cells, plain, loadV, cut, isInt, isStr, isBool, bin, binInt, binStr_neq, binStr_eql, un, asList, L.view, viewArgs, V.view, viewL, done, finish, resultsOf, resultOf, comps, comp, giveLs, giveL, arrsOf, V.flat, L.flat, setV, setL, storeV, putAt, thaw, thawL, freezeVs, freezeLs, freezeL, V.mut, L.mut, elemPtr, viewRows, stV, ownL]
  · obtain ⟨r, rs, rfl⟩ := List.exists_cons_of_ne_nil hne
    simp [start, execL, exec, execOps, stepO, wants, fop, eop, Opd.ev, put, V.cells, plain, loadV, cut, isInt, isStr, isBool, bin, binInt, binStr_neq, binStr_eql, un, asList, L.view, viewArgs, V.view, viewL, done, finish, resultsOf, resultOf, comps, comp, giveLs, giveL, arrsOf, V.flat, L.flat, setV, setL, storeV, putAt, thaw, thawL, freezeVs, freezeLs, freezeL, V.mut, L.mut, elemPtr, viewRows, stV, ownL, hpp]

def scsQ (rows : List (List PV)) (b1 : AObj) (nm nm' : List UInt8) (nx nx' : Int) (e : Ex) (σ' : St) : Prop := e = .exit 0 ∧ ∃ (x0 x5 x6 x7 x8 x9 x10 x11 x12 x13 x14 x15 x16 x17 x18 x19 x20 x21 x22 x23 x24 x25 x26 x27 x28 : V) (h' : List AObj) (il' : L), IL h' il' rows ∧ σ' = ⟨(x0 :: .one (.ptr 0 0 0) :: .one (.ptr 1 0 0) :: .one (.ptr 2 0 0) :: vint .i64 (rows.length : Nat) :: x5 :: x6 :: x7 :: x8 :: x9 :: x10 :: x11 :: x12 :: x13 :: x14 :: x15 :: x16 :: x17 :: x18 :: x19 :: x20 :: x21 :: x22 :: x23 :: x24 :: x25 :: x26 :: x27 :: x28 :: []), .box [.pv (.str nm'), .pv (.lst rows), .pv (.int .i64 nx')] :: b1 :: .box [.pv (.str nm), il', .pv (.int .i64 nx)] :: h'⟩
theorem scs_loop {rows : List (List PV)} {b1 : AObj} {nm nm' : List UInt8} {nx nx' : Int} (hl : rows.length ≤ 1048576) (hr : ∀ r ∈ rows, HasL t_ItemS r) (hz : ∀ r ∈ rows, szL r ≤ 1048576) : ∀ (m k : Nat) (i : Int), i = k → k + m = rows.length → ∀ (x0 x5 x6 x7 x8 x9 x10 x11 x12 x13 x14 x15 x16 x17 x18 x19 x20 x21 x22 x23 x24 x25 x26 x27 x28 : V) (h : List AObj) (il : L), IL h il (rows.take k) → ∀ (σ : St), σ = ⟨(x0 :: .one (.ptr 0 0 0) :: .one (.ptr 1 0 0) :: .one (.ptr 2 0 0) :: vint .i64 i :: x5 :: x6 :: x7 :: x8 :: x9 :: x10 :: x11 :: x12 :: x13 :: x14 :: x15 :: x16 :: x17 :: x18 :: x19 :: x20 :: x21 :: x22 :: x23 :: x24 :: x25 :: x26 :: x27 :: x28 :: []), .box [.pv (.str nm'), .pv (.lst rows), .pv (.int .i64 nx')] :: b1 :: .box [.pv (.str nm), il, .pv (.int .i64 nx)] :: h⟩ →
    Runs (loopL (exec (callL Ph extF) loopL b_spec_l6Copy_0) σ) (scsQ rows b1 nm nm' nx nx') := by
  generalize hF : exec (callL Ph extF) loopL b_spec_l6Copy_0 = F
  intro m
  induction m with
  | zero =>
    intro k i hi hk x0 x5 x6 x7 x8 x9 x10 x11 x12 x13 x14 x15 x16 x17 x18 x19 x20 x21 x22 x23 x24 x25 x26 x27 x28 h il hil σ hσ
    subst hi hσ
    have hk' : k = rows.length := by omega
    subst hk'
    rw [List.take_length] at hil
    rw [loopL_go0 hF]
    simp [b_spec_l6Copy_0, start, execL, exec, execOps, stepO, wants, fop, eop, Opd.ev, put, V.cells, plain, loadV, cut, isInt, isStr, isBool, bin, binInt, binStr_neq, binStr_eql, un, asList, L.view, viewArgs, V.view, viewL, done, finish, resultsOf, resultOf, comps, comp, giveLs, giveL, arrsOf, V.flat, L.flat, setV, setL, storeV, putAt, thaw, thawL, freezeVs, freezeLs, freezeL, V.mut, L.mut, elemPtr, viewRows]
    rw [Runs_some]
    exact ⟨rfl, _, _, _, _, _, _, _, _, _, _, _, _, _, _, _, _, _, _, _, _, _, _, _, _, _, h, il, hil, rfl⟩
  | succ m ih =>
    intro k i hi hk x0 x5 x6 x7 x8 x9 x10 x11 x12 x13 x14 x15 x16 x17 x18 x19 x20 x21 x22 x23 x24 x25 x26 x27 x28 h il hil σ hσ
    subst hi hσ
    have hlt : k < rows.length := by omega
    have hw := wrap_small (k := k) (by omega)
    obtain ⟨a, b, s, fs, hrk, hf⟩ := item_row4 (hr _ (List.getElem_mem hlt))
    have hzk := hz _ (List.getElem_mem hlt)
    have hfn : fs.length ≤ 1048576 := by
      have := szL_mem (ps := rows[k]) (p := .lst fs) (by rw [hrk]; simp)
      exact (lst_small (Nat.le_trans this hzk)).1
    have e1 := spec_l6Item_ok (a := a) (b := b) (s := s) hf hfn
    have ht : rows.take (k + 1) = rows.take k ++ [[.int .i64 a, .int .i64 b, .str s, .lst fs]] := by rw [List.take_succ_eq_append_getElem hlt, hrk]
    have htl : (rows.take k).length = k := by simp; omega
    have key := ih (k + 1) ((k : Int) + 1) (by omega) (by omega)
    clear ih
    rw [ht] at key
    generalize rows.take k = es at hil key htl
    rw [loopL_go0 hF]
    rcases hil with ⟨rfl, rfl⟩ | ⟨hne, p, rfl, hp, hpp⟩
    · simp [b_spec_l6Copy_0, start, execL, exec, execOps, stepO, wants, fop, eop, Opd.ev, put, V.cells, plain, loadV, cut, isInt, isStr, isBool, bin, binInt, binStr_neq, binStr_eql, un, asList, L.view, viewArgs, V.view, viewL, done, finish, resultsOf, resultOf, comps, comp, giveLs, giveL, arrsOf, V.flat, L.flat, setV, setL, storeV, putAt, thaw, thawL, freezeVs, freezeLs, freezeL, V.mut, L.mut, elemPtr, viewRows, hlt, hw, hrk, e1]
      refine key _ _ _ _ _ _ _ _ _ _ _ _ _ _ _ _ _ _ _ _ _ _ _ _ _ _ _ (Or.inr ⟨?_, h.length + 1, rfl, ?_, ?_⟩) _ rfl <;> simp
    · have hpg : h[p] = AObj.arr 4 es := by
        rw [List.getElem?_eq_getElem hp] at hpp
        exact Option.some.inj hpp
      have c1 : (es.length + 1) * 56 ≤ 140737488355328 := by omega
      have c2 : es.length + 1 ≤ 9223372036854775807 := by omega
      have c3 : es.length ≤ 9223372036854775806 := by omega
      have c4 : es.length < 9223372036854775807 := by omega
      have n1 : (h.length == p) = false := by simp; omega
      have n2 : ¬ h.length = p := by omega
      have p1 : p < h.length + 1 := by omega
      simp [b_spec_l6Copy_0, start, execL, exec, execOps, stepO, wants, fop, eop, Opd.ev, put, V.cells, plain, loadV, cut, isInt, isStr, isBool, bin, binInt, binStr_neq, binStr_eql, un, asList, L.view, viewArgs, V.view, viewL, done, finish, resultsOf, resultOf, comps, comp, giveLs, giveL, arrsOf, V.flat, L.flat, setV, setL, storeV, putAt, thaw, thawL, freezeVs, freezeLs, freezeL, V.mut, L.mut, elemPtr, viewRows, hlt, hw, hrk, e1, hpp, hpg, hp, p1, n1, n2, c1, c2, c3, c4, List.getElem?_append, L.notArr]
      refine key _ _ _ _ _ _ _ _ _ _ _ _ _ _ _ _ _ _ _ _ _ _ _ _ _ _ _ (Or.inr ⟨?_, h.length + 1, rfl, ?_, ?_⟩) _ rfl <;> simp
theorem spec_l6Copy_ok {nm : List UInt8} {rows : List (List PV)} {nx : Int} (hl : rows.length ≤ 1048576) (hr : ∀ r ∈ rows, HasL t_ItemS r) (hz : ∀ r ∈ rows, szL r ≤ 1048576) : callL Ph extF 187 [.agg [.pv (.str nm), .pv (.lst rows), .pv (.int .i64 nx)]] = some (stV nm rows nx) := by
  refine callL_fn (fn := f_spec_l6Copy) rfl ?_
  have LP := scs_loop (b1 := .box [.pv (.str []), .nil, .pv (.int .i64 0)]) (nm := nm) (nx := nx) (nm' := nm) (nx' := nx) hl hr hz rows.length 0 0 rfl (by omega)
  generalize hF : exec (callL Ph extF) loopL b_spec_l6Copy_0 = F at LP
  simp [f_spec_l6Copy, start, execL, exec, execOps, stepO, wants, fop, eop, Opd.ev, put, V.cells, plain, loadV, cut, isInt, isStr, isBool, bin, binInt, binStr_neq, binStr_eql, un, asList, L.view, viewArgs, V.view, viewL, done, finish, resultsOf, resultOf, comps, comp, giveLs, giveL, arrsOf, V.flat, L.flat, setV, setL, storeV, putAt, thaw, thawL, freezeVs, freezeLs, freezeL, V.mut, L.mut, elemPtr, viewRows, fillL, hF]
  generalize hσ : St.mk _ _ = σ0
  obtain ⟨e, σ', q1, rfl, x0, x5, x6, x7, x8, x9, x10, x11, x12, x13, x14, x15, x16, x17, x18, x19, x20, x21, x22, x23, x24, x25, x26, x27, x28, h', il', hil, rfl⟩ := (LP _ _ _ _ _ _ _ _ _ _ _ _ _ _ _ _ _ _ _ _ _ _ _ _ _ _ _ (Or.inl ⟨rfl, by simp⟩) σ0 hσ.symm).get
  rw [q1]
  rcases hil with ⟨rfl, rfl⟩ | ⟨hne, p, rfl, hp, hpp⟩
  · simp [start, execL, exec, execOps, stepO, wants, fop, eop, Opd.ev, put, V.cells, plain, loadV, cut, isInt, isStr, isBool, bin, binInt, binStr_neq, binStr_eql, un, asList, L.view, viewArgs, V.view, viewL, done, finish, resultsOf, resultOf, comps, comp, giveLs, giveL, arrsOf, V.flat, L.flat, setV, setL, storeV, putAt, thaw, thawL, freezeVs, freezeLs, freezeL, V.mut, L.mut, elemPtr, viewRows, stV, ownL]
  · obtain ⟨r, rs, rfl⟩ := List.exists_cons_of_ne_nil hne
    simp [start, execL, exec, execOps, stepO, wants, fop, eop, Opd.ev, put, V.cells, plain, loadV, cut, isInt, isStr, isBool, bin, binInt, binStr_neq, binStr_eql, un, asList, L.view, viewArgs, V.view, viewL, done, finish, resultsOf, resultOf, comps, comp, giveLs, giveL, arrsOf, V.flat, L.flat, setV, setL, storeV, putAt, thaw, thawL, freezeVs, freezeLs, freezeL, V.mut, L.mut, elemPtr, viewRows, stV, ownL, hpp]

/-! ### a server's store -/
theorem serverStore_both {c0 : Int} {c1 : Bool} {c2 : Int} {c3 c4 : List (List PV)} {c5 : Int} {c6 c7 c8 c9 : List (List PV)} (h9 : Has (.lst t_ServerS) (.lst c9)) (hz : sz (.lst c9) ≤ 1048576) (s : List UInt8) : ∃ nm rows nx, Has (.lst t_ItemS) (.lst rows) ∧ callL Ph extF 160 [.agg [.pv (.int .i64 c0), .pv (.bool c1), .pv (.int .i64 c2), .pv (.lst c3), .pv (.lst c4), .pv (.int .i64 c5), .pv (.lst c6), .pv (.lst c7), .pv (.lst c8), .pv (.lst c9)], vstr s] = some (stV nm rows nx) ∧ callL Ph extF 158 [.agg [.pv (.int .i64 c0), .pv (.bool c1), .pv (.int .i64 c2), .pv (.lst c3), .pv (.lst c4), .pv (.int .i64 c5), .pv (.lst c6), .pv (.lst c7), .pv (.lst c8), .pv (.lst c9)], vstr s] = some (stV nm rows nx) := by
  have s1 := impl_SiteNumber_ok s
  have s2 := spec_SiteNumber_ok s
  obtain ⟨hl9, hr9⟩ := Has_rows h9
  have hw9 : IntKind.i64.wrap ((c9.length : Int) - 1) = (c9.length : Int) - 1 := by unfold maxLen at hl9; rw [IntKind.wrap_i64]; omega
  have r1 := spec_l1In_ok (siteNo s) 0 ((c9.length : Int) - 1)
  by_cases hin : 0 ≤ siteNo s ∧ siteNo s ≤ (c9.length : Int) - 1
  · have hb : (decide ((0 : Int) ≤ siteNo s) && decide (siteNo s ≤ (c9.length : Int) - 1)) = true := by simp; omega
    rw [hb] at r1
    obtain ⟨i, hi⟩ := Int.eq_ofNat_of_zero_le hin.1
    have hi9 : i < c9.length := by omega
    rw [hi] at s1 s2 r1
    have n1 : ¬ (i : Int) < 0 := by omega
    have n2 : ¬ (c9.length : Int) ≤ (i : Int) := by omega
    have n2' : ¬ c9.length ≤ i := by omega
    obtain ⟨v0, v1, v2, v3, v4, hv, _, hv1, _⟩ := server_cells (hr9 _ (List.getElem_mem hi9))
    have hzr := (lst_small hz).2 _ (List.getElem_mem hi9)
    have hz1 : sz (.lst v1) ≤ 1048576 := Nat.le_trans (szL_mem (ps := c9[i]) (by rw [hv]; simp)) hzr
    obtain ⟨l1, z1⟩ := lst_small hz1
    have e1 := impl_copyStore_ok (nm := v0) (nx := v2) l1 (Has_rows hv1).2 z1
    have e2 := spec_l6Copy_ok (nm := v0) (nx := v2) l1 (Has_rows hv1).2 z1
    refine ⟨v0, v1, v2, hv1, callL_fn (fn := f_impl_ServerStore) rfl ?_, callL_fn (fn := f_spec_ServerStore) rfl ?_⟩
    · cases v1 with
      | nil => simp [f_impl_ServerStore, start, execL, exec, execOps, stepO, wants, fop, eop, Opd.ev, put, V.cells, plain, loadV, cut, isInt, isStr, isBool, bin, binInt, binStr_neq, binStr_eql, un, asList, L.view, viewArgs, V.view, viewL, done, finish, resultsOf, resultOf, comps, comp, giveLs, giveL, arrsOf, V.flat, L.flat, setV, setL, storeV, putAt, thaw, thawL, freezeVs, freezeLs, freezeL, V.mut, L.mut, elemPtr, viewRows, s1, n1, n2, n2', hi9, hv, e1, stV, ownL]
      | cons q qs => simp [f_impl_ServerStore, start, execL, exec, execOps, stepO, wants, fop, eop, Opd.ev, put, V.cells, plain, loadV, cut, isInt, isStr, isBool, bin, binInt, binStr_neq, binStr_eql, un, asList, L.view, viewArgs, V.view, viewL, done, finish, resultsOf, resultOf, comps, comp, giveLs, giveL, arrsOf, V.flat, L.flat, setV, setL, storeV, putAt, thaw, thawL, freezeVs, freezeLs, freezeL, V.mut, L.mut, elemPtr, viewRows, s1, n1, n2, n2', hi9, hv, e1, stV, ownL]
    · cases v1 with
      | nil => simp [f_spec_ServerStore, start, execL, exec, execOps, stepO, wants, fop, eop, Opd.ev, put, V.cells, plain, loadV, cut, isInt, isStr, isBool, bin, binInt, binStr_neq, binStr_eql, un, asList, L.view, viewArgs, V.view, viewL, done, finish, resultsOf, resultOf, comps, comp, giveLs, giveL, arrsOf, V.flat, L.flat, setV, setL, storeV, putAt, thaw, thawL, freezeVs, freezeLs, freezeL, V.mut, L.mut, elemPtr, viewRows, s2, hw9, r1, hi9, hv, e2, stV, ownL]
      | cons q qs => simp [f_spec_ServerStore, start, execL, exec, execOps, stepO, wants, fop, eop, Opd.ev, put, V.cells, plain, loadV, cut, isInt, isStr, isBool, bin, binInt, binStr_neq, binStr_eql, un, asList, L.view, viewArgs, V.view, viewL, done, finish, resultsOf, resultOf, comps, comp, giveLs, giveL, arrsOf, V.flat, L.flat, setV, setL, storeV, putAt, thaw, thawL, freezeVs, freezeLs, freezeL, V.mut, L.mut, elemPtr, viewRows, s2, hw9, r1, hi9, hv, e2, stV, ownL]
  · have hb : (decide ((0 : Int) ≤ siteNo s) && decide (siteNo s ≤ (c9.length : Int) - 1)) = false := by
      by_cases a1 : (0 : Int) ≤ siteNo s <;> by_cases a2 : siteNo s ≤ (c9.length : Int) - 1 <;> simp [a1, a2]
      exact hin ⟨a1, a2⟩
    rw [hb] at r1
    generalize siteNo s = z at s1 s2 r1 hin
    refine ⟨[], [], 0, ⟨by unfold maxLen; simp, fun r m => by cases m⟩, callL_fn (fn := f_impl_ServerStore) rfl ?_, callL_fn (fn := f_spec_ServerStore) rfl ?_⟩
    · by_cases a1 : z < 0
      · simp [f_impl_ServerStore, start, execL, exec, execOps, stepO, wants, fop, eop, Opd.ev, put, V.cells, plain, loadV, cut, isInt, isStr, isBool, bin, binInt, binStr_neq, binStr_eql, un, asList, L.view, viewArgs, V.view, viewL, done, finish, resultsOf, resultOf, comps, comp, giveLs, giveL, arrsOf, V.flat, L.flat, setV, setL, storeV, putAt, thaw, thawL, freezeVs, freezeLs, freezeL, V.mut, L.mut, elemPtr, viewRows, s1, a1, fillL, stV, ownL]
      · have a2 : (c9.length : Int) ≤ z := by omega
        simp [f_impl_ServerStore, start, execL, exec, execOps, stepO, wants, fop, eop, Opd.ev, put, V.cells, plain, loadV, cut, isInt, isStr, isBool, bin, binInt, binStr_neq, binStr_eql, un, asList, L.view, viewArgs, V.view, viewL, done, finish, resultsOf, resultOf, comps, comp, giveLs, giveL, arrsOf, V.flat, L.flat, setV, setL, storeV, putAt, thaw, thawL, freezeVs, freezeLs, freezeL, V.mut, L.mut, elemPtr, viewRows, s1, a1, a2, fillL, stV, ownL]
    · simp [f_spec_ServerStore, start, execL, exec, execOps, stepO, wants, fop, eop, Opd.ev, put, V.cells, plain, loadV, cut, isInt, isStr, isBool, bin, binInt, binStr_neq, binStr_eql, un, asList, L.view, viewArgs, V.view, viewL, done, finish, resultsOf, resultOf, comps, comp, giveLs, giveL, arrsOf, V.flat, L.flat, setV, setL, storeV, putAt, thaw, thawL, freezeVs, freezeLs, freezeL, V.mut, L.mut, elemPtr, viewRows, s2, hw9, r1, fillL, stV, ownL]
theorem serverHas_both {c0 : Int} {c1 : Bool} {c2 : Int} {c3 c4 : List (List PV)} {c5 : Int} {c6 c7 c8 c9 : List (List PV)} (h9 : Has (.lst t_ServerS) (.lst c9)) (hz : sz (.lst c9) ≤ 1048576) (s : List UInt8) (n : Int) (fd : List UInt8) : ∃ (v : Int) (b : Bool), callL Ph extF 122 [.agg [.pv (.int .i64 c0), .pv (.bool c1), .pv (.int .i64 c2), .pv (.lst c3), .pv (.lst c4), .pv (.int .i64 c5), .pv (.lst c6), .pv (.lst c7), .pv (.lst c8), .pv (.lst c9)], vstr s, vint .i64 n, vstr fd] = some (.tup [(false, [.pv (.int .i64 v)]), (false, [.pv (.bool b)])]) ∧ callL Ph extF 121 [.agg [.pv (.int .i64 c0), .pv (.bool c1), .pv (.int .i64 c2), .pv (.lst c3), .pv (.lst c4), .pv (.int .i64 c5), .pv (.lst c6), .pv (.lst c7), .pv (.lst c8), .pv (.lst c9)], vstr s, vint .i64 n, vstr fd] = some (.tup [(false, [.pv (.int .i64 v)]), (false, [.pv (.bool b)])]) := by
  obtain ⟨nm, rows, nx, hr, e1, e2⟩ := serverStore_both (c0 := c0) (c1 := c1) (c2 := c2) (c3 := c3) (c4 := c4) (c5 := c5) (c6 := c6) (c7 := c7) (c8 := c8) h9 hz s
  have e3 := impl_storeHas_ok (nm := nm) (nx := nx) hr n fd
  have e4 := spec_l37Field_ok (nm := nm) (nx := nx) hr n fd
  generalize hasV rows n fd = v at e3 e4
  refine ⟨v.1, v.2, callL_fn (fn := f_impl_ServerHas) rfl ?_, callL_fn (fn := f_spec_ServerHas) rfl ?_⟩
  · cases rows with
    | nil => simp [f_impl_ServerHas, start, execL, exec, execOps, stepO, wants, fop, eop, Opd.ev, put, V.cells, plain, loadV, cut, isInt, isStr, isBool, bin, binInt, binStr_neq, binStr_eql, un, asList, L.view, viewArgs, V.view, viewL, done, finish, resultsOf, resultOf, comps, comp, giveLs, giveL, arrsOf, V.flat, L.flat, setV, setL, storeV, putAt, thaw, thawL, freezeVs, freezeLs, freezeL, V.mut, L.mut, elemPtr, viewRows, e1, e3, stV, ownL, fRes]
    | cons q qs => simp [f_impl_ServerHas, start, execL, exec, execOps, stepO, wants, fop, eop, Opd.ev, put, V.cells, plain, loadV, cut, isInt, isStr, isBool, bin, binInt, binStr_neq, binStr_eql, un, asList, L.view, viewArgs, V.view, viewL, done, finish, resultsOf, resultOf, comps, comp, giveLs, giveL, arrsOf, V.flat, L.flat, setV, setL, storeV, putAt, thaw, thawL, freezeVs, freezeLs, freezeL, V.mut, L.mut, elemPtr, viewRows, e1, e3, stV, ownL, fRes]
  · cases rows with
    | nil => simp [f_spec_ServerHas, start, execL, exec, execOps, stepO, wants, fop, eop, Opd.ev, put, V.cells, plain, loadV, cut, isInt, isStr, isBool, bin, binInt, binStr_neq, binStr_eql, un, asList, L.view, viewArgs, V.view, viewL, done, finish, resultsOf, resultOf, comps, comp, giveLs, giveL, arrsOf, V.flat, L.flat, setV, setL, storeV, putAt, thaw, thawL, freezeVs, freezeLs, freezeL, V.mut, L.mut, elemPtr, viewRows, e2, e4, stV, ownL, fRes]
    | cons q qs => simp [f_spec_ServerHas, start, execL, exec, execOps, stepO, wants, fop, eop, Opd.ev, put, V.cells, plain, loadV, cut, isInt, isStr, isBool, bin, binInt, binStr_neq, binStr_eql, un, asList, L.view, viewArgs, V.view, viewL, done, finish, resultsOf, resultOf, comps, comp, giveLs, giveL, arrsOf, V.flat, L.flat, setV, setL, storeV, putAt, thaw, thawL, freezeVs, freezeLs, freezeL, V.mut, L.mut, elemPtr, viewRows, e2, e4, stV, ownL, fRes]
theorem law_ServerHas {r0 : List PV} (h0 : HasL t_World r0) {s1 : List UInt8} (h1 : Has (.str) (.str s1)) {s2 : Int} (h2 : Has (.int .i64) (.int .i64 s2)) {s3 : List UInt8} (h3 : Has (.str) (.str s3)) : callL Ph extF 101 [.agg (r0.map .pv), vstr s1, vint .i64 s2, vstr s3] = some (vbool true) := by
  obtain ⟨p0, r1, rfl, g0, k1⟩ := HasL_cons h0
  obtain ⟨p1, r2, rfl, g1, k2⟩ := HasL_cons k1
  obtain ⟨p2, r3, rfl, g2, k3⟩ := HasL_cons k2
  obtain ⟨p3, r4, rfl, g3, k4⟩ := HasL_cons k3
  obtain ⟨p4, r5, rfl, g4, k5⟩ := HasL_cons k4
  obtain ⟨p5, r6, rfl, g5, k6⟩ := HasL_cons k5
  obtain ⟨p6, r7, rfl, g6, k7⟩ := HasL_cons k6
  obtain ⟨p7, r8, rfl, g7, k8⟩ := HasL_cons k7
  obtain ⟨p8, r9, rfl, g8, k9⟩ := HasL_cons k8
  obtain ⟨p9, r10, rfl, g9, k10⟩ := HasL_cons k9
  obtain rfl := HasL_nil k10
  obtain ⟨c0, rfl⟩ := Has_int g0
  obtain ⟨c1, rfl⟩ := Has_bool g1
  obtain ⟨c2, rfl⟩ := Has_int g2
  obtain ⟨c3, rfl⟩ := Has_lst g3
  obtain ⟨c4, rfl⟩ := Has_lst g4
  obtain ⟨c5, rfl⟩ := Has_int g5
  obtain ⟨c6, rfl⟩ := Has_lst g6
  obtain ⟨c7, rfl⟩ := Has_lst g7
  obtain ⟨c8, rfl⟩ := Has_lst g8
  obtain ⟨c9, rfl⟩ := Has_lst g9
  show callL Ph extF 101 [.agg [.pv (.int .i64 c0), .pv (.bool c1), .pv (.int .i64 c2), .pv (.lst c3), .pv (.lst c4), .pv (.int .i64 c5), .pv (.lst c6), .pv (.lst c7), .pv (.lst c8), .pv (.lst c9)], vstr s1, vint .i64 s2, vstr s3] = _
  refine callL_fn (fn := f_laws_FnExactServerHas) rfl ?_
  by_cases b1 : (1048576 : Int) < s1.length
  · simp [f_laws_FnExactServerHas, start, execL, exec, execOps, stepO, wants, fop, eop, Opd.ev, put, V.cells, plain, loadV, cut, isInt, isStr, isBool, bin, binInt, binStr_neq, binStr_eql, un, asList, L.view, viewArgs, V.view, viewL, done, finish, resultsOf, resultOf, comps, comp, giveLs, giveL, arrsOf, V.flat, L.flat, setV, setL, storeV, putAt, thaw, thawL, freezeVs, freezeLs, freezeL, V.mut, L.mut, elemPtr, viewRows, b1]
  by_cases b3 : (1048576 : Int) < s3.length
  · simp [f_laws_FnExactServerHas, start, execL, exec, execOps, stepO, wants, fop, eop, Opd.ev, put, V.cells, plain, loadV, cut, isInt, isStr, isBool, bin, binInt, binStr_neq, binStr_eql, un, asList, L.view, viewArgs, V.view, viewL, done, finish, resultsOf, resultOf, comps, comp, giveLs, giveL, arrsOf, V.flat, L.flat, setV, setL, storeV, putAt, thaw, thawL, freezeVs, freezeLs, freezeL, V.mut, L.mut, elemPtr, viewRows, b3, b1]
  have m0 : callL Ph extF 104 [.agg [.pv (.int .i64 c0), .pv (.bool c1), .pv (.int .i64 c2), .pv (.lst c3), .pv (.lst c4), .pv (.int .i64 c5), .pv (.lst c6), .pv (.lst c7), .pv (.lst c8), .pv (.lst c9)], vint .i64 1048576] = some (vint .i64 (less 1048576 (szL [.int .i64 c0, .bool c1, .int .i64 c2, .lst c3, .lst c4, .int .i64 c5, .lst c6, .lst c7, .lst c8, .lst c9]))) := szWorld_ok (ext := extF) h0 1048576 (by omega) (by omega)
  generalize q0 : less 1048576 (szL [.int .i64 c0, .bool c1, .int .i64 c2, .lst c3, .lst c4, .int .i64 c5, .lst c6, .lst c7, .lst c8, .lst c9]) = l0 at m0
  by_cases n0 : l0 < 0
  · simp [f_laws_FnExactServerHas, start, execL, exec, execOps, stepO, wants, fop, eop, Opd.ev, put, V.cells, plain, loadV, cut, isInt, isStr, isBool, bin, binInt, binStr_neq, binStr_eql, un, asList, L.view, viewArgs, V.view, viewL, done, finish, resultsOf, resultOf, comps, comp, giveLs, giveL, arrsOf, V.flat, L.flat, setV, setL, storeV, putAt, thaw, thawL, freezeVs, freezeLs, freezeL, V.mut, L.mut, elemPtr, viewRows, n0, b1, b3, m0]
  obtain ⟨le0, hz0⟩ := less_pos (by omega) q0 n0
  have hs0 : szL [.int .i64 c0, .bool c1, .int .i64 c2, .lst c3, .lst c4, .int .i64 c5, .lst c6, .lst c7, .lst c8, .lst c9] ≤ 1048576 := by omega
  have to0 := toWorld_ok (ext := extF) g0 g1 g2 g3 g4 g5 g6 g7 g8 g9 hs0
  have eq0 : callL Ph extF 108 [.agg [.pv (.int .i64 c0), .pv (.bool c1), .pv (.int .i64 c2), .pv (.lst c3), .pv (.lst c4), .pv (.int .i64 c5), .pv (.lst c6), .pv (.lst c7), .pv (.lst c8), .pv (.lst c9)], .agg [.pv (.int .i64 c0), .pv (.bool c1), .pv (.int .i64 c2), .pv (.lst c3), .pv (.lst c4), .pv (.int .i64 c5), .pv (.lst c6), .pv (.lst c7), .pv (.lst c8), .pv (.lst c9)]] = some (vbool true) := eqWorld_ok (ext := extF) h0
  have hz9 : sz (.lst c9) ≤ 1048576 := Nat.le_trans (szL_mem (by simp)) hs0
  obtain ⟨v, bb, e3, e2⟩ := serverHas_both (c0 := c0) (c1 := c1) (c2 := c2) (c3 := c3) (c4 := c4) (c5 := c5) (c6 := c6) (c7 := c7) (c8 := c8) g9 hz9 s1 s2 s3
  simp [f_laws_FnExactServerHas, start, execL, exec, execOps, stepO, wants, fop, eop, Opd.ev, put, V.cells, plain, loadV, cut, isInt, isStr, isBool, bin, binInt, binStr_neq, binStr_eql, un, asList, L.view, viewArgs, V.view, viewL, done, finish, resultsOf, resultOf, comps, comp, giveLs, giveL, arrsOf, V.flat, L.flat, setV, setL, storeV, putAt, thaw, thawL, freezeVs, freezeLs, freezeL, V.mut, L.mut, elemPtr, viewRows, b1, b3, m0, n0, to0, eq0, e2, e3]
end Gi
