/- The size of caches. -/
import Derived.Test.YtgpnnobfdcbgoaaGreatDoorGua2
namespace Gi
open Go Go.RowKit
set_option linter.unusedSimpArgs false
set_option linter.unusedVariables false
set_option maxHeartbeats 4000000
set_option maxRecDepth 4000

def storedV (ty : Int) (n : Nat) : Int := cond (ty == 3) 76 (IntKind.i64.wrap (16 + (n : Int)))
theorem impl_StoredSize_ok {x0 x1 x2 : Int} {x3 : List (List PV)} {x4 : Bool} (hid : Bool) : callL Ph extF 223 [.agg [.pv (.int .i64 x0), .pv (.int .i64 x1), .pv (.int .i64 x2), .pv (.lst x3), .pv (.bool x4)], vbool hid] = some (vint .i64 (cond hid 76 (IntKind.i64.wrap (16 + (x3.length : Int))))) := by
  refine callL_fn (fn := f_impl_StoredSize) rfl ?_
  cases hid <;> simp [f_impl_StoredSize, start, execL, exec, execOps, stepO, wants, fop, eop, Opd.ev, put, V.cells, plain, loadV, cut, isInt, isStr, isBool, bin, binInt, binStr_neq, binStr_eql, un, asList, L.view, viewArgs, V.view, viewL, done, finish, resultsOf, resultOf, comps, comp, giveLs, giveL, arrsOf, V.flat, L.flat, setV, setL, storeV, putAt, thaw, thawL, freezeVs, freezeLs, freezeL, V.mut, L.mut, elemPtr, viewRows]
theorem spec_StoredSize_ok {x0 x1 x2 : Int} {x3 : List (List PV)} {x4 : Bool} (hid : Bool) : callL Ph extF 219 [.agg [.pv (.int .i64 x0), .pv (.int .i64 x1), .pv (.int .i64 x2), .pv (.lst x3), .pv (.bool x4)], vbool hid] = some (vint .i64 (cond hid 76 (IntKind.i64.wrap (16 + (x3.length : Int))))) := by
  refine callL_fn (fn := f_spec_StoredSize) rfl ?_
  cases hid <;> simp [f_spec_StoredSize, start, execL, exec, execOps, stepO, wants, fop, eop, Opd.ev, put, V.cells, plain, loadV, cut, isInt, isStr, isBool, bin, binInt, binStr_neq, binStr_eql, un, asList, L.view, viewArgs, V.view, viewL, done, finish, resultsOf, resultOf, comps, comp, giveLs, giveL, arrsOf, V.flat, L.flat, setV, setL, storeV, putAt, thaw, thawL, freezeVs, freezeLs, freezeL, V.mut, L.mut, elemPtr, viewRows]
def stE (acc : Int) : List PV → Int
  | [_, _, .int _ ty, _, _, .lst bd, _] => IntKind.i64.wrap (acc + storedV ty bd.length)
  | _ => acc
def scC (acc : Int) : List PV → Int
  | [_, .lst es] => es.foldl stE acc
  | _ => acc
theorem isc_in {rows es : List (List PV)} {ci : Int} (hl : es.length ≤ maxLen) (hr : ∀ r ∈ es, HasL t_CachedS r) : ∀ (m k : Nat) (i : Int), i = k → k + m = es.length → ∀ (acc : Int) (x0 x1 x2 x4 x5 x6 x7 x8 x12 x13 x14 x15 x19 x20 x21 x22 x23 x24 x25 x26 x27 x28 x29 x30 x31 x32 x33 : V) (h : List AObj) (σ : St), σ = ⟨(x0 :: x1 :: x2 :: vint .i64 acc :: x4 :: x5 :: x6 :: x7 :: x8 :: vlst rows :: vint .i64 rows.length :: vint .i64 ci :: x12 :: x13 :: x14 :: x15 :: vlst es :: vint .i64 es.length :: vint .i64 i :: x19 :: x20 :: x21 :: x22 :: x23 :: x24 :: x25 :: x26 :: x27 :: x28 :: x29 :: x30 :: x31 :: x32 :: x33 :: []), h⟩ →
    Runs (loopL (exec (callL Ph extF) loopL b_impl_SizeCaches_0) σ) fun e σ' => e = .exit 2 ∧ ∃ (x0 x1 x2 x4 x5 x6 x7 x8 x12 x13 x14 x15 x19 x20 x21 x22 x23 x24 x25 x26 x27 x28 x29 x30 x31 x32 x33 : V) (h' : List AObj), σ' = ⟨(x0 :: x1 :: x2 :: vint .i64 ((es.drop k).foldl (stE) acc) :: x4 :: x5 :: x6 :: x7 :: x8 :: vlst rows :: vint .i64 rows.length :: vint .i64 ci :: x12 :: x13 :: x14 :: x15 :: vlst es :: vint .i64 es.length :: vint .i64 (es.length : Nat) :: x19 :: x20 :: x21 :: x22 :: x23 :: x24 :: x25 :: x26 :: x27 :: x28 :: x29 :: x30 :: x31 :: x32 :: x33 :: []), h'⟩ := by
  generalize hF : exec (callL Ph extF) loopL b_impl_SizeCaches_0 = F
  intro m
  induction m with
  | zero =>
    intro k i hi hk acc x0 x1 x2 x4 x5 x6 x7 x8 x12 x13 x14 x15 x19 x20 x21 x22 x23 x24 x25 x26 x27 x28 x29 x30 x31 x32 x33 h σ hσ
    subst hi hσ
    have hk' : k = es.length := by omega
    subst hk'
    rw [loopL_go0 hF]
    simp (maxSteps := 4000000) [b_impl_SizeCaches_0, start, execL, exec, execOps, stepO, wants, fop, eop, Opd.ev, put, V.cells, plain, loadV, cut, isInt, isStr, isBool, bin, binInt, binStr_neq, binStr_eql, un, asList, L.view, viewArgs, V.view, viewL, done, finish, resultsOf, resultOf, comps, comp, giveLs, giveL, arrsOf, V.flat, L.flat, setV, setL, storeV, putAt, thaw, thawL, freezeVs, freezeLs, freezeL, V.mut, L.mut, elemPtr, viewRows, Runs_some]
  | succ m ih =>
    intro k i hi hk acc x0 x1 x2 x4 x5 x6 x7 x8 x12 x13 x14 x15 x19 x20 x21 x22 x23 x24 x25 x26 x27 x28 x29 x30 x31 x32 x33 h σ hσ
    subst hi hσ
    have hlt : k < es.length := by omega
    have hw := wrap_small (k := k) (by unfold maxLen at hl; omega)
    obtain ⟨d0, d1, d2, d3, d4, d5, d6, hrk, _⟩ := cached_cells (hr _ (List.getElem_mem hlt))
    have e1 := impl_StoredSize_ok (x0 := d2) (x1 := d3) (x2 := d4) (x3 := d5) (x4 := d6) (d2 == 3)
    have hs : stE acc es[k] = IntKind.i64.wrap (acc + cond (d2 == 3) 76 (IntKind.i64.wrap (16 + (d5.length : Int)))) := by rw [hrk]; rfl
    have key := ih (k + 1) ((k : Int) + 1) (by omega) (by omega) (IntKind.i64.wrap (acc + cond (d2 == 3) 76 (IntKind.i64.wrap (16 + (d5.length : Int)))))
    clear ih
    rw [List.drop_eq_getElem_cons hlt, List.foldl_cons, hs]
    generalize hB : (es.drop (k + 1)).foldl (stE) (IntKind.i64.wrap (acc + cond (d2 == 3) 76 (IntKind.i64.wrap (16 + (d5.length : Int))))) = B at key ⊢
    rw [loopL_go0 hF]
    simp [b_impl_SizeCaches_0, start, execL, exec, execOps, stepO, wants, fop, eop, Opd.ev, put, V.cells, plain, loadV, cut, isInt, isStr, isBool, bin, binInt, binStr_neq, binStr_eql, un, asList, L.view, viewArgs, V.view, viewL, done, finish, resultsOf, resultOf, comps, comp, giveLs, giveL, arrsOf, V.flat, L.flat, setV, setL, storeV, putAt, thaw, thawL, freezeVs, freezeLs, freezeL, V.mut, L.mut, elemPtr, viewRows, hlt, hw, hrk, e1]
    exact key _ _ _ _ _ _ _ _ _ _ _ _ _ _ _ _ _ _ _ _ _ _ _ _ _ _ _ _ _ rfl
theorem isc_out {rows : List (List PV)} (hl : rows.length ≤ maxLen) (hr : ∀ r ∈ rows, HasL t_CacheS r) : ∀ (m k : Nat) (i : Int), i = k → k + m = rows.length → ∀ (acc : Int) (x0 x1 x2 x4 x5 x6 x7 x8 x12 x13 x14 x15 x16 x17 x18 x19 x20 x21 x22 x23 x24 x25 x26 x27 x28 x29 x30 x31 x32 x33 : V) (h : List AObj) (σ : St), σ = ⟨(x0 :: x1 :: x2 :: vint .i64 acc :: x4 :: x5 :: x6 :: x7 :: x8 :: vlst rows :: vint .i64 rows.length :: vint .i64 i :: x12 :: x13 :: x14 :: x15 :: x16 :: x17 :: x18 :: x19 :: x20 :: x21 :: x22 :: x23 :: x24 :: x25 :: x26 :: x27 :: x28 :: x29 :: x30 :: x31 :: x32 :: x33 :: []), h⟩ →
    Runs (loopL (exec (callL Ph extF) loopL b_impl_SizeCaches_1) σ) fun e σ' => e = .exit 0 ∧ ∃ (x0 x1 x2 x4 x5 x6 x7 x8 x12 x13 x14 x15 x16 x17 x18 x19 x20 x21 x22 x23 x24 x25 x26 x27 x28 x29 x30 x31 x32 x33 : V) (h' : List AObj), σ' = ⟨(x0 :: x1 :: x2 :: vint .i64 ((rows.drop k).foldl (scC) acc) :: x4 :: x5 :: x6 :: x7 :: x8 :: vlst rows :: vint .i64 rows.length :: vint .i64 (rows.length : Nat) :: x12 :: x13 :: x14 :: x15 :: x16 :: x17 :: x18 :: x19 :: x20 :: x21 :: x22 :: x23 :: x24 :: x25 :: x26 :: x27 :: x28 :: x29 :: x30 :: x31 :: x32 :: x33 :: []), h'⟩ := by
  generalize hF : exec (callL Ph extF) loopL b_impl_SizeCaches_1 = F
  intro m
  induction m with
  | zero =>
    intro k i hi hk acc x0 x1 x2 x4 x5 x6 x7 x8 x12 x13 x14 x15 x16 x17 x18 x19 x20 x21 x22 x23 x24 x25 x26 x27 x28 x29 x30 x31 x32 x33 h σ hσ
    subst hi hσ
    have hk' : k = rows.length := by omega
    subst hk'
    rw [loopL_go0 hF]
    simp (maxSteps := 4000000) [b_impl_SizeCaches_1, start, execL, exec, execOps, stepO, wants, fop, eop, Opd.ev, put, V.cells, plain, loadV, cut, isInt, isStr, isBool, bin, binInt, binStr_neq, binStr_eql, un, asList, L.view, viewArgs, V.view, viewL, done, finish, resultsOf, resultOf, comps, comp, giveLs, giveL, arrsOf, V.flat, L.flat, setV, setL, storeV, putAt, thaw, thawL, freezeVs, freezeLs, freezeL, V.mut, L.mut, elemPtr, viewRows, Runs_some]
  | succ m ih =>
    intro k i hi hk acc x0 x1 x2 x4 x5 x6 x7 x8 x12 x13 x14 x15 x16 x17 x18 x19 x20 x21 x22 x23 x24 x25 x26 x27 x28 x29 x30 x31 x32 x33 h σ hσ
    subst hi hσ
    have hlt : k < rows.length := by omega
    have hw := wrap_small (k := k) (by unfold maxLen at hl; omega)
    obtain ⟨n, es, hrk, hes⟩ := cache_row (hr _ (List.getElem_mem hlt))
    obtain ⟨hle, hre⟩ := Has_rows hes
    have hs : scC acc rows[k] = es.foldl stE acc := by rw [hrk]; rfl
    have key := ih (k + 1) ((k : Int) + 1) (by omega) (by omega) (es.foldl stE acc)
    clear ih
    rw [List.drop_eq_getElem_cons hlt, List.foldl_cons, hs]
    generalize hB : (rows.drop (k + 1)).foldl (scC) (es.foldl stE acc) = B at key ⊢
    rw [loopL_go0 hF]
    have LP := isc_in (rows := rows) (ci := (k : Int)) hle hre es.length 0 0 rfl (by omega) acc
    simp only [List.drop_zero] at LP
    generalize hG : exec (callL Ph extF) loopL b_impl_SizeCaches_0 = G at LP
    simp [b_impl_SizeCaches_1, start, execL, exec, execOps, stepO, wants, fop, eop, Opd.ev, put, V.cells, plain, loadV, cut, isInt, isStr, isBool, bin, binInt, binStr_neq, binStr_eql, un, asList, L.view, viewArgs, V.view, viewL, done, finish, resultsOf, resultOf, comps, comp, giveLs, giveL, arrsOf, V.flat, L.flat, setV, setL, storeV, putAt, thaw, thawL, freezeVs, freezeLs, freezeL, V.mut, L.mut, elemPtr, viewRows, hlt, hrk, hG]
    generalize hσ : St.mk _ _ = σ0
    obtain ⟨e, σ', q1, rfl, x0, x1, x2, x4, x5, x6, x7, x8, x12, x13, x14, x15, x19, x20, x21, x22, x23, x24, x25, x26, x27, x28, x29, x30, x31, x32, x33, h', rfl⟩ := (LP _ _ _ _ _ _ _ _ _ _ _ _ _ _ _ _ _ _ _ _ _ _ _ _ _ _ _ _ σ0 hσ.symm).get
    rw [q1]
    simp [start, execL, exec, execOps, stepO, wants, fop, eop, Opd.ev, put, V.cells, plain, loadV, cut, isInt, isStr, isBool, bin, binInt, binStr_neq, binStr_eql, un, asList, L.view, viewArgs, V.view, viewL, done, finish, resultsOf, resultOf, comps, comp, giveLs, giveL, arrsOf, V.flat, L.flat, setV, setL, storeV, putAt, thaw, thawL, freezeVs, freezeLs, freezeL, V.mut, L.mut, elemPtr, viewRows, hw]
    exact key _ _ _ _ _ _ _ _ _ _ _ _ _ _ _ _ _ _ _ _ _ _ _ _ _ _ _ _ _ _ _ _ rfl
theorem impl_SizeCaches_ok {rows : List (List PV)} (h : Has (.lst t_CacheS) (.lst rows)) : callL Ph extF 195 [.agg [.pv (.lst rows)]] = some (vint .i64 (rows.foldl scC 0)) := by
  obtain ⟨hl, hr⟩ := Has_rows h
  refine callL_fn (fn := f_impl_SizeCaches) rfl ?_
  have LP := isc_out hl hr rows.length 0 0 rfl (by omega) 0
  simp only [List.drop_zero] at LP
  generalize hF : exec (callL Ph extF) loopL b_impl_SizeCaches_1 = F at LP
  simp [f_impl_SizeCaches, start, execL, exec, execOps, stepO, wants, fop, eop, Opd.ev, put, V.cells, plain, loadV, cut, isInt, isStr, isBool, bin, binInt, binStr_neq, binStr_eql, un, asList, L.view, viewArgs, V.view, viewL, done, finish, resultsOf, resultOf, comps, comp, giveLs, giveL, arrsOf, V.flat, L.flat, setV, setL, storeV, putAt, thaw, thawL, freezeVs, freezeLs, freezeL, V.mut, L.mut, elemPtr, viewRows, hF]
  generalize hσ : St.mk _ _ = σ0
  obtain ⟨e, σ', q1, rfl, x0, x1, x2, x4, x5, x6, x7, x8, x12, x13, x14, x15, x16, x17, x18, x19, x20, x21, x22, x23, x24, x25, x26, x27, x28, x29, x30, x31, x32, x33, h', rfl⟩ := (LP _ _ _ _ _ _ _ _ _ _ _ _ _ _ _ _ _ _ _ _ _ _ _ _ _ _ _ _ _ _ _ σ0 hσ.symm).get
  rw [q1]
  simp [start, execL, exec, execOps, stepO, wants, fop, eop, Opd.ev, put, V.cells, plain, loadV, cut, isInt, isStr, isBool, bin, binInt, binStr_neq, binStr_eql, un, asList, L.view, viewArgs, V.view, viewL, done, finish, resultsOf, resultOf, comps, comp, giveLs, giveL, arrsOf, V.flat, L.flat, setV, setL, storeV, putAt, thaw, thawL, freezeVs, freezeLs, freezeL, V.mut, L.mut, elemPtr, viewRows]
theorem ssc_in {rows es : List (List PV)} {ci : Nat} {cn : Int} (hl : es.length ≤ maxLen) (hr : ∀ r ∈ es, HasL t_CachedS r) (hci : ci < rows.length) (hce : rows[ci] = [.int .i64 cn, .lst es]) : ∀ (m k : Nat) (i : Int), i = k → k + m = es.length → ∀ (acc : Int) (x0 x2 x6 x7 x8 x9 x10 x11 x12 x13 x14 x15 x16 x17 x18 x19 x20 x21 x22 x23 x24 x25 x26 x27 x28 x29 x30 x31 x32 x33 x34 x35 x36 x37 x38 x39 x40 x41 x42 : V) (h : List AObj) (σ : St), σ = ⟨(x0 :: .one (.ptr 0 0 0) :: x2 :: vint .i64 acc :: vint .i64 (ci : Nat) :: vint .i64 i :: x6 :: x7 :: x8 :: x9 :: x10 :: x11 :: x12 :: x13 :: x14 :: x15 :: x16 :: x17 :: x18 :: x19 :: x20 :: x21 :: x22 :: x23 :: x24 :: x25 :: x26 :: x27 :: x28 :: x29 :: x30 :: x31 :: x32 :: x33 :: x34 :: x35 :: x36 :: x37 :: x38 :: x39 :: x40 :: x41 :: x42 :: []), .box [.pv (.lst rows)] :: h⟩ →
    Runs (loopL (exec (callL Ph extF) loopL b_spec_SizeCaches_0) σ) fun e σ' => e = .exit 2 ∧ ∃ (x0 x2 x6 x7 x8 x9 x10 x11 x12 x13 x14 x15 x16 x17 x18 x19 x20 x21 x22 x23 x24 x25 x26 x27 x28 x29 x30 x31 x32 x33 x34 x35 x36 x37 x38 x39 x40 x41 x42 : V) (h' : List AObj), σ' = ⟨(x0 :: .one (.ptr 0 0 0) :: x2 :: vint .i64 ((es.drop k).foldl (stE) acc) :: vint .i64 (ci : Nat) :: vint .i64 (es.length : Nat) :: x6 :: x7 :: x8 :: x9 :: x10 :: x11 :: x12 :: x13 :: x14 :: x15 :: x16 :: x17 :: x18 :: x19 :: x20 :: x21 :: x22 :: x23 :: x24 :: x25 :: x26 :: x27 :: x28 :: x29 :: x30 :: x31 :: x32 :: x33 :: x34 :: x35 :: x36 :: x37 :: x38 :: x39 :: x40 :: x41 :: x42 :: []), .box [.pv (.lst rows)] :: h'⟩ := by
  generalize hF : exec (callL Ph extF) loopL b_spec_SizeCaches_0 = F
  intro m
  induction m with
  | zero =>
    intro k i hi hk acc x0 x2 x6 x7 x8 x9 x10 x11 x12 x13 x14 x15 x16 x17 x18 x19 x20 x21 x22 x23 x24 x25 x26 x27 x28 x29 x30 x31 x32 x33 x34 x35 x36 x37 x38 x39 x40 x41 x42 h σ hσ
    subst hi hσ
    have hk' : k = es.length := by omega
    subst hk'
    rw [loopL_go0 hF]
    simp (maxSteps := 4000000) [b_spec_SizeCaches_0, start, execL, exec, execOps, stepO, wants, fop, eop, Opd.ev, put, V.cells, plain, loadV, cut, isInt, isStr, isBool, bin, binInt, binStr_neq, binStr_eql, un, asList, L.view, viewArgs, V.view, viewL, done, finish, resultsOf, resultOf, comps, comp, giveLs, giveL, arrsOf, V.flat, L.flat, setV, setL, storeV, putAt, thaw, thawL, freezeVs, freezeLs, freezeL, V.mut, L.mut, elemPtr, viewRows, Runs_some, hci, hce]
  | succ m ih =>
    intro k i hi hk acc x0 x2 x6 x7 x8 x9 x10 x11 x12 x13 x14 x15 x16 x17 x18 x19 x20 x21 x22 x23 x24 x25 x26 x27 x28 x29 x30 x31 x32 x33 x34 x35 x36 x37 x38 x39 x40 x41 x42 h σ hσ
    subst hi hσ
    have hlt : k < es.length := by omega
    have hw := wrap_small (k := k) (by unfold maxLen at hl; omega)
    obtain ⟨d0, d1, d2, d3, d4, d5, d6, hrk, _⟩ := cached_cells (hr _ (List.getElem_mem hlt))
    have e1 := spec_StoredSize_ok (x0 := d2) (x1 := d3) (x2 := d4) (x3 := d5) (x4 := d6) (d2 == 3)
    have hs : stE acc es[k] = IntKind.i64.wrap (acc + cond (d2 == 3) 76 (IntKind.i64.wrap (16 + (d5.length : Int)))) := by rw [hrk]; rfl
    have key := ih (k + 1) ((k : Int) + 1) (by omega) (by omega) (IntKind.i64.wrap (acc + cond (d2 == 3) 76 (IntKind.i64.wrap (16 + (d5.length : Int)))))
    clear ih
    rw [List.drop_eq_getElem_cons hlt, List.foldl_cons, hs]
    generalize hB : (es.drop (k + 1)).foldl (stE) (IntKind.i64.wrap (acc + cond (d2 == 3) 76 (IntKind.i64.wrap (16 + (d5.length : Int))))) = B at key ⊢
    rw [loopL_go0 hF]
    simp [b_spec_SizeCaches_0, start, execL, exec, execOps, stepO, wants, fop, eop, Opd.ev, put, V.cells, plain, loadV, cut, isInt, isStr, isBool, bin, binInt, binStr_neq, binStr_eql, un, asList, L.view, viewArgs, V.view, viewL, done, finish, resultsOf, resultOf, comps, comp, giveLs, giveL, arrsOf, V.flat, L.flat, setV, setL, storeV, putAt, thaw, thawL, freezeVs, freezeLs, freezeL, V.mut, L.mut, elemPtr, viewRows, hlt, hw, hrk, e1, hci, hce]
    exact key _ _ _ _ _ _ _ _ _ _ _ _ _ _ _ _ _ _ _ _ _ _ _ _ _ _ _ _ _ _ _ _ _ _ _ _ _ _ _ _ _ rfl
end Gi
