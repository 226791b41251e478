/- Quota, walked; the functions. -/
import Derived.Test.YtgpnnobfdcbgoaaGreatGux
namespace Gi
open Go Go.RowKit
set_option linter.unusedSimpArgs false
set_option linter.unusedVariables false
set_option maxHeartbeats 4000000
set_option maxRecDepth 4000

def overQ : List PV → Bool
  | [_, _, _, _, _, _, .lst d6, _, _, .lst d9, _, .lst d11, _, _, .lst d14, _, _, _, _, .lst d19, _, _, _, _] => decide (2500 < usageV d6 d9 d11 d14 d19)
  | _ => false
theorem iwq_loop {c3 : List (List PV)} (hl : c3.length ≤ maxLen) (hr : ∀ r ∈ c3, HasL t_BucketS r) : ∀ (m k : Nat) (i : Int), i = k → k + m = c3.length → ∀ (x0 x1 x2 x3 x4 x5 x6 x10 x11 x12 x13 x14 x15 x16 : V) (h : List AObj),
    Runs (loopL (exec (callL Ph extF) loopL b_impl_WithinQuota_0) ⟨(x0 :: x1 :: x2 :: x3 :: x4 :: x5 :: x6 :: vlst c3 :: vint .i64 c3.length :: vint .i64 i :: x10 :: x11 :: x12 :: x13 :: x14 :: x15 :: x16 :: []), h⟩) fun e σ' => (e = .exit 0 ∧ (c3.drop k).any (overQ) = false ∧ ∃ (x0 x1 x2 x3 x4 x5 x6 x10 x11 x12 x13 x14 x15 x16 : V) (h' : List AObj), σ' = ⟨(x0 :: x1 :: x2 :: x3 :: x4 :: x5 :: x6 :: vlst c3 :: vint .i64 c3.length :: vint .i64 (c3.length : Nat) :: x10 :: x11 :: x12 :: x13 :: x14 :: x15 :: x16 :: []), h'⟩) ∨ (e = .ret ∧ (c3.drop k).any (overQ) = true ∧ σ'.t.length = 17 ∧ σ'.t[2]? = some (vbool false)) := by
  generalize hF : exec (callL Ph extF) loopL b_impl_WithinQuota_0 = F
  intro m
  induction m with
  | zero =>
    intro k i hi hk x0 x1 x2 x3 x4 x5 x6 x10 x11 x12 x13 x14 x15 x16 h
    subst hi
    have hk' : k = c3.length := by omega
    subst hk'
    rw [loopL_go0 hF]
    simp (maxSteps := 4000000) [b_impl_WithinQuota_0, start, execL, exec, execOps, stepO, wants, fop, eop, Opd.ev, put, V.cells, plain, loadV, cut, isInt, isStr, isBool, bin, binInt, binStr_neq, binStr_eql, un, asList, L.view, viewArgs, V.view, viewL, done, finish, resultsOf, resultOf, comps, comp, giveLs, giveL, arrsOf, V.flat, L.flat, setV, setL, storeV, putAt, thaw, thawL, freezeVs, freezeLs, freezeL, V.mut, L.mut, elemPtr, viewRows, findI, Runs_some]
  | succ m ih =>
    intro k i hi hk x0 x1 x2 x3 x4 x5 x6 x10 x11 x12 x13 x14 x15 x16 h
    subst hi
    have hlt : k < c3.length := by omega
    have hw := wrap_small (k := k) (by unfold maxLen at hl; omega)
    obtain ⟨d0, d1, d2, d3, d4, d5, d6, d7, d8, d9, d10, d11, d12, d13, d14, d15, d16, d17, d18, d19, d20, d21, d22, d23, hrk, _, _, _, _, _, _, h6, _, _, h9, _, _, _, _, h14, _⟩ := bucket_cells (hr _ (List.getElem_mem hlt))
    have e1 := impl_UsageOf_ok (d0 := d0) (d1 := d1) (d2 := d2) (d3 := d3) (d4 := d4) (d5 := d5) (d7 := d7) (d8 := d8) (d10 := d10) (d11 := d11) (d12 := d12) (d13 := d13) (d15 := d15) (d16 := d16) (d17 := d17) (d18 := d18) (d19 := d19) (d20 := d20) (d21 := d21) (d22 := d22) (d23 := d23) h6 h9 h14
    have hp : overQ c3[k] = decide (2500 < usageV d6 d9 d11 d14 d19) := by rw [hrk]; rfl
    generalize usageV d6 d9 d11 d14 d19 = u at e1 hp
    have key := ih (k + 1) ((k : Int) + 1) (by omega) (by omega)
    clear ih
    rw [List.drop_eq_getElem_cons hlt]
    rw [List.any_cons]
    generalize (c3.drop (k + 1)).any (overQ) = B at key ⊢
    rw [loopL_go0 hF]
    rw [hp]; by_cases c1 : 2500 < u <;>
      first
      | omega
      | (simp [b_impl_WithinQuota_0, start, execL, exec, execOps, stepO, wants, fop, eop, Opd.ev, put, V.cells, plain, loadV, cut, isInt, isStr, isBool, bin, binInt, binStr_neq, binStr_eql, un, asList, L.view, viewArgs, V.view, viewL, done, finish, resultsOf, resultOf, comps, comp, giveLs, giveL, arrsOf, V.flat, L.flat, setV, setL, storeV, putAt, thaw, thawL, freezeVs, freezeLs, freezeL, V.mut, L.mut, elemPtr, viewRows, hlt, hw, hrk, e1, c1]
         exact key _ _ _ _ _ _ _ _ _ _ _ _ _ _ _)
      | (simp [b_impl_WithinQuota_0, start, execL, exec, execOps, stepO, wants, fop, eop, Opd.ev, put, V.cells, plain, loadV, cut, isInt, isStr, isBool, bin, binInt, binStr_neq, binStr_eql, un, asList, L.view, viewArgs, V.view, viewL, done, finish, resultsOf, resultOf, comps, comp, giveLs, giveL, arrsOf, V.flat, L.flat, setV, setL, storeV, putAt, thaw, thawL, freezeVs, freezeLs, freezeL, V.mut, L.mut, elemPtr, viewRows, hlt, hw, hrk, e1, c1, Runs_some]; done)
theorem iwq_loop' {c3 : List (List PV)} (hl : c3.length ≤ maxLen) (hr : ∀ r ∈ c3, HasL t_BucketS r) : ∀ (m k : Nat) (i : Int), i = k → k + m = c3.length → ∀ (x0 x1 x2 x3 x4 x5 x6 x10 x11 x12 x13 x14 x15 x16 : V) (h : List AObj) (σ : St), σ = ⟨(x0 :: x1 :: x2 :: x3 :: x4 :: x5 :: x6 :: vlst c3 :: vint .i64 c3.length :: vint .i64 i :: x10 :: x11 :: x12 :: x13 :: x14 :: x15 :: x16 :: []), h⟩ →
    Runs (loopL (exec (callL Ph extF) loopL b_impl_WithinQuota_0) σ) fun e σ' => (e = .exit 0 ∧ (c3.drop k).any (overQ) = false ∧ ∃ (x0 x1 x2 x3 x4 x5 x6 x10 x11 x12 x13 x14 x15 x16 : V) (h' : List AObj), σ' = ⟨(x0 :: x1 :: x2 :: x3 :: x4 :: x5 :: x6 :: vlst c3 :: vint .i64 c3.length :: vint .i64 (c3.length : Nat) :: x10 :: x11 :: x12 :: x13 :: x14 :: x15 :: x16 :: []), h'⟩) ∨ (e = .ret ∧ (c3.drop k).any (overQ) = true ∧ σ'.t.length = 17 ∧ σ'.t[2]? = some (vbool false)) := by
  intro m k i hi hk x0 x1 x2 x3 x4 x5 x6 x10 x11 x12 x13 x14 x15 x16 h σ hσ
  subst hσ
  exact iwq_loop hl hr m k i hi hk x0 x1 x2 x3 x4 x5 x6 x10 x11 x12 x13 x14 x15 x16 h
theorem swq_loop {c0 : Int} {c1 : Bool} {c2 : Int} {c3 c4 : List (List PV)} {c5 : Int} {c6 c7 c8 c9 : List (List PV)} (hl : c3.length ≤ maxLen) (hr : ∀ r ∈ c3, HasL t_BucketS r) : ∀ (m k : Nat) (i : Int), i = k → k + m = c3.length → ∀ (x0 x2 x4 x5 x6 x7 x8 x9 x10 x11 x12 x13 x14 x15 x16 x17 x18 x19 : V) (h : List AObj),
    Runs (loopL (exec (callL Ph extF) loopL b_spec_WithinQuota_0) ⟨(x0 :: .one (.ptr 0 0 0) :: x2 :: vint .i64 i :: x4 :: x5 :: x6 :: x7 :: x8 :: x9 :: x10 :: x11 :: x12 :: x13 :: x14 :: x15 :: x16 :: x17 :: x18 :: x19 :: []), .box [.pv (.int .i64 c0), .pv (.bool c1), .pv (.int .i64 c2), .pv (.lst c3), .pv (.lst c4), .pv (.int .i64 c5), .pv (.lst c6), .pv (.lst c7), .pv (.lst c8), .pv (.lst c9)] :: h⟩) fun e σ' => (e = .exit 0 ∧ (c3.drop k).any (overQ) = false ∧ ∃ (x0 x2 x4 x5 x6 x7 x8 x9 x10 x11 x12 x13 x14 x15 x16 x17 x18 x19 : V) (h' : List AObj), σ' = ⟨(x0 :: .one (.ptr 0 0 0) :: x2 :: vint .i64 (c3.length : Nat) :: x4 :: x5 :: x6 :: x7 :: x8 :: x9 :: x10 :: x11 :: x12 :: x13 :: x14 :: x15 :: x16 :: x17 :: x18 :: x19 :: []), .box [.pv (.int .i64 c0), .pv (.bool c1), .pv (.int .i64 c2), .pv (.lst c3), .pv (.lst c4), .pv (.int .i64 c5), .pv (.lst c6), .pv (.lst c7), .pv (.lst c8), .pv (.lst c9)] :: h'⟩) ∨ (e = .ret ∧ (c3.drop k).any (overQ) = true ∧ σ'.t.length = 20 ∧ σ'.t[2]? = some (vbool false)) := by
  generalize hF : exec (callL Ph extF) loopL b_spec_WithinQuota_0 = F
  intro m
  induction m with
  | zero =>
    intro k i hi hk x0 x2 x4 x5 x6 x7 x8 x9 x10 x11 x12 x13 x14 x15 x16 x17 x18 x19 h
    subst hi
    have hk' : k = c3.length := by omega
    subst hk'
    rw [loopL_go0 hF]
    simp (maxSteps := 4000000) [b_spec_WithinQuota_0, start, execL, exec, execOps, stepO, wants, fop, eop, Opd.ev, put, V.cells, plain, loadV, cut, isInt, isStr, isBool, bin, binInt, binStr_neq, binStr_eql, un, asList, L.view, viewArgs, V.view, viewL, done, finish, resultsOf, resultOf, comps, comp, giveLs, giveL, arrsOf, V.flat, L.flat, setV, setL, storeV, putAt, thaw, thawL, freezeVs, freezeLs, freezeL, V.mut, L.mut, elemPtr, viewRows, findI, Runs_some]
  | succ m ih =>
    intro k i hi hk x0 x2 x4 x5 x6 x7 x8 x9 x10 x11 x12 x13 x14 x15 x16 x17 x18 x19 h
    subst hi
    have hlt : k < c3.length := by omega
    have hw := wrap_small (k := k) (by unfold maxLen at hl; omega)
    obtain ⟨d0, d1, d2, d3, d4, d5, d6, d7, d8, d9, d10, d11, d12, d13, d14, d15, d16, d17, d18, d19, d20, d21, d22, d23, hrk, _, _, _, _, _, _, h6, _, _, h9, _, _, _, _, h14, _⟩ := bucket_cells (hr _ (List.getElem_mem hlt))
    have e1 := spec_UsageOf_ok (d0 := d0) (d1 := d1) (d2 := d2) (d3 := d3) (d4 := d4) (d5 := d5) (d7 := d7) (d8 := d8) (d10 := d10) (d11 := d11) (d12 := d12) (d13 := d13) (d15 := d15) (d16 := d16) (d17 := d17) (d18 := d18) (d19 := d19) (d20 := d20) (d21 := d21) (d22 := d22) (d23 := d23) h6 h9 h14
    have hp : overQ c3[k] = decide (2500 < usageV d6 d9 d11 d14 d19) := by rw [hrk]; rfl
    generalize usageV d6 d9 d11 d14 d19 = u at e1 hp
    have key := ih (k + 1) ((k : Int) + 1) (by omega) (by omega)
    clear ih
    rw [List.drop_eq_getElem_cons hlt]
    rw [List.any_cons]
    generalize (c3.drop (k + 1)).any (overQ) = B at key ⊢
    rw [loopL_go0 hF]
    rw [hp]; by_cases c1 : 2500 < u <;>
      first
      | omega
      | (simp [b_spec_WithinQuota_0, start, execL, exec, execOps, stepO, wants, fop, eop, Opd.ev, put, V.cells, plain, loadV, cut, isInt, isStr, isBool, bin, binInt, binStr_neq, binStr_eql, un, asList, L.view, viewArgs, V.view, viewL, done, finish, resultsOf, resultOf, comps, comp, giveLs, giveL, arrsOf, V.flat, L.flat, setV, setL, storeV, putAt, thaw, thawL, freezeVs, freezeLs, freezeL, V.mut, L.mut, elemPtr, viewRows, hlt, hw, hrk, e1, c1]
         exact key _ _ _ _ _ _ _ _ _ _ _ _ _ _ _ _ _ _ _)
      | (simp [b_spec_WithinQuota_0, start, execL, exec, execOps, stepO, wants, fop, eop, Opd.ev, put, V.cells, plain, loadV, cut, isInt, isStr, isBool, bin, binInt, binStr_neq, binStr_eql, un, asList, L.view, viewArgs, V.view, viewL, done, finish, resultsOf, resultOf, comps, comp, giveLs, giveL, arrsOf, V.flat, L.flat, setV, setL, storeV, putAt, thaw, thawL, freezeVs, freezeLs, freezeL, V.mut, L.mut, elemPtr, viewRows, hlt, hw, hrk, e1, c1, Runs_some]; done)
theorem swq_loop' {c0 : Int} {c1 : Bool} {c2 : Int} {c3 c4 : List (List PV)} {c5 : Int} {c6 c7 c8 c9 : List (List PV)} (hl : c3.length ≤ maxLen) (hr : ∀ r ∈ c3, HasL t_BucketS r) : ∀ (m k : Nat) (i : Int), i = k → k + m = c3.length → ∀ (x0 x2 x4 x5 x6 x7 x8 x9 x10 x11 x12 x13 x14 x15 x16 x17 x18 x19 : V) (h : List AObj) (σ : St), σ = ⟨(x0 :: .one (.ptr 0 0 0) :: x2 :: vint .i64 i :: x4 :: x5 :: x6 :: x7 :: x8 :: x9 :: x10 :: x11 :: x12 :: x13 :: x14 :: x15 :: x16 :: x17 :: x18 :: x19 :: []), .box [.pv (.int .i64 c0), .pv (.bool c1), .pv (.int .i64 c2), .pv (.lst c3), .pv (.lst c4), .pv (.int .i64 c5), .pv (.lst c6), .pv (.lst c7), .pv (.lst c8), .pv (.lst c9)] :: h⟩ →
    Runs (loopL (exec (callL Ph extF) loopL b_spec_WithinQuota_0) σ) fun e σ' => (e = .exit 0 ∧ (c3.drop k).any (overQ) = false ∧ ∃ (x0 x2 x4 x5 x6 x7 x8 x9 x10 x11 x12 x13 x14 x15 x16 x17 x18 x19 : V) (h' : List AObj), σ' = ⟨(x0 :: .one (.ptr 0 0 0) :: x2 :: vint .i64 (c3.length : Nat) :: x4 :: x5 :: x6 :: x7 :: x8 :: x9 :: x10 :: x11 :: x12 :: x13 :: x14 :: x15 :: x16 :: x17 :: x18 :: x19 :: []), .box [.pv (.int .i64 c0), .pv (.bool c1), .pv (.int .i64 c2), .pv (.lst c3), .pv (.lst c4), .pv (.int .i64 c5), .pv (.lst c6), .pv (.lst c7), .pv (.lst c8), .pv (.lst c9)] :: h'⟩) ∨ (e = .ret ∧ (c3.drop k).any (overQ) = true ∧ σ'.t.length = 20 ∧ σ'.t[2]? = some (vbool false)) := by
  intro m k i hi hk x0 x2 x4 x5 x6 x7 x8 x9 x10 x11 x12 x13 x14 x15 x16 x17 x18 x19 h σ hσ
  subst hσ
  exact swq_loop hl hr m k i hi hk x0 x2 x4 x5 x6 x7 x8 x9 x10 x11 x12 x13 x14 x15 x16 x17 x18 x19 h
end Gi
