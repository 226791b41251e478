/- The loops of PageConsistent. -/
import Derived.Test.YthhkaabllddhdaaGreatGua1
namespace Gi
open Go Go.RowKit
set_option linter.unusedSimpArgs false
set_option linter.unusedVariables false
set_option maxHeartbeats 4000000
set_option maxRecDepth 4000

/-! ### PageConsistent -/
def badE (s : List UInt8) (v : Int) : List PV → Bool
  | [.str a, _, _, .int _ st, .int _ ver, _, _] => a == s && (st == 200 && ver != v)
  | _ => false
theorem cached_cells {r : List PV} (h : HasL t_CachedS r) : ∃ (c0 : List UInt8) (c1 : List UInt8) (c2 : Int) (c3 : Int) (c4 : Int) (c5 : List (List PV)) (c6 : Bool), r = [.str c0, .str c1, .int .i64 c2, .int .i64 c3, .int .i64 c4, .lst c5, .bool c6] ∧ Has (.str) (.str c0) ∧ Has (.str) (.str c1) ∧ Has (.int .i64) (.int .i64 c2) ∧ Has (.int .i64) (.int .i64 c3) ∧ Has (.int .i64) (.int .i64 c4) ∧ Has (.lst t_ByteS) (.lst c5) ∧ Has (.bool) (.bool c6) := by
  obtain ⟨p0, r1, rfl, g0, k1⟩ := HasL_cons h
  obtain ⟨p1, r2, rfl, g1, k2⟩ := HasL_cons k1
  obtain ⟨p2, r3, rfl, g2, k3⟩ := HasL_cons k2
  obtain ⟨p3, r4, rfl, g3, k4⟩ := HasL_cons k3
  obtain ⟨p4, r5, rfl, g4, k5⟩ := HasL_cons k4
  obtain ⟨p5, r6, rfl, g5, k6⟩ := HasL_cons k5
  obtain ⟨p6, r7, rfl, g6, k7⟩ := HasL_cons k6
  obtain rfl := HasL_nil k7
  obtain ⟨c0, rfl⟩ := Has_str g0
  obtain ⟨c1, rfl⟩ := Has_str g1
  obtain ⟨c2, rfl⟩ := Has_int g2
  obtain ⟨c3, rfl⟩ := Has_int g3
  obtain ⟨c4, rfl⟩ := Has_int g4
  obtain ⟨c5, rfl⟩ := Has_lst g5
  obtain ⟨c6, rfl⟩ := Has_bool g6
  exact ⟨c0, c1, c2, c3, c4, c5, c6, rfl, g0, g1, g2, g3, g4, g5, g6⟩
theorem ipc_loop {e0 : Int} {e1 e2 : List UInt8} {e3 : Int} {e4 e5 : List (List PV)} {e6 : Int} {e7 : List (List PV)} {e8 : Int} {e9 e10 : Bool} {es : List (List PV)} {a0 a2 : AObj} (hl : es.length ≤ maxLen) (hr : ∀ r ∈ es, HasL t_CachedS r) : ∀ (m k : Nat) (i : Int), i = k → k + m = es.length → ∀ (x0 x1 x2 x4 x5 x6 x7 x8 x9 x10 x11 x12 x13 x14 x15 x16 x17 x18 x19 x20 x21 x22 x23 x24 x25 x26 x27 x28 x29 x30 x31 x32 x33 x34 x35 x36 x37 x38 x42 x43 x44 x45 x46 x47 x48 x49 x50 x51 x52 x53 x54 x55 x56 x57 x58 x59 x60 x61 x62 x63 x64 : V) (h : List AObj),
    Runs (loopL (exec (callL Ph extF) loopL b_impl_PageConsistent_0) ⟨(x0 :: x1 :: x2 :: .one (.ptr 1 0 0) :: x4 :: x5 :: x6 :: x7 :: x8 :: x9 :: x10 :: x11 :: x12 :: x13 :: x14 :: x15 :: x16 :: x17 :: x18 :: x19 :: x20 :: x21 :: x22 :: x23 :: x24 :: x25 :: x26 :: x27 :: x28 :: x29 :: x30 :: x31 :: x32 :: x33 :: x34 :: x35 :: x36 :: x37 :: x38 :: vlst es :: vint .i64 es.length :: vint .i64 i :: x42 :: x43 :: x44 :: x45 :: x46 :: x47 :: x48 :: x49 :: x50 :: x51 :: x52 :: x53 :: x54 :: x55 :: x56 :: x57 :: x58 :: x59 :: x60 :: x61 :: x62 :: x63 :: x64 :: []), a0 :: .box [.pv (.int .i64 e0), .pv (.str e1), .pv (.str e2), .pv (.int .i64 e3), .pv (.lst e4), .pv (.lst e5), .pv (.int .i64 e6), .pv (.lst e7), .pv (.int .i64 e8), .pv (.bool e9), .pv (.bool e10)] :: a2 :: h⟩) fun e σ' => (e = .exit 0 ∧ (es.drop k).any (badE e1 e3) = false ∧ ∃ (x0 x1 x2 x4 x5 x6 x7 x8 x9 x10 x11 x12 x13 x14 x15 x16 x17 x18 x19 x20 x21 x22 x23 x24 x25 x26 x27 x28 x29 x30 x31 x32 x33 x34 x35 x36 x37 x38 x42 x43 x44 x45 x46 x47 x48 x49 x50 x51 x52 x53 x54 x55 x56 x57 x58 x59 x60 x61 x62 x63 x64 : V) (h' : List AObj), σ' = ⟨(x0 :: x1 :: x2 :: .one (.ptr 1 0 0) :: x4 :: x5 :: x6 :: x7 :: x8 :: x9 :: x10 :: x11 :: x12 :: x13 :: x14 :: x15 :: x16 :: x17 :: x18 :: x19 :: x20 :: x21 :: x22 :: x23 :: x24 :: x25 :: x26 :: x27 :: x28 :: x29 :: x30 :: x31 :: x32 :: x33 :: x34 :: x35 :: x36 :: x37 :: x38 :: vlst es :: vint .i64 es.length :: vint .i64 (es.length : Nat) :: x42 :: x43 :: x44 :: x45 :: x46 :: x47 :: x48 :: x49 :: x50 :: x51 :: x52 :: x53 :: x54 :: x55 :: x56 :: x57 :: x58 :: x59 :: x60 :: x61 :: x62 :: x63 :: x64 :: []), a0 :: .box [.pv (.int .i64 e0), .pv (.str e1), .pv (.str e2), .pv (.int .i64 e3), .pv (.lst e4), .pv (.lst e5), .pv (.int .i64 e6), .pv (.lst e7), .pv (.int .i64 e8), .pv (.bool e9), .pv (.bool e10)] :: a2 :: h'⟩) ∨ (e = .ret ∧ (es.drop k).any (badE e1 e3) = true ∧ σ'.t.length = 65 ∧ σ'.t[4]? = some (vbool false)) := by
  generalize hF : exec (callL Ph extF) loopL b_impl_PageConsistent_0 = F
  intro m
  induction m with
  | zero =>
    intro k i hi hk x0 x1 x2 x4 x5 x6 x7 x8 x9 x10 x11 x12 x13 x14 x15 x16 x17 x18 x19 x20 x21 x22 x23 x24 x25 x26 x27 x28 x29 x30 x31 x32 x33 x34 x35 x36 x37 x38 x42 x43 x44 x45 x46 x47 x48 x49 x50 x51 x52 x53 x54 x55 x56 x57 x58 x59 x60 x61 x62 x63 x64 h
    subst hi
    have hk' : k = es.length := by omega
    subst hk'
    rw [loopL_go0 hF]
    simp (maxSteps := 4000000) [b_impl_PageConsistent_0, start, execL, exec, execOps, stepO, wants, fop, eop, Opd.ev, put, V.cells, plain, loadV, cut, isInt, isStr, isBool, bin, binInt, binStr_neq, binStr_eql, un, asList, L.view, viewArgs, V.view, viewL, done, finish, resultsOf, resultOf, comps, comp, giveLs, giveL, arrsOf, V.flat, L.flat, setV, setL, storeV, putAt, thaw, thawL, freezeVs, freezeLs, freezeL, V.mut, L.mut, elemPtr, viewRows, findI, Runs_some]
  | succ m ih =>
    intro k i hi hk x0 x1 x2 x4 x5 x6 x7 x8 x9 x10 x11 x12 x13 x14 x15 x16 x17 x18 x19 x20 x21 x22 x23 x24 x25 x26 x27 x28 x29 x30 x31 x32 x33 x34 x35 x36 x37 x38 x42 x43 x44 x45 x46 x47 x48 x49 x50 x51 x52 x53 x54 x55 x56 x57 x58 x59 x60 x61 x62 x63 x64 h
    subst hi
    have hlt : k < es.length := by omega
    have hw := wrap_small (k := k) (by unfold maxLen at hl; omega)
    obtain ⟨d0, d1, d2, d3, d4, d5, d6, hrk, _⟩ := cached_cells (hr _ (List.getElem_mem hlt))
    have hp : badE e1 e3 es[k] = (d0 == e1 && (d3 == 200 && d4 != e3)) := by rw [hrk]; rfl
    have key := ih (k + 1) ((k : Int) + 1) (by omega) (by omega)
    clear ih
    rw [List.drop_eq_getElem_cons hlt]
    rw [List.any_cons]
    generalize (es.drop (k + 1)).any (badE e1 e3) = B at key ⊢
    rw [loopL_go0 hF]
    rw [hp]; cases c1 : (d0 == e1) <;> cases c2 : (d4 != e3) <;> cases c3 : (d3 == 200) <;>
      first
      | omega
      | (simp [b_impl_PageConsistent_0, start, execL, exec, execOps, stepO, wants, fop, eop, Opd.ev, put, V.cells, plain, loadV, cut, isInt, isStr, isBool, bin, binInt, binStr_neq, binStr_eql, un, asList, L.view, viewArgs, V.view, viewL, done, finish, resultsOf, resultOf, comps, comp, giveLs, giveL, arrsOf, V.flat, L.flat, setV, setL, storeV, putAt, thaw, thawL, freezeVs, freezeLs, freezeL, V.mut, L.mut, elemPtr, viewRows, hlt, hw, hrk, c1, c2, c3]
         exact key _ _ _ _ _ _ _ _ _ _ _ _ _ _ _ _ _ _ _ _ _ _ _ _ _ _ _ _ _ _ _ _ _ _ _ _ _ _ _ _ _ _ _ _ _ _ _ _ _ _ _ _ _ _ _ _ _ _ _ _ _ _)
      | (simp [b_impl_PageConsistent_0, start, execL, exec, execOps, stepO, wants, fop, eop, Opd.ev, put, V.cells, plain, loadV, cut, isInt, isStr, isBool, bin, binInt, binStr_neq, binStr_eql, un, asList, L.view, viewArgs, V.view, viewL, done, finish, resultsOf, resultOf, comps, comp, giveLs, giveL, arrsOf, V.flat, L.flat, setV, setL, storeV, putAt, thaw, thawL, freezeVs, freezeLs, freezeL, V.mut, L.mut, elemPtr, viewRows, hlt, hw, hrk, c1, c2, c3, Runs_some]; done)
theorem ipc_loop' {e0 : Int} {e1 e2 : List UInt8} {e3 : Int} {e4 e5 : List (List PV)} {e6 : Int} {e7 : List (List PV)} {e8 : Int} {e9 e10 : Bool} {es : List (List PV)} {a0 a2 : AObj} (hl : es.length ≤ maxLen) (hr : ∀ r ∈ es, HasL t_CachedS r) : ∀ (m k : Nat) (i : Int), i = k → k + m = es.length → ∀ (x0 x1 x2 x4 x5 x6 x7 x8 x9 x10 x11 x12 x13 x14 x15 x16 x17 x18 x19 x20 x21 x22 x23 x24 x25 x26 x27 x28 x29 x30 x31 x32 x33 x34 x35 x36 x37 x38 x42 x43 x44 x45 x46 x47 x48 x49 x50 x51 x52 x53 x54 x55 x56 x57 x58 x59 x60 x61 x62 x63 x64 : V) (h : List AObj) (σ : St), σ = ⟨(x0 :: x1 :: x2 :: .one (.ptr 1 0 0) :: x4 :: x5 :: x6 :: x7 :: x8 :: x9 :: x10 :: x11 :: x12 :: x13 :: x14 :: x15 :: x16 :: x17 :: x18 :: x19 :: x20 :: x21 :: x22 :: x23 :: x24 :: x25 :: x26 :: x27 :: x28 :: x29 :: x30 :: x31 :: x32 :: x33 :: x34 :: x35 :: x36 :: x37 :: x38 :: vlst es :: vint .i64 es.length :: vint .i64 i :: x42 :: x43 :: x44 :: x45 :: x46 :: x47 :: x48 :: x49 :: x50 :: x51 :: x52 :: x53 :: x54 :: x55 :: x56 :: x57 :: x58 :: x59 :: x60 :: x61 :: x62 :: x63 :: x64 :: []), a0 :: .box [.pv (.int .i64 e0), .pv (.str e1), .pv (.str e2), .pv (.int .i64 e3), .pv (.lst e4), .pv (.lst e5), .pv (.int .i64 e6), .pv (.lst e7), .pv (.int .i64 e8), .pv (.bool e9), .pv (.bool e10)] :: a2 :: h⟩ →
    Runs (loopL (exec (callL Ph extF) loopL b_impl_PageConsistent_0) σ) fun e σ' => (e = .exit 0 ∧ (es.drop k).any (badE e1 e3) = false ∧ ∃ (x0 x1 x2 x4 x5 x6 x7 x8 x9 x10 x11 x12 x13 x14 x15 x16 x17 x18 x19 x20 x21 x22 x23 x24 x25 x26 x27 x28 x29 x30 x31 x32 x33 x34 x35 x36 x37 x38 x42 x43 x44 x45 x46 x47 x48 x49 x50 x51 x52 x53 x54 x55 x56 x57 x58 x59 x60 x61 x62 x63 x64 : V) (h' : List AObj), σ' = ⟨(x0 :: x1 :: x2 :: .one (.ptr 1 0 0) :: x4 :: x5 :: x6 :: x7 :: x8 :: x9 :: x10 :: x11 :: x12 :: x13 :: x14 :: x15 :: x16 :: x17 :: x18 :: x19 :: x20 :: x21 :: x22 :: x23 :: x24 :: x25 :: x26 :: x27 :: x28 :: x29 :: x30 :: x31 :: x32 :: x33 :: x34 :: x35 :: x36 :: x37 :: x38 :: vlst es :: vint .i64 es.length :: vint .i64 (es.length : Nat) :: x42 :: x43 :: x44 :: x45 :: x46 :: x47 :: x48 :: x49 :: x50 :: x51 :: x52 :: x53 :: x54 :: x55 :: x56 :: x57 :: x58 :: x59 :: x60 :: x61 :: x62 :: x63 :: x64 :: []), a0 :: .box [.pv (.int .i64 e0), .pv (.str e1), .pv (.str e2), .pv (.int .i64 e3), .pv (.lst e4), .pv (.lst e5), .pv (.int .i64 e6), .pv (.lst e7), .pv (.int .i64 e8), .pv (.bool e9), .pv (.bool e10)] :: a2 :: h'⟩) ∨ (e = .ret ∧ (es.drop k).any (badE e1 e3) = true ∧ σ'.t.length = 65 ∧ σ'.t[4]? = some (vbool false)) := by
  intro m k i hi hk x0 x1 x2 x4 x5 x6 x7 x8 x9 x10 x11 x12 x13 x14 x15 x16 x17 x18 x19 x20 x21 x22 x23 x24 x25 x26 x27 x28 x29 x30 x31 x32 x33 x34 x35 x36 x37 x38 x42 x43 x44 x45 x46 x47 x48 x49 x50 x51 x52 x53 x54 x55 x56 x57 x58 x59 x60 x61 x62 x63 x64 h σ hσ
  subst hσ
  exact ipc_loop hl hr m k i hi hk x0 x1 x2 x4 x5 x6 x7 x8 x9 x10 x11 x12 x13 x14 x15 x16 x17 x18 x19 x20 x21 x22 x23 x24 x25 x26 x27 x28 x29 x30 x31 x32 x33 x34 x35 x36 x37 x38 x42 x43 x44 x45 x46 x47 x48 x49 x50 x51 x52 x53 x54 x55 x56 x57 x58 x59 x60 x61 x62 x63 x64 h
theorem spc_loop {e0 : Int} {e1 e2 : List UInt8} {e3 : Int} {e4 e5 : List (List PV)} {e6 : Int} {e7 : List (List PV)} {e8 : Int} {e9 e10 : Bool} {es : List (List PV)} {a0 : AObj} (hl : es.length ≤ maxLen) (hr : ∀ r ∈ es, HasL t_CachedS r) : ∀ (m k : Nat) (i : Int), i = k → k + m = es.length → ∀ (x0 x1 x2 x4 x5 x6 x9 x10 x11 x12 x13 x14 x15 x16 x17 x18 x19 x20 x21 x22 x23 x24 x25 x26 x27 x28 x29 x30 x31 x32 x33 x34 x35 x36 x37 x38 x39 x40 x41 x42 x43 x44 x45 x46 x47 x48 x49 x50 x51 x52 x53 x54 x55 x56 x57 x58 x59 x60 x61 x62 x63 x64 x65 x66 x67 x68 x69 x70 x71 x72 x73 x74 x75 x76 x77 x78 x79 x80 : V),
    Runs (loopL (exec (callL Ph extF) loopL b_spec_PageConsistent_0) ⟨(x0 :: x1 :: x2 :: .one (.ptr 1 0 0) :: x4 :: x5 :: x6 :: vlst es :: vint .i64 i :: x9 :: x10 :: x11 :: x12 :: x13 :: x14 :: x15 :: x16 :: x17 :: x18 :: x19 :: x20 :: x21 :: x22 :: x23 :: x24 :: x25 :: x26 :: x27 :: x28 :: x29 :: x30 :: x31 :: x32 :: x33 :: x34 :: x35 :: x36 :: x37 :: x38 :: x39 :: x40 :: x41 :: x42 :: x43 :: x44 :: x45 :: x46 :: x47 :: x48 :: x49 :: x50 :: x51 :: x52 :: x53 :: x54 :: x55 :: x56 :: x57 :: x58 :: x59 :: x60 :: x61 :: x62 :: x63 :: x64 :: x65 :: x66 :: x67 :: x68 :: x69 :: x70 :: x71 :: x72 :: x73 :: x74 :: x75 :: x76 :: x77 :: x78 :: x79 :: x80 :: []), [a0, .box [.pv (.int .i64 e0), .pv (.str e1), .pv (.str e2), .pv (.int .i64 e3), .pv (.lst e4), .pv (.lst e5), .pv (.int .i64 e6), .pv (.lst e7), .pv (.int .i64 e8), .pv (.bool e9), .pv (.bool e10)]]⟩) fun e σ' => (e = .exit 0 ∧ (es.drop k).any (badE e1 e3) = false ∧ ∃ (x0 x1 x2 x4 x5 x6 x9 x10 x11 x12 x13 x14 x15 x16 x17 x18 x19 x20 x21 x22 x23 x24 x25 x26 x27 x28 x29 x30 x31 x32 x33 x34 x35 x36 x37 x38 x39 x40 x41 x42 x43 x44 x45 x46 x47 x48 x49 x50 x51 x52 x53 x54 x55 x56 x57 x58 x59 x60 x61 x62 x63 x64 x65 x66 x67 x68 x69 x70 x71 x72 x73 x74 x75 x76 x77 x78 x79 x80 : V), σ' = ⟨(x0 :: x1 :: x2 :: .one (.ptr 1 0 0) :: x4 :: x5 :: x6 :: vlst es :: vint .i64 (es.length : Nat) :: x9 :: x10 :: x11 :: x12 :: x13 :: x14 :: x15 :: x16 :: x17 :: x18 :: x19 :: x20 :: x21 :: x22 :: x23 :: x24 :: x25 :: x26 :: x27 :: x28 :: x29 :: x30 :: x31 :: x32 :: x33 :: x34 :: x35 :: x36 :: x37 :: x38 :: x39 :: x40 :: x41 :: x42 :: x43 :: x44 :: x45 :: x46 :: x47 :: x48 :: x49 :: x50 :: x51 :: x52 :: x53 :: x54 :: x55 :: x56 :: x57 :: x58 :: x59 :: x60 :: x61 :: x62 :: x63 :: x64 :: x65 :: x66 :: x67 :: x68 :: x69 :: x70 :: x71 :: x72 :: x73 :: x74 :: x75 :: x76 :: x77 :: x78 :: x79 :: x80 :: []), [a0, .box [.pv (.int .i64 e0), .pv (.str e1), .pv (.str e2), .pv (.int .i64 e3), .pv (.lst e4), .pv (.lst e5), .pv (.int .i64 e6), .pv (.lst e7), .pv (.int .i64 e8), .pv (.bool e9), .pv (.bool e10)]]⟩) ∨ (e = .ret ∧ (es.drop k).any (badE e1 e3) = true ∧ σ'.t.length = 81 ∧ σ'.t[4]? = some (vbool false)) := by
  generalize hF : exec (callL Ph extF) loopL b_spec_PageConsistent_0 = F
  intro m
  induction m with
  | zero =>
    intro k i hi hk x0 x1 x2 x4 x5 x6 x9 x10 x11 x12 x13 x14 x15 x16 x17 x18 x19 x20 x21 x22 x23 x24 x25 x26 x27 x28 x29 x30 x31 x32 x33 x34 x35 x36 x37 x38 x39 x40 x41 x42 x43 x44 x45 x46 x47 x48 x49 x50 x51 x52 x53 x54 x55 x56 x57 x58 x59 x60 x61 x62 x63 x64 x65 x66 x67 x68 x69 x70 x71 x72 x73 x74 x75 x76 x77 x78 x79 x80
    subst hi
    have hk' : k = es.length := by omega
    subst hk'
    rw [loopL_go0 hF]
    simp (maxSteps := 4000000) [b_spec_PageConsistent_0, start, execL, exec, execOps, stepO, wants, fop, eop, Opd.ev, put, V.cells, plain, loadV, cut, isInt, isStr, isBool, bin, binInt, binStr_neq, binStr_eql, un, asList, L.view, viewArgs, V.view, viewL, done, finish, resultsOf, resultOf, comps, comp, giveLs, giveL, arrsOf, V.flat, L.flat, setV, setL, storeV, putAt, thaw, thawL, freezeVs, freezeLs, freezeL, V.mut, L.mut, elemPtr, viewRows, findI, Runs_some]
  | succ m ih =>
    intro k i hi hk x0 x1 x2 x4 x5 x6 x9 x10 x11 x12 x13 x14 x15 x16 x17 x18 x19 x20 x21 x22 x23 x24 x25 x26 x27 x28 x29 x30 x31 x32 x33 x34 x35 x36 x37 x38 x39 x40 x41 x42 x43 x44 x45 x46 x47 x48 x49 x50 x51 x52 x53 x54 x55 x56 x57 x58 x59 x60 x61 x62 x63 x64 x65 x66 x67 x68 x69 x70 x71 x72 x73 x74 x75 x76 x77 x78 x79 x80
    subst hi
    have hlt : k < es.length := by omega
    have hw := wrap_small (k := k) (by unfold maxLen at hl; omega)
    obtain ⟨d0, d1, d2, d3, d4, d5, d6, hrk, _⟩ := cached_cells (hr _ (List.getElem_mem hlt))
    have hp : badE e1 e3 es[k] = (d0 == e1 && (d3 == 200 && d4 != e3)) := by rw [hrk]; rfl
    have key := ih (k + 1) ((k : Int) + 1) (by omega) (by omega)
    clear ih
    rw [List.drop_eq_getElem_cons hlt]
    rw [List.any_cons]
    generalize (es.drop (k + 1)).any (badE e1 e3) = B at key ⊢
    rw [loopL_go0 hF]
    rw [hp]; cases c1 : (d0 == e1) <;> cases c2 : (d4 != e3) <;> cases c3 : (d3 == 200) <;>
      first
      | omega
      | (simp [b_spec_PageConsistent_0, start, execL, exec, execOps, stepO, wants, fop, eop, Opd.ev, put, V.cells, plain, loadV, cut, isInt, isStr, isBool, bin, binInt, binStr_neq, binStr_eql, un, asList, L.view, viewArgs, V.view, viewL, done, finish, resultsOf, resultOf, comps, comp, giveLs, giveL, arrsOf, V.flat, L.flat, setV, setL, storeV, putAt, thaw, thawL, freezeVs, freezeLs, freezeL, V.mut, L.mut, elemPtr, viewRows, hlt, hw, hrk, c1, c2, c3]
         exact key _ _ _ _ _ _ _ _ _ _ _ _ _ _ _ _ _ _ _ _ _ _ _ _ _ _ _ _ _ _ _ _ _ _ _ _ _ _ _ _ _ _ _ _ _ _ _ _ _ _ _ _ _ _ _ _ _ _ _ _ _ _ _ _ _ _ _ _ _ _ _ _ _ _ _ _ _ _)
      | (simp [b_spec_PageConsistent_0, start, execL, exec, execOps, stepO, wants, fop, eop, Opd.ev, put, V.cells, plain, loadV, cut, isInt, isStr, isBool, bin, binInt, binStr_neq, binStr_eql, un, asList, L.view, viewArgs, V.view, viewL, done, finish, resultsOf, resultOf, comps, comp, giveLs, giveL, arrsOf, V.flat, L.flat, setV, setL, storeV, putAt, thaw, thawL, freezeVs, freezeLs, freezeL, V.mut, L.mut, elemPtr, viewRows, hlt, hw, hrk, c1, c2, c3, Runs_some]; done)
theorem spc_loop' {e0 : Int} {e1 e2 : List UInt8} {e3 : Int} {e4 e5 : List (List PV)} {e6 : Int} {e7 : List (List PV)} {e8 : Int} {e9 e10 : Bool} {es : List (List PV)} {a0 : AObj} (hl : es.length ≤ maxLen) (hr : ∀ r ∈ es, HasL t_CachedS r) : ∀ (m k : Nat) (i : Int), i = k → k + m = es.length → ∀ (x0 x1 x2 x4 x5 x6 x9 x10 x11 x12 x13 x14 x15 x16 x17 x18 x19 x20 x21 x22 x23 x24 x25 x26 x27 x28 x29 x30 x31 x32 x33 x34 x35 x36 x37 x38 x39 x40 x41 x42 x43 x44 x45 x46 x47 x48 x49 x50 x51 x52 x53 x54 x55 x56 x57 x58 x59 x60 x61 x62 x63 x64 x65 x66 x67 x68 x69 x70 x71 x72 x73 x74 x75 x76 x77 x78 x79 x80 : V) (σ : St), σ = ⟨(x0 :: x1 :: x2 :: .one (.ptr 1 0 0) :: x4 :: x5 :: x6 :: vlst es :: vint .i64 i :: x9 :: x10 :: x11 :: x12 :: x13 :: x14 :: x15 :: x16 :: x17 :: x18 :: x19 :: x20 :: x21 :: x22 :: x23 :: x24 :: x25 :: x26 :: x27 :: x28 :: x29 :: x30 :: x31 :: x32 :: x33 :: x34 :: x35 :: x36 :: x37 :: x38 :: x39 :: x40 :: x41 :: x42 :: x43 :: x44 :: x45 :: x46 :: x47 :: x48 :: x49 :: x50 :: x51 :: x52 :: x53 :: x54 :: x55 :: x56 :: x57 :: x58 :: x59 :: x60 :: x61 :: x62 :: x63 :: x64 :: x65 :: x66 :: x67 :: x68 :: x69 :: x70 :: x71 :: x72 :: x73 :: x74 :: x75 :: x76 :: x77 :: x78 :: x79 :: x80 :: []), [a0, .box [.pv (.int .i64 e0), .pv (.str e1), .pv (.str e2), .pv (.int .i64 e3), .pv (.lst e4), .pv (.lst e5), .pv (.int .i64 e6), .pv (.lst e7), .pv (.int .i64 e8), .pv (.bool e9), .pv (.bool e10)]]⟩ →
    Runs (loopL (exec (callL Ph extF) loopL b_spec_PageConsistent_0) σ) fun e σ' => (e = .exit 0 ∧ (es.drop k).any (badE e1 e3) = false ∧ ∃ (x0 x1 x2 x4 x5 x6 x9 x10 x11 x12 x13 x14 x15 x16 x17 x18 x19 x20 x21 x22 x23 x24 x25 x26 x27 x28 x29 x30 x31 x32 x33 x34 x35 x36 x37 x38 x39 x40 x41 x42 x43 x44 x45 x46 x47 x48 x49 x50 x51 x52 x53 x54 x55 x56 x57 x58 x59 x60 x61 x62 x63 x64 x65 x66 x67 x68 x69 x70 x71 x72 x73 x74 x75 x76 x77 x78 x79 x80 : V), σ' = ⟨(x0 :: x1 :: x2 :: .one (.ptr 1 0 0) :: x4 :: x5 :: x6 :: vlst es :: vint .i64 (es.length : Nat) :: x9 :: x10 :: x11 :: x12 :: x13 :: x14 :: x15 :: x16 :: x17 :: x18 :: x19 :: x20 :: x21 :: x22 :: x23 :: x24 :: x25 :: x26 :: x27 :: x28 :: x29 :: x30 :: x31 :: x32 :: x33 :: x34 :: x35 :: x36 :: x37 :: x38 :: x39 :: x40 :: x41 :: x42 :: x43 :: x44 :: x45 :: x46 :: x47 :: x48 :: x49 :: x50 :: x51 :: x52 :: x53 :: x54 :: x55 :: x56 :: x57 :: x58 :: x59 :: x60 :: x61 :: x62 :: x63 :: x64 :: x65 :: x66 :: x67 :: x68 :: x69 :: x70 :: x71 :: x72 :: x73 :: x74 :: x75 :: x76 :: x77 :: x78 :: x79 :: x80 :: []), [a0, .box [.pv (.int .i64 e0), .pv (.str e1), .pv (.str e2), .pv (.int .i64 e3), .pv (.lst e4), .pv (.lst e5), .pv (.int .i64 e6), .pv (.lst e7), .pv (.int .i64 e8), .pv (.bool e9), .pv (.bool e10)]]⟩) ∨ (e = .ret ∧ (es.drop k).any (badE e1 e3) = true ∧ σ'.t.length = 81 ∧ σ'.t[4]? = some (vbool false)) := by
  intro m k i hi hk x0 x1 x2 x4 x5 x6 x9 x10 x11 x12 x13 x14 x15 x16 x17 x18 x19 x20 x21 x22 x23 x24 x25 x26 x27 x28 x29 x30 x31 x32 x33 x34 x35 x36 x37 x38 x39 x40 x41 x42 x43 x44 x45 x46 x47 x48 x49 x50 x51 x52 x53 x54 x55 x56 x57 x58 x59 x60 x61 x62 x63 x64 x65 x66 x67 x68 x69 x70 x71 x72 x73 x74 x75 x76 x77 x78 x79 x80 σ hσ
  subst hσ
  exact spc_loop hl hr m k i hi hk x0 x1 x2 x4 x5 x6 x9 x10 x11 x12 x13 x14 x15 x16 x17 x18 x19 x20 x21 x22 x23 x24 x25 x26 x27 x28 x29 x30 x31 x32 x33 x34 x35 x36 x37 x38 x39 x40 x41 x42 x43 x44 x45 x46 x47 x48 x49 x50 x51 x52 x53 x54 x55 x56 x57 x58 x59 x60 x61 x62 x63 x64 x65 x66 x67 x68 x69 x70 x71 x72 x73 x74 x75 x76 x77 x78 x79 x80
end Gi
