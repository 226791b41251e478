/- Keys as bytes: how many, the functions. -/
import Derived.Test.YtgpnnobfdcbgoaaGreatDoorGuk
namespace Gi
open Go Go.RowKit
set_option linter.unusedSimpArgs false
set_option linter.unusedVariables false
set_option maxHeartbeats 4000000
set_option maxRecDepth 4000

def keyL (a b : Int) (s : List UInt8) : Nat := cond (isKeyB a b s) (1 + cond (a != 2) 6 0 + s.length) 0
theorem ofBytes_ones (s : List UInt8) : ones (ofBytes s) = true := by simp [ones, ofBytes]
theorem ofBytes_len (s : List UInt8) : (ofBytes s).length = s.length := by simp [ofBytes]
theorem isKeyB_le12 {a b : Int} {s : List UInt8} (h : isKeyB a b s = true) : s.length ≤ 12 := by
  unfold isKeyB keyText at h
  simp only [Bool.and_eq_true, decide_eq_true_eq] at h
  exact h.1.2.2
theorem impl_EncodeKey_ok {a b : Int} {s : List UInt8} (hl0 : s.length ≤ maxLen) : ∃ es, callL Ph extF 225 [.agg [.pv (.int .i64 a), .pv (.int .i64 b), .pv (.str s)]] = some (.one (.own 1 es)) ∧ ones es = true ∧ es.length = keyL a b s := by
  have e1 := impl_IsKey_ok (a := a) (b := b) (s := s) hl0
  unfold keyL
  cases hk : isKeyB a b s
  · rw [hk] at e1
    refine ⟨[], callL_fn (fn := f_impl_EncodeKey) rfl ?_, rfl, rfl⟩
    simp [f_impl_EncodeKey, start, execL, exec, execOps, stepO, wants, fop, eop, Opd.ev, put, V.cells, plain, loadV, cut, isInt, isStr, isBool, bin, binInt, binStr_neq, binStr_eql, un, asList, L.view, viewArgs, V.view, viewL, done, finish, resultsOf, resultOf, comps, comp, giveLs, giveL, arrsOf, V.flat, L.flat, setV, setL, storeV, putAt, thaw, thawL, freezeVs, freezeLs, freezeL, V.mut, L.mut, elemPtr, viewRows, e1]
  · have hl := isKeyB_le12 hk
    rw [hk] at e1
    have b1 : 1 + s.length ≤ 140737488355328 := by omega
    have b2 : 1 + s.length ≤ 9223372036854775807 := by omega
    cases ha : (a != 2)
    · refine ⟨[[.int .u8 (IntKind.u8.wrap a)]] ++ ofBytes s, callL_fn (fn := f_impl_EncodeKey) rfl ?_, ones_append rfl (ofBytes_ones s), by simp [ofBytes_len]; omega⟩
      simp [f_impl_EncodeKey, start, execL, exec, execOps, stepO, wants, fop, eop, Opd.ev, put, V.cells, plain, loadV, cut, isInt, isStr, isBool, bin, binInt, binStr_neq, binStr_eql, un, asList, L.view, viewArgs, V.view, viewL, done, finish, resultsOf, resultOf, comps, comp, giveLs, giveL, arrsOf, V.flat, L.flat, setV, setL, storeV, putAt, thaw, thawL, freezeVs, freezeLs, freezeL, V.mut, L.mut, elemPtr, viewRows, e1, ha, b1, b2]
    · have LP := iek_loop (a := a) (b := b) (s := s) 6 5 (by omega) (by omega) [] [[.int .u8 (IntKind.u8.wrap a)]] (by simp)
      generalize hF : exec (callL Ph extF) loopL b_impl_EncodeKey_0 = F at LP
      obtain ⟨e, σ', k1, k2, g', es', ⟨k3, k4⟩, x0, x2, x5, x6, x7, x8, x9, x10, x11, x12, x13, x14, x15, x16, x17, x18, x19, x20, x21, x22, x23, x24, x25, x26, x27, x28, x29, x30, x31, x32, x33, y, rfl⟩ := (LP (.agg [.pv (.int .i64 a), .pv (.int .i64 b), .pv (.str s)]) (.one .nil) (.agg [.pv (.int .i64 a), .pv (.int .i64 b), .pv (.str s)]) (vbool true) (vbool false) (.tup []) (.one (.ptr 0 0 0)) (vint .i64 a) (vint .u8 (IntKind.u8.wrap a)) (.one (.arr 1)) (.one (.ptr 0 0 0)) (vint .i64 a) (vbool true) (.tup []) (.tup []) (.tup []) (.tup []) (.tup []) (.tup []) (.tup []) (.tup []) (.tup []) (.tup []) (.tup []) (.tup []) (.tup []) (.tup []) (.tup []) (.tup []) (.tup []) (.tup []) _ rfl).get
      subst k2
      simp at k3
      have c1 : es'.length + s.length ≤ 140737488355328 := by omega
      have c2 : es'.length + s.length ≤ 9223372036854775807 := by omega
      refine ⟨es' ++ ofBytes s, callL_fn (fn := f_impl_EncodeKey) rfl ?_, ones_append (k4 rfl) (ofBytes_ones s), by rw [List.length_append, ofBytes_len, k3]; simp⟩
      simp at k1
      simp [f_impl_EncodeKey, start, execL, exec, execOps, stepO, wants, fop, eop, Opd.ev, put, V.cells, plain, loadV, cut, isInt, isStr, isBool, bin, binInt, binStr_neq, binStr_eql, un, asList, L.view, viewArgs, V.view, viewL, done, finish, resultsOf, resultOf, comps, comp, giveLs, giveL, arrsOf, V.flat, L.flat, setV, setL, storeV, putAt, thaw, thawL, freezeVs, freezeLs, freezeL, V.mut, L.mut, elemPtr, viewRows, e1, ha, hF, k1, get0, get1, set0, c1, c2]
theorem spec_EncodeKey_ok {a b : Int} {s : List UInt8} (hl0 : s.length ≤ maxLen) : ∃ es, callL Ph extF 221 [.agg [.pv (.int .i64 a), .pv (.int .i64 b), .pv (.str s)]] = some (.one (.own 1 es)) ∧ ones es = true ∧ es.length = keyL a b s := by
  have e1 := spec_IsKey_ok (a := a) (b := b) (s := s) hl0
  have hob : ((ofBytes s).all fun e => e.length == 1) = true := ofBytes_ones s
  have hol := ofBytes_len s
  unfold keyL
  cases hk : isKeyB a b s
  · rw [hk] at e1
    refine ⟨[], callL_fn (fn := f_spec_EncodeKey) rfl ?_, rfl, rfl⟩
    simp [f_spec_EncodeKey, start, execL, exec, execOps, stepO, wants, fop, eop, Opd.ev, put, V.cells, plain, loadV, cut, isInt, isStr, isBool, bin, binInt, binStr_neq, binStr_eql, un, asList, L.view, viewArgs, V.view, viewL, done, finish, resultsOf, resultOf, comps, comp, giveLs, giveL, arrsOf, V.flat, L.flat, setV, setL, storeV, putAt, thaw, thawL, freezeVs, freezeLs, freezeL, V.mut, L.mut, elemPtr, viewRows, e1]
  · have hl := isKeyB_le12 hk
    rw [hk] at e1
    cases ha : (a != 2)
    · refine ⟨[[.int .u8 (IntKind.u8.wrap a)]] ++ ofBytes s, callL_fn (fn := f_spec_EncodeKey) rfl ?_, ones_append rfl (ofBytes_ones s), by simp [ofBytes_len]; omega⟩
      generalize hF : exec (callL Ph extF) loopL b_spec_EncodeKey_0 = F
      have b1 : 1 + s.length ≤ 140737488355328 := by omega
      have b2 : 1 + s.length ≤ 9223372036854775807 := by omega
      simp [-List.all_eq_true, f_spec_EncodeKey, start, execL, exec, execOps, stepO, wants, fop, eop, Opd.ev, put, V.cells, plain, loadV, cut, isInt, isStr, isBool, bin, binInt, binStr_neq, binStr_eql, un, asList, L.view, viewArgs, V.view, viewL, done, finish, resultsOf, resultOf, comps, comp, giveLs, giveL, arrsOf, V.flat, L.flat, setV, setL, storeV, putAt, thaw, thawL, freezeVs, freezeLs, freezeL, V.mut, L.mut, elemPtr, viewRows, e1, hF]
      rw [loopL_go0 hF]
      simp [b_spec_EncodeKey_0, start, execL, exec, execOps, stepO, wants, fop, eop, Opd.ev, put, V.cells, plain, loadV, cut, isInt, isStr, isBool, bin, binInt, binStr_neq, binStr_eql, un, asList, L.view, viewArgs, V.view, viewL, done, finish, resultsOf, resultOf, comps, comp, giveLs, giveL, arrsOf, V.flat, L.flat, setV, setL, storeV, putAt, thaw, thawL, freezeVs, freezeLs, freezeL, V.mut, L.mut, elemPtr, viewRows, ha, hol, ↓hob, b1, b2, L.notArr]
    · have LP := sek_loop (a := a) (b := b) (s := s) ha 6 5 (by omega) (by omega) [] [[.int .u8 (IntKind.u8.wrap a)]] (by simp)
      generalize hF : exec (callL Ph extF) loopL b_spec_EncodeKey_0 = F at LP
      simp only [ones, List.all_cons, List.all_nil] at LP
      obtain ⟨e, σ', k1, k2, g', es', ⟨k3, k4⟩, x0, x2, x5, x6, x7, x8, x9, x10, x11, x12, x13, x14, x15, x16, x17, x18, x19, x20, x21, x22, x23, x24, x25, x26, x27, x28, x29, x30, x31, x32, x33, x34, x35, x36, x37, y, rfl⟩ := (LP (.agg [.pv (.int .i64 a), .pv (.int .i64 b), .pv (.str s)]) (.one .nil) (.agg [.pv (.int .i64 a), .pv (.int .i64 b), .pv (.str s)]) (vbool true) (vbool false) (.tup []) (.one (.ptr 0 0 0)) (vint .i64 a) (vint .u8 (IntKind.u8.wrap a)) (.one (.arr 1)) (.tup []) (.tup []) (.tup []) (.tup []) (.tup []) (.tup []) (.tup []) (.tup []) (.tup []) (.tup []) (.tup []) (.tup []) (.tup []) (.tup []) (.tup []) (.tup []) (.tup []) (.tup []) (.tup []) (.tup []) (.tup []) (.tup []) (.tup []) (.tup []) (.tup []) _ rfl).get
      subst k2
      simp at k3
      have k4' : ones es' = true := k4 rfl
      have c1 : es'.length + s.length ≤ 140737488355328 := by omega
      have c2 : es'.length + s.length ≤ 9223372036854775807 := by omega
      refine ⟨es' ++ ofBytes s, callL_fn (fn := f_spec_EncodeKey) rfl ?_, ones_append k4' (ofBytes_ones s), by rw [List.length_append, ofBytes_len, k3]; simp⟩
      simp at k1
      simp [f_spec_EncodeKey, start, execL, exec, execOps, stepO, wants, fop, eop, Opd.ev, put, V.cells, plain, loadV, cut, isInt, isStr, isBool, bin, binInt, binStr_neq, binStr_eql, un, asList, L.view, viewArgs, V.view, viewL, done, finish, resultsOf, resultOf, comps, comp, giveLs, giveL, arrsOf, V.flat, L.flat, setV, setL, storeV, putAt, thaw, thawL, freezeVs, freezeLs, freezeL, V.mut, L.mut, elemPtr, viewRows, e1, hF, k1, get0, get1, set0, hol, ↓hob, c1, c2, L.notArr]
end Gi
