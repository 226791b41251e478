/- Numbers and bytes appended by the reference; bytes behind their number. -/
import Derived.Test.YtgpnnobfdcbgoaaGreatDoorGui
namespace Gi
open Go Go.RowKit
set_option linter.unusedSimpArgs false
set_option linter.unusedVariables false
set_option maxHeartbeats 4000000
set_option maxRecDepth 4000

theorem spec_AppendUvarint_ok {bs : List (List PV)} (ho : ones bs = true) (hl : bs.length ≤ 900000000) (n : Int) : ∃ es, callL Ph extF 244 [vlst bs, vint .i64 n] = some (.one (.own 1 es)) ∧ ones es = true ∧ es.length = bs.length + uvB n := by
  have c1 : bs.length ≤ 140737488355328 := by omega
  have c2 : bs.length ≤ 9223372036854775807 := by omega
  have ho' : (bs.all fun e => e.length == 1) = true := ho
  have e2 := spec_l1In_ok n 0 1000000000000
  by_cases hn : 0 ≤ n ∧ n ≤ 1000000000000
  · have hb : (decide ((0 : Int) ≤ n) && decide (n ≤ 1000000000000)) = true := by simp; omega
    rw [hb] at e2
    have LP := sau_loop 5 n hn.1 hn.2 (by simp; omega) [.dead] bs (by omega)
    generalize hF : exec (callL Ph extF) loopL b_spec_AppendUvarint_0 = F at LP
    obtain ⟨e, σ', k1, k2, n', g', es', ⟨k3, k4⟩, x0, x2, x3, x4, x6, x7, x8, x9, x10, x11, x12, x13, x14, x15, x16, x17, x18, x19, x20, x21, x22, x23, x24, x25, x26, x27, x28, rfl⟩ := (LP (vlst bs) (.tup []) (.tup []) (.one .nil) (.one (.arr 0)) (vlst bs) (.one (.arr 1)) (vint .i64 n) (vbool true) (vbool false) (.tup []) (.tup []) (.tup []) (.tup []) (.tup []) (.tup []) (.tup []) (.tup []) (.tup []) (.tup []) (.tup []) (.tup []) (.tup []) (.tup []) (.tup []) (.tup []) (.tup []) _ rfl).get
    subst k2
    have b1 : es'.length + 1 ≤ 140737488355328 := by have := uvL_le 5 n; omega
    have b2 : es'.length + 1 ≤ 9223372036854775807 := by omega
    refine ⟨es' ++ [[.int .u8 (IntKind.u8.wrap n')]], callL_fn (fn := f_spec_AppendUvarint) rfl ?_, ?_, ?_⟩
    · simp at k1
      simp [f_spec_AppendUvarint, start, execL, exec, execOps, stepO, wants, fop, eop, Opd.ev, put, V.cells, plain, loadV, cut, isInt, isStr, isBool, bin, binInt, binStr_neq, binStr_eql, un, asList, L.view, viewArgs, V.view, viewL, done, finish, resultsOf, resultOf, comps, comp, giveLs, giveL, arrsOf, V.flat, L.flat, setV, setL, storeV, putAt, thaw, thawL, freezeVs, freezeLs, freezeL, V.mut, L.mut, elemPtr, viewRows, e2, hF, c1, c2, ↓ho', k1, get0, get1, set0, L.notArr, b1, b2]
    · have := k4 ho
      simp only [ones, List.all_append, List.all_cons, List.all_nil] at this ⊢
      simp [this]
    · simp only [List.length_append, List.length_cons, List.length_nil, uvB, inB, hb, cond_true]
      omega
  · have hb : (decide ((0 : Int) ≤ n) && decide (n ≤ 1000000000000)) = false := by
      by_cases a1 : (0 : Int) ≤ n <;> by_cases a2 : n ≤ 1000000000000 <;> simp [a1, a2]
      exact hn ⟨a1, a2⟩
    rw [hb] at e2
    refine ⟨bs, callL_fn (fn := f_spec_AppendUvarint) rfl ?_, ho, by simp [uvB, inB, hb]⟩
    simp [f_spec_AppendUvarint, start, execL, exec, execOps, stepO, wants, fop, eop, Opd.ev, put, V.cells, plain, loadV, cut, isInt, isStr, isBool, bin, binInt, binStr_neq, binStr_eql, un, asList, L.view, viewArgs, V.view, viewL, done, finish, resultsOf, resultOf, comps, comp, giveLs, giveL, arrsOf, V.flat, L.flat, setV, setL, storeV, putAt, thaw, thawL, freezeVs, freezeLs, freezeL, V.mut, L.mut, elemPtr, viewRows, e2, c1, c2, ↓ho', L.notArr]
theorem ones_append {a b : List (List PV)} (h : ones a = true) (k : ones b = true) : ones (a ++ b) = true := by
  simp only [ones, List.all_append] at *
  simp [h, k]
theorem impl_AppendBytes_ok {bs ds : List (List PV)} (ho : ones bs = true) (hd : ones ds = true) (hl : bs.length ≤ 800000000) (hl2 : ds.length ≤ 50000000) : ∃ es, callL Ph extF 248 [vlst bs, vlst ds] = some (.one (.own 1 es)) ∧ ones es = true ∧ es.length = bs.length + uvB ds.length + ds.length := by
  obtain ⟨es, e1, e2, e3⟩ := impl_AppendUvarint_ok ho (by omega) ds.length
  have hu := uvB_le ds.length
  have b1 : es.length + ds.length ≤ 140737488355328 := by omega
  have b2 : es.length + ds.length ≤ 9223372036854775807 := by omega
  have hd' : (ds.all fun e => e.length == 1) = true := hd
  refine ⟨es ++ ds, callL_fn (fn := f_impl_AppendBytes) rfl ?_, ones_append e2 hd, by rw [List.length_append, e3]⟩
  simp [f_impl_AppendBytes, start, execL, exec, execOps, stepO, wants, fop, eop, Opd.ev, put, V.cells, plain, loadV, cut, isInt, isStr, isBool, bin, binInt, binStr_neq, binStr_eql, un, asList, L.view, viewArgs, V.view, viewL, done, finish, resultsOf, resultOf, comps, comp, giveLs, giveL, arrsOf, V.flat, L.flat, setV, setL, storeV, putAt, thaw, thawL, freezeVs, freezeLs, freezeL, V.mut, L.mut, elemPtr, viewRows, e1, ↓hd', b1, b2, L.notArr]
theorem spec_AppendBytes_ok {bs ds : List (List PV)} (ho : ones bs = true) (hd : ones ds = true) (hl : bs.length ≤ 800000000) (hl2 : ds.length ≤ 50000000) : ∃ es, callL Ph extF 245 [vlst bs, vlst ds] = some (.one (.own 1 es)) ∧ ones es = true ∧ es.length = bs.length + uvB ds.length + ds.length := by
  obtain ⟨es, e1, e2, e3⟩ := spec_AppendUvarint_ok ho (by omega) ds.length
  have hu := uvB_le ds.length
  have b1 : es.length + ds.length ≤ 140737488355328 := by omega
  have b2 : es.length + ds.length ≤ 9223372036854775807 := by omega
  have hd' : (ds.all fun e => e.length == 1) = true := hd
  refine ⟨es ++ ds, callL_fn (fn := f_spec_AppendBytes) rfl ?_, ones_append e2 hd, by rw [List.length_append, e3]⟩
  simp [f_spec_AppendBytes, start, execL, exec, execOps, stepO, wants, fop, eop, Opd.ev, put, V.cells, plain, loadV, cut, isInt, isStr, isBool, bin, binInt, binStr_neq, binStr_eql, un, asList, L.view, viewArgs, V.view, viewL, done, finish, resultsOf, resultOf, comps, comp, giveLs, giveL, arrsOf, V.flat, L.flat, setV, setL, storeV, putAt, thaw, thawL, freezeVs, freezeLs, freezeL, V.mut, L.mut, elemPtr, viewRows, e1, ↓hd', b1, b2, L.notArr]
end Gi
