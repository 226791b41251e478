/- Numbers and bytes appended: how many. -/
import Derived.Test.YtgpnnobfdcbgoaaGreatDoorGuh
namespace Gi
open Go Go.RowKit
set_option linter.unusedSimpArgs false
set_option linter.unusedVariables false
set_option maxHeartbeats 4000000
set_option maxRecDepth 4000

def inB (n : Int) : Bool := decide (0 ≤ n) && decide (n ≤ 1000000000000)
def uvB (n : Int) : Nat := cond (inB n) (uvL 5 n) 0
theorem uvL_le : ∀ (m : Nat) (n : Int), uvL m n ≤ m + 1
  | 0, n => by simp [uvL]
  | m + 1, n => by
    unfold uvL
    split
    · omega
    · have := uvL_le m (n / 128); omega
theorem uvB_le (n : Int) : uvB n ≤ 6 := by
  unfold uvB
  cases inB n
  · simp
  · exact uvL_le 5 n
theorem impl_copyBytes_ok {bs : List (List PV)} (ho : ones bs = true) (hl : bs.length ≤ 900000000) : callL Ph extF 261 [vlst bs] = some (.one (.own 1 bs)) := by
  have b1 : bs.length ≤ 140737488355328 := by omega
  have b2 : bs.length ≤ 9223372036854775807 := by omega
  have ho' : (bs.all fun e => e.length == 1) = true := ho
  refine callL_fn (fn := f_impl_copyBytes) rfl ?_
  simp [f_impl_copyBytes, start, execL, exec, execOps, stepO, wants, fop, eop, Opd.ev, put, V.cells, plain, loadV, cut, isInt, isStr, isBool, bin, binInt, binStr_neq, binStr_eql, un, asList, L.view, viewArgs, V.view, viewL, done, finish, resultsOf, resultOf, comps, comp, giveLs, giveL, arrsOf, V.flat, L.flat, setV, setL, storeV, putAt, thaw, thawL, freezeVs, freezeLs, freezeL, V.mut, L.mut, elemPtr, viewRows, L.notArr, b1, b2, ↓ho']
theorem impl_AppendUvarint_ok {bs : List (List PV)} (ho : ones bs = true) (hl : bs.length ≤ 900000000) (n : Int) : ∃ es, callL Ph extF 247 [vlst bs, vint .i64 n] = some (.one (.own 1 es)) ∧ ones es = true ∧ es.length = bs.length + uvB n := by
  have e1 := impl_copyBytes_ok ho hl
  have e2 := impl_InRange_ok n 0 1000000000000
  by_cases hn : 0 ≤ n ∧ n ≤ 1000000000000
  · have hb : (decide ((0 : Int) ≤ n) && decide (n ≤ 1000000000000)) = true := by simp; omega
    rw [hb] at e2
    have LP := iau_loop 5 n hn.1 hn.2 (by simp; omega) [] bs (by omega)
    generalize hF : exec (callL Ph extF) loopL b_impl_AppendUvarint_0 = F at LP
    obtain ⟨e, σ', k1, k2, n', g', es', ⟨k3, k4⟩, x0, x2, x3, x4, x6, x7, x8, x9, x10, x11, x12, x13, x14, x15, x16, x17, x18, x19, x20, x21, x22, x23, x24, x25, x26, x27, rfl⟩ := (LP (vlst bs) (.tup []) (.tup []) (.one .nil) (vlst bs) (.one (.arr 0)) (vint .i64 n) (vbool true) (vbool false) (.tup []) (.tup []) (.tup []) (.tup []) (.tup []) (.tup []) (.tup []) (.tup []) (.tup []) (.tup []) (.tup []) (.tup []) (.tup []) (.tup []) (.tup []) (.tup []) (.tup []) _ rfl).get
    subst k2
    have b1 : es'.length + 1 ≤ 140737488355328 := by have := uvL_le 5 n; omega
    have b2 : es'.length + 1 ≤ 9223372036854775807 := by omega
    refine ⟨es' ++ [[.int .u8 (IntKind.u8.wrap n')]], callL_fn (fn := f_impl_AppendUvarint) rfl ?_, ?_, ?_⟩
    · simp at k1
      simp [f_impl_AppendUvarint, start, execL, exec, execOps, stepO, wants, fop, eop, Opd.ev, put, V.cells, plain, loadV, cut, isInt, isStr, isBool, bin, binInt, binStr_neq, binStr_eql, un, asList, L.view, viewArgs, V.view, viewL, done, finish, resultsOf, resultOf, comps, comp, giveLs, giveL, arrsOf, V.flat, L.flat, setV, setL, storeV, putAt, thaw, thawL, freezeVs, freezeLs, freezeL, V.mut, L.mut, elemPtr, viewRows, e1, e2, hF, k1, get0, get1, set0, L.notArr, b1, b2]
    · have := k4 ho
      simp only [ones, List.all_append, List.all_cons, List.all_nil] at this ⊢
      simp [this]
    · simp only [List.length_append, List.length_cons, List.length_nil, uvB, inB, hb, cond_true]
      omega
  · have hb : (decide ((0 : Int) ≤ n) && decide (n ≤ 1000000000000)) = false := by
      by_cases a1 : (0 : Int) ≤ n <;> by_cases a2 : n ≤ 1000000000000 <;> simp [a1, a2]
      exact hn ⟨a1, a2⟩
    rw [hb] at e2
    refine ⟨bs, callL_fn (fn := f_impl_AppendUvarint) rfl ?_, ho, by simp [uvB, inB, hb]⟩
    simp [f_impl_AppendUvarint, start, execL, exec, execOps, stepO, wants, fop, eop, Opd.ev, put, V.cells, plain, loadV, cut, isInt, isStr, isBool, bin, binInt, binStr_neq, binStr_eql, un, asList, L.view, viewArgs, V.view, viewL, done, finish, resultsOf, resultOf, comps, comp, giveLs, giveL, arrsOf, V.flat, L.flat, setV, setL, storeV, putAt, thaw, thawL, freezeVs, freezeLs, freezeL, V.mut, L.mut, elemPtr, viewRows, e1, e2]
end Gi
