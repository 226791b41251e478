/- What the formatting functions compute, II: keys and items. -/
import Derived.Test.YtldmjoillnhebaaGreatGtc
namespace Gi
open Go Go.RowKit
set_option linter.unusedVariables false
set_option linter.unusedSimpArgs false
attribute [local simp] start execL exec execOps stepO wants fop eop Opd.ev put V.cells plain loadV cut isInt isStr isBool bin binInt binStr_neq binStr_eql un asList L.view viewArgs V.view viewL done finish resultsOf resultOf comps comp giveLs giveL arrsOf V.flat L.flat setV setL storeV putAt thaw thawL freezeVs freezeLs freezeL V.mut L.mut elemPtr viewRows

def isKeyB (a b : Int) (s : List UInt8) : Bool := (decide (1 ≤ a) && decide (a ≤ 3)) && (decide (-1000000000000 ≤ b) && decide (b ≤ 1000000000000)) && (!(a == 2) || b == 0) && keyText s && (!(a == 1) || s == [])

set_option maxHeartbeats 2000000 in
theorem impl_IsKey_ok {a b : Int} {s : List UInt8} (hl : s.length ≤ maxLen) : callL Ph extF 67 [.agg [.pv (.int .i64 a), .pv (.int .i64 b), .pv (.str s)]] = some (vbool (isKeyB a b s)) := by
  have e1 := impl_InRange_ok a 1 3
  have e2 := impl_InRange_ok b (-1000000000000) 1000000000000
  have e3 := impl_isKeyText_ok hl
  have n1 : (b != 0) = !(b == 0) := rfl
  unfold isKeyB
  generalize (decide (1 ≤ a) && decide (a ≤ 3)) = A at e1 ⊢
  generalize (decide (-1000000000000 ≤ b) && decide (b ≤ 1000000000000)) = B at e2 ⊢
  generalize keyText s = E at e3 ⊢
  generalize hC : (a == 2) = C
  generalize hD : (b == 0) = D at n1
  generalize hF : (a == 1) = F
  generalize hG : (s == []) = G
  refine callL_fn (fn := f_impl_IsKey) rfl ?_
  cases A
  · simp [f_impl_IsKey, e1]
  cases B
  · simp [f_impl_IsKey, e1, e2]
  cases E
  · simp [f_impl_IsKey, e1, e2, e3]
  cases C <;> cases D <;> cases F <;> cases G <;> simp [f_impl_IsKey, e1, e2, e3, hC, hF, hG, n1]

set_option maxHeartbeats 2000000 in
theorem spec_IsKey_ok {a b : Int} {s : List UInt8} (hl : s.length ≤ maxLen) : callL Ph extF 65 [.agg [.pv (.int .i64 a), .pv (.int .i64 b), .pv (.str s)]] = some (vbool (isKeyB a b s)) := by
  have e1 := spec_l1In_ok a 1 3
  have e2 := spec_l1In_ok b (-1000000000000) 1000000000000
  have e3 := spec_l4Text_ok hl
  have n1 : (a != 2) = !(a == 2) := rfl
  have n2 : (a != 1) = !(a == 1) := rfl
  unfold isKeyB
  generalize (decide (1 ≤ a) && decide (a ≤ 3)) = A at e1 ⊢
  generalize (decide (-1000000000000 ≤ b) && decide (b ≤ 1000000000000)) = B at e2 ⊢
  generalize keyText s = E at e3 ⊢
  generalize hC : (a == 2) = C at n1
  generalize hD : (b == 0) = D
  generalize hF : (a == 1) = F at n2
  generalize hG : (s == []) = G
  refine callL_fn (fn := f_spec_IsKey) rfl ?_
  cases A
  · simp [f_spec_IsKey, e1]
  cases B
  · simp [f_spec_IsKey, e1, e2]
  cases C <;> cases D <;> cases E <;> first | (simp [f_spec_IsKey, e1, e2, e3, n1, hD]; done) | (cases F <;> cases G <;> simp [f_spec_IsKey, e1, e2, e3, n1, n2, hD, hG])

end Gi
