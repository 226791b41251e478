/- Sizes of stores. -/
import Derived.Test.YtgpnnobfdcbgoaaGreatDoorGuq
namespace Gi
open Go Go.RowKit
set_option linter.unusedSimpArgs false
set_option linter.unusedVariables false
set_option maxHeartbeats 4000000
set_option maxRecDepth 4000

theorem recL_le {rows : List (List PV)} (h : Has (.lst t_FieldS) (.lst rows)) : recL rows ≤ 1000 := by
  unfold recL
  cases hk : isRec rows
  · simp
  · obtain ⟨hl6, hn⟩ := isRec_names hk (Has_rows h).2
    have key : ∀ (l : List (List PV)) (n : Nat), (∀ r ∈ l, ∃ a n, r = [.str a, .int .i64 n] ∧ a.length ≤ 8) → l.foldl recAdd n ≤ n + 20 * l.length := by
      intro l
      induction l with
      | nil => intro n _; simp
      | cons r l ih =>
        intro n hh
        obtain ⟨a, x, rfl, ha⟩ := hh r (by simp)
        have := ih (recAdd n [.str a, .int .i64 x]) (fun r hr => hh r (by simp [hr]))
        have u1 := uvB_le a.length
        have u2 := uvB_le x
        simp only [List.foldl_cons, List.length_cons]
        simp only [recAdd] at this ⊢
        omega
    have q := key rows (uvB rows.length) hn
    have u := uvB_le rows.length
    simp only [cond_true]
    omega
theorem keyL_le {a b : Int} {s : List UInt8} : keyL a b s ≤ 100 := by
  unfold keyL
  cases hk : isKeyB a b s
  · simp
  · have := isKeyB_le12 hk
    cases (a != 2) <;> simp <;> omega
def itE (acc : Int) : List PV → Int
  | [.int _ a, .int _ b, .str s, .lst fs] => IntKind.i64.wrap (acc + ((keyL a b s : Int) + (recL fs : Int)))
  | _ => acc
end Gi
