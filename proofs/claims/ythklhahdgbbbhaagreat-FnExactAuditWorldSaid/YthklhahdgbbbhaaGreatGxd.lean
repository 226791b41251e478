/- Of this proof. -/
import Derived.Test.YthklhahdgbbbhaaGreatGsp
namespace Gi
open Go
def n7 (z : Nat) : List (List PV) → L
 | [] => .nil
 | r :: rs => .own z (r :: rs)
def m7 : List (List PV) → L
 | [] => .nil
 | r :: rs => .pv (.lst (r :: rs))
theorem aO {z : Nat} {rows : List (List PV)} : dJ (n7 z rows) = m7 rows := by cases rows <;> rfl
theorem aN {rows : List (List PV)} : dJ (m7 rows) = m7 rows := by cases rows <;> rfl
theorem aQ {h : List AObj} {rows : List (List PV)} : L.view h (m7 rows) = some (.lst rows) := by cases rows <;> rfl
theorem aE {rows : List (List PV)} : plain (m7 rows) = true := by cases rows <;> rfl
theorem ba {h : List AObj} {rows : List (List PV)} : L.mut h (m7 rows) = false := by cases rows <;> rfl
theorem ar {h : List AObj} {rows : List (List PV)} : freezeL h (m7 rows) = h := by cases rows <;> rfl
theorem aM {h : List AObj} {rows : List (List PV)} : bZ h (m7 rows) = some (m7 rows) := by cases rows <;> rfl
theorem aA {f : List Nat} {rows : List (List PV)} : (m7 rows).ren f = some (m7 rows) := by cases rows <;> rfl
theorem Kn.q (f : List Nat) {t t' : List V} {h h' : List AObj} (ho : bQ f h' f h := by simp [aY, aW, aX, bH, bI, bL, ca, br, dI, co, bQ, cu, L.ren, aA]) (ht : bL f t t' := by simp [aY, aW, aX, bH, bI, bL, ca, br, dI, co, bQ, cu, L.ren, aA]) (nd : f.Nodup := by decide) : Kn ⟨t, h⟩ ⟨t', h'⟩ := Kn.of f nd ho ht
theorem av {o : Nat} {rows : List (List PV)} : L.notArr o (m7 rows) = true := by cases rows <;> rfl
theorem aL {rows : List (List PV)} : L.flat (m7 rows) = false := by cases rows <;> rfl
theorem aP {h : List AObj} {rows : List (List PV)} {ls : List L} : thawL h (m7 rows :: ls) = ((m7 rows :: (thawL h ls).1), (thawL h ls).2) := by cases rows <;> rfl
theorem bK : a8 [] = [] := rfl
theorem a9 {p : PV} {ls : List L} : a8 (.pv p :: ls) = a8 ls := rfl
theorem aK {ls : List L} : a8 (.nil :: ls) = a8 ls := rfl
theorem aI {o : Nat} {ls : List L} : a8 (.arr o :: ls) = o :: a8 ls := rfl
theorem aJ {rows : List (List PV)} {ls : List L} : a8 (m7 rows :: ls) = a8 ls := by cases rows <;> rfl
theorem iM {z : Nat} {rows : List (List PV)} (h : rows ≠ []) : n7 z rows = .own z rows := by
 cases rows with
 | nil => exact absurd rfl h
 | cons r rs => rfl
end Gi
