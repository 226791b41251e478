/- Lists that are data: none, or a row. -/
import Derived.Test.YtldmjoillnhebaaGreatGsp
namespace Gi
open Go
set_option linter.unusedVariables false
set_option linter.unusedSimpArgs false

def ownZ (z : Nat) : List (List PV) → L
  | [] => .nil
  | r :: rs => .own z (r :: rs)
def datL : List (List PV) → L
  | [] => .nil
  | r :: rs => .pv (.lst (r :: rs))
theorem setL_own {z : Nat} {rows : List (List PV)} : setL (ownZ z rows) = datL rows := by cases rows <;> rfl
theorem setL_dat {rows : List (List PV)} : setL (datL rows) = datL rows := by cases rows <;> rfl
theorem view_dat {h : List AObj} {rows : List (List PV)} : L.view h (datL rows) = some (.lst rows) := by cases rows <;> rfl
theorem plain_dat {rows : List (List PV)} : plain (datL rows) = true := by cases rows <;> rfl
theorem mut_dat {h : List AObj} {rows : List (List PV)} : L.mut h (datL rows) = false := by cases rows <;> rfl
theorem freeze_dat {h : List AObj} {rows : List (List PV)} : freezeL h (datL rows) = h := by cases rows <;> rfl
theorem give_dat {h : List AObj} {rows : List (List PV)} : giveL h (datL rows) = some (datL rows) := by cases rows <;> rfl
theorem ren_dat {f : List Nat} {rows : List (List PV)} : (datL rows).ren f = some (datL rows) := by cases rows <;> rfl
theorem notArr_dat {o : Nat} {rows : List (List PV)} : L.notArr o (datL rows) = true := by cases rows <;> rfl
theorem flat_dat {rows : List (List PV)} : L.flat (datL rows) = false := by cases rows <;> rfl
theorem thaw_dat {h : List AObj} {rows : List (List PV)} {ls : List L} : thawL h (datL rows :: ls) = ((datL rows :: (thawL h ls).1), (thawL h ls).2) := by cases rows <;> rfl
theorem arrs_e : arrsOf [] = [] := rfl
theorem arrs_pv {p : PV} {ls : List L} : arrsOf (.pv p :: ls) = arrsOf ls := rfl
theorem arrs_nil {ls : List L} : arrsOf (.nil :: ls) = arrsOf ls := rfl
theorem arrs_arr {o : Nat} {ls : List L} : arrsOf (.arr o :: ls) = o :: arrsOf ls := rfl
theorem arrs_dat {rows : List (List PV)} {ls : List L} : arrsOf (datL rows :: ls) = arrsOf ls := by cases rows <;> rfl
theorem ownZ_ne {z : Nat} {rows : List (List PV)} (h : rows ≠ []) : ownZ z rows = .own z rows := by
  cases rows with
  | nil => exact absurd rfl h
  | cons r rs => rfl
end Gi
