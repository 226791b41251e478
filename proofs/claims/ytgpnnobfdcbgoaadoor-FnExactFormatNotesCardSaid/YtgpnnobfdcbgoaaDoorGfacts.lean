/- Closed facts on this translation as a whole. -/
import Derived.Test.YtgpnnobfdcbgoaaDoorRows
import Derived.JoinedOf
import Derived.KernelRfl
namespace Go.Proofs.YtgpnnobfdcbgoaaDoor
open Go
set_option maxRecDepth 100000
theorem and2 {a b : Bool} (h : a = true) (k : b = true) : (a && b) = true := by rw [h, k]; rfl
theorem fLaid : laidOutB Tryd.prog = true := by kernel_rfl
theorem fMaps : mapsRowed Tryd.prog = true := by kernel_rfl
theorem fKeys : (Rows.fnExactFormatNotesRow.plainKeys == Tryd.prog.plainKeys) = true := by kernel_rfl
theorem fHeard : Tryd.prog.stopsHeard = true := by kernel_rfl
theorem fEnter : Tryd.prog.mayEnter = true := by kernel_rfl
theorem fLift : (Rows.fnExactFormatNotesRow.lifted == Tryd.prog.liftsFinal) = true := by kernel_rfl
theorem fMake : (Tryd.prog.make == some Rows.fnExactFormatNotesRow.make) = true := by kernel_rfl
end Go.Proofs.YtgpnnobfdcbgoaaDoor
