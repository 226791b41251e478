/- Closed facts on this translation as a whole. -/
import Derived.Test.YtcjcgihohefldaaDoorRows
import Derived.JoinedOf
import Derived.KernelRfl
namespace Go.Proofs.YtcjcgihohefldaaDoor
open Go
set_option maxRecDepth 100000
theorem and2 {a b : Bool} (h : a = true) (k : b = true) : (a && b) = true := by rw [h, k]; rfl
theorem fLaid : laidOutB Tryd.prog = true := by kernel_rfl
theorem fMaps : mapsRowed Tryd.prog = true := by kernel_rfl
theorem fKeys : (Rows.fnExactScriptOfRow.plainKeys == Tryd.prog.plainKeys) = true := by kernel_rfl
theorem fHeard : Tryd.prog.stopsHeard = true := by kernel_rfl
theorem fEnter : Tryd.prog.mayEnter = true := by kernel_rfl
theorem fLift : (Rows.fnExactScriptOfRow.lifted == Tryd.prog.liftsFinal) = true := by kernel_rfl
theorem fMake : (Tryd.prog.make == some Rows.fnExactScriptOfRow.make) = true := by kernel_rfl
end Go.Proofs.YtcjcgihohefldaaDoor
