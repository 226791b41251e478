/- Of this proof. -/
import Derived.Test.YtlohbkffhpnfgaaGreatRows
import Derived.JoinedOf
import Derived.KernelRfl
namespace Go.Proofs.YtlohbkffhpnfgaaGreat
open Go
set_option maxRecDepth 100000
theorem j5 {a b : Bool} (h : a = true) (k : b = true) : (a && b) = true := by rw [h, k]; rfl
theorem PK : laidOutB Tryz.prog = true := by kernel_rfl
theorem PN : mapsRowed Tryz.prog = true := by kernel_rfl
theorem PJ : (Rows.fnExactSetPersistentRow.plainKeys == Tryz.prog.plainKeys) = true := by kernel_rfl
theorem O7 : Tryz.prog.stopsHeard = true := by kernel_rfl
theorem O6 : Tryz.prog.mayEnter = true := by kernel_rfl
theorem PL : (Rows.fnExactSetPersistentRow.lifted == Tryz.prog.liftsFinal) = true := by kernel_rfl
theorem PM : (Tryz.prog.make == some Rows.fnExactSetPersistentRow.make) = true := by kernel_rfl
end Go.Proofs.YtlohbkffhpnfgaaGreat
