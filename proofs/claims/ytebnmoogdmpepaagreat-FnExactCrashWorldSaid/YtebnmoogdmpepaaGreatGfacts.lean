/- Of this proof. -/
import Derived.Test.YtebnmoogdmpepaaGreatRows
import Derived.JoinedOf
import Derived.KernelRfl
set_option linter.unusedSimpArgs false
set_option linter.unusedVariables false
namespace Go.Proofs.YtebnmoogdmpepaaGreat
open Go
set_option maxRecDepth 100000
theorem lm {a b:Bool}(h:a=true)(k:b=true):(a&&b)=true:=by rw[h,k];rfl
theorem UH :laidOutB Tryz.prog=true:=by kernel_rfl
theorem UK :mapsRowed Tryz.prog=true:=by kernel_rfl
theorem UG :(Rows.fnExactCrashWorldRow.plainKeys==Tryz.prog.plainKeys)=true:=by kernel_rfl
theorem T4 :Tryz.prog.stopsHeard=true:=by kernel_rfl
theorem T3 :Tryz.prog.mayEnter=true:=by kernel_rfl
theorem UI :(Rows.fnExactCrashWorldRow.lifted==Tryz.prog.liftsFinal)=true:=by kernel_rfl
theorem UJ :(Tryz.prog.make==some Rows.fnExactCrashWorldRow.make)=true:=by kernel_rfl
end Go.Proofs.YtebnmoogdmpepaaGreat
