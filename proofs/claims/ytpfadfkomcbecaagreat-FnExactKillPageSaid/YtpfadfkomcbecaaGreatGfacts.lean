/- Of this proof. -/
import Derived.Test.YtpfadfkomcbecaaGreatRows
import Derived.JoinedOf
import Derived.KernelRfl
set_option linter.unusedSimpArgs false
set_option linter.unusedVariables false
namespace Go.Proofs.YtpfadfkomcbecaaGreat
open Go
set_option maxRecDepth 100000
theorem kJ {a b:Bool}(h:a=true)(k:b=true):(a&&b)=true:=by rw[h,k];rfl
theorem Sy :laidOutB Tryz.prog=true:=by kernel_rfl
theorem SB :mapsRowed Tryz.prog=true:=by kernel_rfl
theorem Sx :(Rows.fnExactKillPageRow.plainKeys==Tryz.prog.plainKeys)=true:=by kernel_rfl
theorem RN :Tryz.prog.stopsHeard=true:=by kernel_rfl
theorem RL :Tryz.prog.mayEnter=true:=by kernel_rfl
theorem Sz :(Rows.fnExactKillPageRow.lifted==Tryz.prog.liftsFinal)=true:=by kernel_rfl
theorem SA :(Tryz.prog.make==some Rows.fnExactKillPageRow.make)=true:=by kernel_rfl
end Go.Proofs.YtpfadfkomcbecaaGreat
