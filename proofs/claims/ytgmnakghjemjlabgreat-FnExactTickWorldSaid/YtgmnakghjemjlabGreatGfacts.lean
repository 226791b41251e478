/- Of this proof. -/
import Derived.Test.YtgmnakghjemjlabGreatRows
import Derived.JoinedOf
import Derived.KernelRfl
set_option linter.unusedSimpArgs false
set_option linter.unusedVariables false
namespace Go.Proofs.YtgmnakghjemjlabGreat
open Go
set_option maxRecDepth 100000
theorem kD {a b:Bool}(h:a=true)(k:b=true):(a&&b)=true:=by rw[h,k];rfl
theorem QO :laidOutB Tryz.prog=true:=by kernel_rfl
theorem QR :mapsRowed Tryz.prog=true:=by kernel_rfl
theorem QN :(Rows.fnExactTickWorldRow.plainKeys==Tryz.prog.plainKeys)=true:=by kernel_rfl
theorem Qa :Tryz.prog.stopsHeard=true:=by kernel_rfl
theorem P9 :Tryz.prog.mayEnter=true:=by kernel_rfl
theorem QP :(Rows.fnExactTickWorldRow.lifted==Tryz.prog.liftsFinal)=true:=by kernel_rfl
theorem QQ :(Tryz.prog.make==some Rows.fnExactTickWorldRow.make)=true:=by kernel_rfl
end Go.Proofs.YtgmnakghjemjlabGreat
