/- Of this proof. -/
import Derived.Test.YtebnmoogdmpepaaGreatRows
import Derived.JoinedOf
import Derived.KernelRfl
set_option linter.unusedSimpArgs false
set_option linter.unusedVariables false
namespace Go.Proofs.YtebnmoogdmpepaaGreat
open Go
set_option maxRecDepth 100000
theorem lZ {a b:Bool}(h:a=true)(k:b=true):(a&&b)=true:=by rw[h,k];rfl
theorem Vb :laidOutB Tryz.prog=true:=by kernel_rfl
theorem Ve :mapsRowed Tryz.prog=true:=by kernel_rfl
theorem Va :(Rows.fnExactPullBucketRow.plainKeys==Tryz.prog.plainKeys)=true:=by kernel_rfl
theorem Uz :Tryz.prog.stopsHeard=true:=by kernel_rfl
theorem Uy :Tryz.prog.mayEnter=true:=by kernel_rfl
theorem Vc :(Rows.fnExactPullBucketRow.lifted==Tryz.prog.liftsFinal)=true:=by kernel_rfl
theorem Vd :(Tryz.prog.make==some Rows.fnExactPullBucketRow.make)=true:=by kernel_rfl
end Go.Proofs.YtebnmoogdmpepaaGreat
