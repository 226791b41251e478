/- Of this proof. -/
import Derived.Test.YtgmnakghjemjlaaGreatRows
import Derived.JoinedOf
import Derived.KernelRfl
set_option linter.unusedSimpArgs false
set_option linter.unusedVariables false
namespace Go.Proofs.YtgmnakghjemjlaaGreat
open Go
set_option maxRecDepth 100000
theorem j9 {a b:Bool}(h:a=true)(k:b=true):(a&&b)=true:=by rw[h,k];rfl
theorem P9 :laidOutB Tryz.prog=true:=by kernel_rfl
theorem Qc :mapsRowed Tryz.prog=true:=by kernel_rfl
theorem P8 :(Rows.fnExactSetPersistentRow.plainKeys==Tryz.prog.plainKeys)=true:=by kernel_rfl
theorem Pv :Tryz.prog.stopsHeard=true:=by kernel_rfl
theorem Pu :Tryz.prog.mayEnter=true:=by kernel_rfl
theorem Qa :(Rows.fnExactSetPersistentRow.lifted==Tryz.prog.liftsFinal)=true:=by kernel_rfl
theorem Qb :(Tryz.prog.make==some Rows.fnExactSetPersistentRow.make)=true:=by kernel_rfl
end Go.Proofs.YtgmnakghjemjlaaGreat
