/- Of this proof. -/
import Derived.Test.YtbeaonmepfkmmaaGreatRows
import Derived.JoinedOf
import Derived.KernelRfl
set_option linter.unusedSimpArgs false
set_option linter.unusedVariables false
namespace Go.Proofs.YtbeaonmepfkmmaaGreat
open Go
set_option maxRecDepth 100000
theorem lJ {a b:Bool}(h:a=true)(k:b=true):(a&&b)=true:=by rw[h,k];rfl
theorem T5 :laidOutB Tryz.prog=true:=by kernel_rfl
theorem T8 :mapsRowed Tryz.prog=true:=by kernel_rfl
theorem T4 :(Rows.fnExactSameViewRow.plainKeys==Tryz.prog.plainKeys)=true:=by kernel_rfl
theorem Tm :Tryz.prog.stopsHeard=true:=by kernel_rfl
theorem Tl :Tryz.prog.mayEnter=true:=by kernel_rfl
theorem T6 :(Rows.fnExactSameViewRow.lifted==Tryz.prog.liftsFinal)=true:=by kernel_rfl
theorem T7 :(Tryz.prog.make==some Rows.fnExactSameViewRow.make)=true:=by kernel_rfl
end Go.Proofs.YtbeaonmepfkmmaaGreat
