/- Of this proof. -/
import Derived.Test.YtbeaonmepfkmmaaGreatRows
import Derived.JoinedOf
import Derived.KernelRfl
set_option linter.unusedSimpArgs false
set_option linter.unusedVariables false
namespace Go.Proofs.YtbeaonmepfkmmaaGreat
open Go
set_option maxRecDepth 100000
theorem k9 {a b:Bool}(h:a=true)(k:b=true):(a&&b)=true:=by rw[h,k];rfl
theorem U3 :laidOutB Tryz.prog=true:=by kernel_rfl
theorem U6 :mapsRowed Tryz.prog=true:=by kernel_rfl
theorem U2 :(Rows.fnExactViewOfRow.plainKeys==Tryz.prog.plainKeys)=true:=by kernel_rfl
theorem Uj :Tryz.prog.stopsHeard=true:=by kernel_rfl
theorem Ui :Tryz.prog.mayEnter=true:=by kernel_rfl
theorem U4 :(Rows.fnExactViewOfRow.lifted==Tryz.prog.liftsFinal)=true:=by kernel_rfl
theorem U5 :(Tryz.prog.make==some Rows.fnExactViewOfRow.make)=true:=by kernel_rfl
end Go.Proofs.YtbeaonmepfkmmaaGreat
