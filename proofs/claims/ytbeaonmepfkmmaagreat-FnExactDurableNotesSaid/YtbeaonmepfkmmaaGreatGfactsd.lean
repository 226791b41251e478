/- Of this proof. -/
import Derived.Test.YtbeaonmepfkmmaaGreatRows
import Derived.JoinedOf
import Derived.KernelRfl
set_option linter.unusedSimpArgs false
set_option linter.unusedVariables false
namespace Go.Proofs.YtbeaonmepfkmmaaGreat
open Go
set_option maxRecDepth 100000
theorem kF {a b:Bool}(h:a=true)(k:b=true):(a&&b)=true:=by rw[h,k];rfl
theorem TS :laidOutB Tryz.prog=true:=by kernel_rfl
theorem TV :mapsRowed Tryz.prog=true:=by kernel_rfl
theorem TR :(Rows.fnExactDurableNotesRow.plainKeys==Tryz.prog.plainKeys)=true:=by kernel_rfl
theorem S4 :Tryz.prog.stopsHeard=true:=by kernel_rfl
theorem S3 :Tryz.prog.mayEnter=true:=by kernel_rfl
theorem TT :(Rows.fnExactDurableNotesRow.lifted==Tryz.prog.liftsFinal)=true:=by kernel_rfl
theorem TU :(Tryz.prog.make==some Rows.fnExactDurableNotesRow.make)=true:=by kernel_rfl
end Go.Proofs.YtbeaonmepfkmmaaGreat
