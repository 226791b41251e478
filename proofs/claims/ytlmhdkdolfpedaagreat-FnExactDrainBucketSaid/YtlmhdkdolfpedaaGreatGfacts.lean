/- Of this proof. -/
import Derived.Test.YtlmhdkdolfpedaaGreatRows
import Derived.JoinedOf
import Derived.KernelRfl
set_option linter.all false
namespace Go.Proofs.YtlmhdkdolfpedaaGreat
open Go
set_option maxRecDepth 100000
def pG {a b:Bool}(h:a=true)(k:b=true):(a&&b)=true:=by rw[h,k];rfl
def aet :laidOutB Tryz.prog=true:=by kernel_rfl
def aew :mapsRowed Tryz.prog=true:=by kernel_rfl
def aes :(Rows.fnExactDrainBucketRow.plainKeys==Tryz.prog.plainKeys)=true:=by kernel_rfl
def adB :Tryz.prog.stopsHeard=true:=by kernel_rfl
def adA :Tryz.prog.mayEnter=true:=by kernel_rfl
def aeu :(Rows.fnExactDrainBucketRow.lifted==Tryz.prog.liftsFinal)=true:=by kernel_rfl
def aev :(Tryz.prog.make==some Rows.fnExactDrainBucketRow.make)=true:=by kernel_rfl
end Go.Proofs.YtlmhdkdolfpedaaGreat
