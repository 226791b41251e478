/- A part. -/
import Derived.Test.YtndiampmpmbfoaaGreatRows
import Derived.JoinedOf
import Derived.KernelRfl
set_option linter.all false
namespace Go.Proofs.YtndiampmpmbfoaaGreat
open Go
set_option maxRecDepth 100000
def mK {a b:Bool}(h:a=true)(k:b=true):(a&&b)=true:=by rw[h,k];rfl
def Xb :laidOutB Tryz.prog=true:=by kernel_rfl
def Xe :mapsRowed Tryz.prog=true:=by kernel_rfl
def Xa :(Rows.fnExactSyncBucketRow.plainKeys==Tryz.prog.plainKeys)=true:=by kernel_rfl
def Wd :Tryz.prog.stopsHeard=true:=by kernel_rfl
def Wc :Tryz.prog.mayEnter=true:=by kernel_rfl
def Xc :(Rows.fnExactSyncBucketRow.lifted==Tryz.prog.liftsFinal)=true:=by kernel_rfl
def Xd :(Tryz.prog.make==some Rows.fnExactSyncBucketRow.make)=true:=by kernel_rfl
end Go.Proofs.YtndiampmpmbfoaaGreat
