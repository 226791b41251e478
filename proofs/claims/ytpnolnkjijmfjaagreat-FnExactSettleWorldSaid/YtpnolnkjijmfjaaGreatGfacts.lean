/- Of this proof. -/
import Derived.Test.YtpnolnkjijmfjaaGreatRows
import Derived.JoinedOf
import Derived.KernelRfl
set_option linter.all false
namespace Go.Proofs.YtpnolnkjijmfjaaGreat
open Go
set_option maxRecDepth 100000
def pQ {a b:Bool}(h:a=true)(k:b=true):(a&&b)=true:=by rw[h,k];rfl
def ae4 :laidOutB Tryz.prog=true:=by kernel_rfl
def ae7 :mapsRowed Tryz.prog=true:=by kernel_rfl
def ae3 :(Rows.fnExactSettleWorldRow.plainKeys==Tryz.prog.plainKeys)=true:=by kernel_rfl
def aee :Tryz.prog.stopsHeard=true:=by kernel_rfl
def aed :Tryz.prog.mayEnter=true:=by kernel_rfl
def ae5 :(Rows.fnExactSettleWorldRow.lifted==Tryz.prog.liftsFinal)=true:=by kernel_rfl
def ae6 :(Tryz.prog.make==some Rows.fnExactSettleWorldRow.make)=true:=by kernel_rfl
end Go.Proofs.YtpnolnkjijmfjaaGreat
