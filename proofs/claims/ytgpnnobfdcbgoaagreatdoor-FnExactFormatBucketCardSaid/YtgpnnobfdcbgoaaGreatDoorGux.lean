/- Usage, walked; the functions. -/
import Derived.Test.YtgpnnobfdcbgoaaGreatDoorGuw
import Derived.Test.YtgpnnobfdcbgoaaGreatDoorGug
namespace Gi
open Go Go.RowKit
set_option linter.unusedSimpArgs false
set_option linter.unusedVariables false
set_option maxHeartbeats 4000000
set_option maxRecDepth 4000

def usageV (d6 d9 d11 d14 d19 : List (List PV)) : Int := IntKind.i64.wrap (IntKind.i64.wrap (IntKind.i64.wrap (d6.foldl scC 0 + IntKind.i64.wrap (d9.foldl dbE 0 + (d11.length : Int))) + d14.foldl itE 0) + IntKind.i64.wrap (40 * (d19.length : Int)))
theorem impl_UsageOf_ok {d0 : List UInt8} {d1 : List UInt8} {d2 : List UInt8} {d3 : Int} {d4 : Int} {d5 : Int} {d6 : List (List PV)} {d7 : List UInt8} {d8 : Int} {d9 : List (List PV)} {d10 : List (List PV)} {d11 : List (List PV)} {d12 : Int} {d13 : List UInt8} {d14 : List (List PV)} {d15 : Int} {d16 : Int} {d17 : Int} {d18 : Int} {d19 : List (List PV)} {d20 : Int} {d21 : Int} {d22 : Int} {d23 : Bool} (h6 : Has (.lst t_CacheS) (.lst d6)) (h9 : Has (.lst t_StoreS) (.lst d9)) (h14 : Has (.lst t_ItemS) (.lst d14)) : callL Ph extF 162 [.agg [.pv (.str d0), .pv (.str d1), .pv (.str d2), .pv (.int .i64 d3), .pv (.int .i64 d4), .pv (.int .i64 d5), .pv (.lst d6), .pv (.str d7), .pv (.int .i64 d8), .pv (.lst d9), .pv (.lst d10), .pv (.lst d11), .pv (.int .i64 d12), .pv (.str d13), .pv (.lst d14), .pv (.int .i64 d15), .pv (.int .i64 d16), .pv (.int .i64 d17), .pv (.int .i64 d18), .pv (.lst d19), .pv (.int .i64 d20), .pv (.int .i64 d21), .pv (.int .i64 d22), .pv (.bool d23)]] = some (vint .i64 (usageV d6 d9 d11 d14 d19)) := by
  have e1 := impl_SizeCaches_ok h6
  have e2 := impl_SizeDisk_ok (nm := d7) (nx := d8) (ix := d10) (lg := d11) (sy := d12) h9
  have e3 := impl_SizeStore_ok (nm := d13) (nx := d15) h14
  refine callL_fn (fn := f_impl_UsageOf) rfl ?_
  simp [f_impl_UsageOf, start, execL, exec, execOps, stepO, wants, fop, eop, Opd.ev, put, V.cells, plain, loadV, cut, isInt, isStr, isBool, bin, binInt, binStr_neq, binStr_eql, un, asList, L.view, viewArgs, V.view, viewL, done, finish, resultsOf, resultOf, comps, comp, giveLs, giveL, arrsOf, V.flat, L.flat, setV, setL, storeV, putAt, thaw, thawL, freezeVs, freezeLs, freezeL, V.mut, L.mut, elemPtr, viewRows, e1, e2, e3, usageV]
theorem spec_UsageOf_ok {d0 : List UInt8} {d1 : List UInt8} {d2 : List UInt8} {d3 : Int} {d4 : Int} {d5 : Int} {d6 : List (List PV)} {d7 : List UInt8} {d8 : Int} {d9 : List (List PV)} {d10 : List (List PV)} {d11 : List (List PV)} {d12 : Int} {d13 : List UInt8} {d14 : List (List PV)} {d15 : Int} {d16 : Int} {d17 : Int} {d18 : Int} {d19 : List (List PV)} {d20 : Int} {d21 : Int} {d22 : Int} {d23 : Bool} (h6 : Has (.lst t_CacheS) (.lst d6)) (h9 : Has (.lst t_StoreS) (.lst d9)) (h14 : Has (.lst t_ItemS) (.lst d14)) : callL Ph extF 161 [.agg [.pv (.str d0), .pv (.str d1), .pv (.str d2), .pv (.int .i64 d3), .pv (.int .i64 d4), .pv (.int .i64 d5), .pv (.lst d6), .pv (.str d7), .pv (.int .i64 d8), .pv (.lst d9), .pv (.lst d10), .pv (.lst d11), .pv (.int .i64 d12), .pv (.str d13), .pv (.lst d14), .pv (.int .i64 d15), .pv (.int .i64 d16), .pv (.int .i64 d17), .pv (.int .i64 d18), .pv (.lst d19), .pv (.int .i64 d20), .pv (.int .i64 d21), .pv (.int .i64 d22), .pv (.bool d23)]] = some (vint .i64 (usageV d6 d9 d11 d14 d19)) := by
  have e1 := spec_SizeCaches_ok h6
  have e2 := spec_SizeDisk_ok (nm := d7) (nx := d8) (ix := d10) (lg := d11) (sy := d12) h9
  have e3 := spec_SizeStore_ok (nm := d13) (nx := d15) h14
  refine callL_fn (fn := f_spec_UsageOf) rfl ?_
  simp [f_spec_UsageOf, start, execL, exec, execOps, stepO, wants, fop, eop, Opd.ev, put, V.cells, plain, loadV, cut, isInt, isStr, isBool, bin, binInt, binStr_neq, binStr_eql, un, asList, L.view, viewArgs, V.view, viewL, done, finish, resultsOf, resultOf, comps, comp, giveLs, giveL, arrsOf, V.flat, L.flat, setV, setL, storeV, putAt, thaw, thawL, freezeVs, freezeLs, freezeL, V.mut, L.mut, elemPtr, viewRows, e1, e2, e3, usageV]
end Gi
