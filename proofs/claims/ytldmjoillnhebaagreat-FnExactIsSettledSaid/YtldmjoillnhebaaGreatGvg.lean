/- Stores copied; what a server has: the law. -/
import Derived.Test.YtldmjoillnhebaaGreatGvf
namespace Gi
open Go Go.RowKit
set_option linter.unusedSimpArgs false
set_option linter.unusedVariables false
set_option maxHeartbeats 4000000
set_option maxRecDepth 4000
attribute [local simp] start execL exec execOps stepO wants fop eop Opd.ev put V.cells plain loadV cut isInt isStr isBool bin binInt binStr_neq binStr_eql un asList L.view viewArgs V.view viewL done finish resultsOf resultOf comps comp giveLs giveL arrsOf V.flat L.flat setV setL storeV putAt thaw thawL freezeVs freezeLs freezeL V.mut L.mut elemPtr viewRows fillL

theorem szL_mem : ∀ {ps : List PV} {p : PV}, p ∈ ps → sz p ≤ szL ps
  | q :: ps, p, h => by
    simp only [szL]
    rcases List.mem_cons.1 h with rfl | h
    · omega
    · have := szL_mem h
      omega
/-! ### copies of records and items -/
theorem impl_copyRecord_ok {rows : List (List PV)} (h : Has (.lst t_FieldS) (.lst rows)) (hn : rows.length ≤ 1048576) : callL Ph extF 242 [.agg [.pv (.lst rows)]] = some (.agg [.own 2 rows]) := by
  have hall : rows.all (fun e => e.length == 2) = true := by
    rw [List.all_eq_true]
    intro r m
    have : r.length = 2 := HasL_len ((Has_rows h).2 r m)
    simpa using this
  have c1 : rows.length * 24 ≤ 140737488355328 := by omega
  have c2 : rows.length ≤ 9223372036854775807 := by omega
  refine callL_fn (fn := f_impl_copyRecord) rfl ?_
  simp [f_impl_copyRecord, L.notArr, ↓hall, c1, c2]
theorem spec_l5Copy_ok {rows : List (List PV)} (h : Has (.lst t_FieldS) (.lst rows)) (hn : rows.length ≤ 1048576) : callL Ph extF 239 [.agg [.pv (.lst rows)]] = some (.agg [.own 2 rows]) := by
  have hall : rows.all (fun e => e.length == 2) = true := by
    rw [List.all_eq_true]
    intro r m
    have : r.length = 2 := HasL_len ((Has_rows h).2 r m)
    simpa using this
  have c1 : rows.length * 24 ≤ 140737488355328 := by omega
  have c2 : rows.length ≤ 9223372036854775807 := by omega
  refine callL_fn (fn := f_spec_l5Copy) rfl ?_
  simp [f_spec_l5Copy, L.notArr, ↓hall, c1, c2]
theorem impl_copyItem_ok {a b : Int} {s : List UInt8} {fs : List (List PV)} (h : Has (.lst t_FieldS) (.lst fs)) (hn : fs.length ≤ 1048576) : callL Ph extF 218 [.agg [.pv (.int .i64 a), .pv (.int .i64 b), .pv (.str s), .pv (.lst fs)]] = some (.agg [.pv (.int .i64 a), .pv (.int .i64 b), .pv (.str s), .pv (.lst fs)]) := by
  have e1 := impl_copyRecord_ok h hn
  refine callL_fn (fn := f_impl_copyItem) rfl ?_
  simp [f_impl_copyItem, e1]
theorem spec_l6Item_ok {a b : Int} {s : List UInt8} {fs : List (List PV)} (h : Has (.lst t_FieldS) (.lst fs)) (hn : fs.length ≤ 1048576) : callL Ph extF 214 [.agg [.pv (.int .i64 a), .pv (.int .i64 b), .pv (.str s), .pv (.lst fs)]] = some (.agg [.pv (.int .i64 a), .pv (.int .i64 b), .pv (.str s), .pv (.lst fs)]) := by
  have e1 := spec_l5Copy_ok h hn
  refine callL_fn (fn := f_spec_l6Item) rfl ?_
  simp [f_spec_l6Item, e1]

end Gi
