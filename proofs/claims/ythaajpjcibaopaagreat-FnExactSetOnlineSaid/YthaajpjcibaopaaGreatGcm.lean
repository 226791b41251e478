/- Of this proof. -/
import Derived.Test.YthaajpjcibaopaaGreatGcb
namespace Gi
open Go Go.RowKit
set_option linter.unusedSimpArgs false
set_option linter.unusedVariables false
set_option maxHeartbeats 8000000
set_option maxRecDepth 4000
attribute [local simp] start execL exec execOps stepO wants fop eop Opd.ev put V.cells plain loadV cut isInt isStr isBool bin binInt un asList L.view viewArgs V.view viewL finish resultsOf resultOf comps comp giveLs giveL arrsOf V.flat L.flat setV setL storeV putAt freezeVs freezeLs freezeL V.mut L.mut lent AObj.unz L.unsub loadZV storeZV callMV lendV lendLs lendL PV.bare PV.flat putOuts thawA thaw thawL AObj.zone startM doneM finM outsOf
theorem markStorage_nil (k : Int) : callL Ph extF (426 + modK) [.agg [.pv (.lst [])], vint .i64 k] = some (.tup [(false, [.pv (.int .i64 k)])]) := by
 have c := (markBucketS_to (ext := extF)).1 k
 refine callM_fn (fn := f_laws_markStorage) rfl rfl rfl ?_
 simp [f_laws_markStorage, markG, mkC, mkI, mkN, MS.ts, segTs, msTs, t_Storage, t_LockTable, t_Channel, c]
theorem mkW0 {c0 c2 c5 : Int} {on : Bool} {c4 c6 c7 : List (List PV)} (h : HasL t_World [.int .i64 c0, .bool on, .int .i64 c2, .lst [], .lst c4, .int .i64 c5, .lst c6, .lst c7, .lst [], .lst []]) (hk : (mkR mText c7 (mkR mText c6 (mkR mText c4 1).2).2).2 ≤ mkM) : callL Ph extF (420 + modK) [.agg [.pv (.int .i64 c0), .pv (.bool on), .pv (.int .i64 c2), .pv (.lst []), .down 11 c4, .pv (.int .i64 c5), .down 4 c6, .down 3 c7, .pv (.lst []), .pv (.lst [])], vint .i64 1] = some (.tup ((false, [.pv (.int .i64 (mkR mText c7 (mkR mText c6 (mkR mText c4 1).2).2).2)]) :: [(false, [.down 11 (mkR mText c4 1).1]), (false, [.down 4 (mkR mText c6 (mkR mText c4 1).2).1]), (false, [.down 3 (mkR mText c7 (mkR mText c6 (mkR mText c4 1).2).2).1])])) := by
 simp only [t_World, HasL] at h
 obtain ⟨_, _, _, g3, g4, _, g6, g7, g8, g9, _⟩ := h
 have l4 := mkR_le (mT := mText) c4 1
 have l6 := mkR_le (mT := mText) c6 ((mkR mText c4 1).2)
 have l7 := mkR_le (mT := mText) c7 ((mkR mText c6 (mkR mText c4 1).2).2)
 have s3 := markStorage_nil 1
 have s4 : callL Ph extF (427 + modK) [.one (.down 11 c4), vint .i64 1] = some (.tup [(false, [.pv (.int .i64 (mkR mText c4 1).2)]), (false, [.down 11 (mkR mText c4 1).1])]) := (markPageS_to (ext := extF)).2 c4 g4 _ (by omega) (by omega)
 have s6 : callL Ph extF (428 + modK) [.agg [.down 4 c6], vint .i64 ((mkR mText c4 1).2)] = some (.tup [(false, [.pv (.int .i64 (mkR mText c6 (mkR mText c4 1).2).2)]), (false, [.down 4 (mkR mText c6 (mkR mText c4 1).2).1])]) := markLockTable_to (ext := extF) [.lst c6] ⟨g6, trivial⟩ _ (by omega) (by show (mkR mText c6 (mkR mText c4 1).2).2 ≤ mkM; omega)
 have s7 : callL Ph extF (429 + modK) [.agg [.down 3 c7], vint .i64 ((mkR mText c6 (mkR mText c4 1).2).2)] = some (.tup [(false, [.pv (.int .i64 (mkR mText c7 (mkR mText c6 (mkR mText c4 1).2).2).2)]), (false, [.down 3 (mkR mText c7 (mkR mText c6 (mkR mText c4 1).2).2).1])]) := markChannel_to (ext := extF) [.lst c7] ⟨g7, trivial⟩ _ (by omega) (by show (mkR mText c7 (mkR mText c6 (mkR mText c4 1).2).2).2 ≤ mkM; omega)
 have s8 := (markSiteS_to (ext := extF)).1 ((mkR mText c7 (mkR mText c6 (mkR mText c4 1).2).2).2)
 have s9 := (markServerS_to (ext := extF)).1 ((mkR mText c7 (mkR mText c6 (mkR mText c4 1).2).2).2)
 clear hk g3 g4 g6 g7 g8 g9 l4 l6 l7
 generalize mkR mText c4 1 = q4 at s4 s6 s7 s8 s9 ⊢
 generalize mkR mText c6 q4.2 = q6 at s6 s7 s8 s9 ⊢
 generalize mkR mText c7 q6.2 = q7 at s7 s8 s9 ⊢
 refine callM_fn (fn := f_laws_markWorld) rfl rfl rfl ?_
 simp [f_laws_markWorld, markG, mkC, mkI, mkN, MS.ts, segTs, msTs, t_Storage, t_LockTable, t_Channel, s3, s4, s6, s7, s8, s9]
theorem mkW1 {c0 c2 c5 : Int} {on : Bool} {c4 c6 c7 c9 : List (List PV)} (h : HasL t_World [.int .i64 c0, .bool on, .int .i64 c2, .lst [], .lst c4, .int .i64 c5, .lst c6, .lst c7, .lst [], .lst c9]) (hk : (mkR mText c9 (mkR mText c7 (mkR mText c6 (mkR mText c4 1).2).2).2).2 ≤ mkM) : callL Ph extF (420 + modK) [.agg [.pv (.int .i64 c0), .pv (.bool on), .pv (.int .i64 c2), .pv (.lst []), .down 11 c4, .pv (.int .i64 c5), .down 4 c6, .down 3 c7, .pv (.lst []), .down 5 c9], vint .i64 1] = some (.tup ((false, [.pv (.int .i64 (mkR mText c9 (mkR mText c7 (mkR mText c6 (mkR mText c4 1).2).2).2).2)]) :: [(false, [.down 11 (mkR mText c4 1).1]), (false, [.down 4 (mkR mText c6 (mkR mText c4 1).2).1]), (false, [.down 3 (mkR mText c7 (mkR mText c6 (mkR mText c4 1).2).2).1]), (false, [.down 5 (mkR mText c9 (mkR mText c7 (mkR mText c6 (mkR mText c4 1).2).2).2).1])])) := by
 simp only [t_World, HasL] at h
 obtain ⟨_, _, _, g3, g4, _, g6, g7, g8, g9, _⟩ := h
 have l4 := mkR_le (mT := mText) c4 1
 have l6 := mkR_le (mT := mText) c6 ((mkR mText c4 1).2)
 have l7 := mkR_le (mT := mText) c7 ((mkR mText c6 (mkR mText c4 1).2).2)
 have l9 := mkR_le (mT := mText) c9 ((mkR mText c7 (mkR mText c6 (mkR mText c4 1).2).2).2)
 have s3 := markStorage_nil 1
 have s4 : callL Ph extF (427 + modK) [.one (.down 11 c4), vint .i64 1] = some (.tup [(false, [.pv (.int .i64 (mkR mText c4 1).2)]), (false, [.down 11 (mkR mText c4 1).1])]) := (markPageS_to (ext := extF)).2 c4 g4 _ (by omega) (by omega)
 have s6 : callL Ph extF (428 + modK) [.agg [.down 4 c6], vint .i64 ((mkR mText c4 1).2)] = some (.tup [(false, [.pv (.int .i64 (mkR mText c6 (mkR mText c4 1).2).2)]), (false, [.down 4 (mkR mText c6 (mkR mText c4 1).2).1])]) := markLockTable_to (ext := extF) [.lst c6] ⟨g6, trivial⟩ _ (by omega) (by show (mkR mText c6 (mkR mText c4 1).2).2 ≤ mkM; omega)
 have s7 : callL Ph extF (429 + modK) [.agg [.down 3 c7], vint .i64 ((mkR mText c6 (mkR mText c4 1).2).2)] = some (.tup [(false, [.pv (.int .i64 (mkR mText c7 (mkR mText c6 (mkR mText c4 1).2).2).2)]), (false, [.down 3 (mkR mText c7 (mkR mText c6 (mkR mText c4 1).2).2).1])]) := markChannel_to (ext := extF) [.lst c7] ⟨g7, trivial⟩ _ (by omega) (by show (mkR mText c7 (mkR mText c6 (mkR mText c4 1).2).2).2 ≤ mkM; omega)
 have s8 := (markSiteS_to (ext := extF)).1 ((mkR mText c7 (mkR mText c6 (mkR mText c4 1).2).2).2)
 have s9 : callL Ph extF (431 + modK) [.one (.down 5 c9), vint .i64 ((mkR mText c7 (mkR mText c6 (mkR mText c4 1).2).2).2)] = some (.tup [(false, [.pv (.int .i64 (mkR mText c9 (mkR mText c7 (mkR mText c6 (mkR mText c4 1).2).2).2).2)]), (false, [.down 5 (mkR mText c9 (mkR mText c7 (mkR mText c6 (mkR mText c4 1).2).2).2).1])]) := (markServerS_to (ext := extF)).2 c9 g9 _ (by omega) (by omega)
 clear hk g3 g4 g6 g7 g8 g9 l4 l6 l7 l9
 generalize mkR mText c4 1 = q4 at s4 s6 s7 s8 s9 ⊢
 generalize mkR mText c6 q4.2 = q6 at s6 s7 s8 s9 ⊢
 generalize mkR mText c7 q6.2 = q7 at s7 s8 s9 ⊢
 generalize mkR mText c9 q7.2 = q9 at s9 ⊢
 refine callM_fn (fn := f_laws_markWorld) rfl rfl rfl ?_
 simp [f_laws_markWorld, markG, mkC, mkI, mkN, MS.ts, segTs, msTs, t_Storage, t_LockTable, t_Channel, s3, s4, s6, s7, s8, s9]
theorem mkW2 {c0 c2 c5 : Int} {on : Bool} {c4 c6 c7 c8 : List (List PV)} (h : HasL t_World [.int .i64 c0, .bool on, .int .i64 c2, .lst [], .lst c4, .int .i64 c5, .lst c6, .lst c7, .lst c8, .lst []]) (hk : (mkR mText c8 (mkR mText c7 (mkR mText c6 (mkR mText c4 1).2).2).2).2 ≤ mkM) : callL Ph extF (420 + modK) [.agg [.pv (.int .i64 c0), .pv (.bool on), .pv (.int .i64 c2), .pv (.lst []), .down 11 c4, .pv (.int .i64 c5), .down 4 c6, .down 3 c7, .down 4 c8, .pv (.lst [])], vint .i64 1] = some (.tup ((false, [.pv (.int .i64 (mkR mText c8 (mkR mText c7 (mkR mText c6 (mkR mText c4 1).2).2).2).2)]) :: [(false, [.down 11 (mkR mText c4 1).1]), (false, [.down 4 (mkR mText c6 (mkR mText c4 1).2).1]), (false, [.down 3 (mkR mText c7 (mkR mText c6 (mkR mText c4 1).2).2).1]), (false, [.down 4 (mkR mText c8 (mkR mText c7 (mkR mText c6 (mkR mText c4 1).2).2).2).1])])) := by
 simp only [t_World, HasL] at h
 obtain ⟨_, _, _, g3, g4, _, g6, g7, g8, g9, _⟩ := h
 have l4 := mkR_le (mT := mText) c4 1
 have l6 := mkR_le (mT := mText) c6 ((mkR mText c4 1).2)
 have l7 := mkR_le (mT := mText) c7 ((mkR mText c6 (mkR mText c4 1).2).2)
 have l8 := mkR_le (mT := mText) c8 ((mkR mText c7 (mkR mText c6 (mkR mText c4 1).2).2).2)
 have s3 := markStorage_nil 1
 have s4 : callL Ph extF (427 + modK) [.one (.down 11 c4), vint .i64 1] = some (.tup [(false, [.pv (.int .i64 (mkR mText c4 1).2)]), (false, [.down 11 (mkR mText c4 1).1])]) := (markPageS_to (ext := extF)).2 c4 g4 _ (by omega) (by omega)
 have s6 : callL Ph extF (428 + modK) [.agg [.down 4 c6], vint .i64 ((mkR mText c4 1).2)] = some (.tup [(false, [.pv (.int .i64 (mkR mText c6 (mkR mText c4 1).2).2)]), (false, [.down 4 (mkR mText c6 (mkR mText c4 1).2).1])]) := markLockTable_to (ext := extF) [.lst c6] ⟨g6, trivial⟩ _ (by omega) (by show (mkR mText c6 (mkR mText c4 1).2).2 ≤ mkM; omega)
 have s7 : callL Ph extF (429 + modK) [.agg [.down 3 c7], vint .i64 ((mkR mText c6 (mkR mText c4 1).2).2)] = some (.tup [(false, [.pv (.int .i64 (mkR mText c7 (mkR mText c6 (mkR mText c4 1).2).2).2)]), (false, [.down 3 (mkR mText c7 (mkR mText c6 (mkR mText c4 1).2).2).1])]) := markChannel_to (ext := extF) [.lst c7] ⟨g7, trivial⟩ _ (by omega) (by show (mkR mText c7 (mkR mText c6 (mkR mText c4 1).2).2).2 ≤ mkM; omega)
 have s8 : callL Ph extF (430 + modK) [.one (.down 4 c8), vint .i64 ((mkR mText c7 (mkR mText c6 (mkR mText c4 1).2).2).2)] = some (.tup [(false, [.pv (.int .i64 (mkR mText c8 (mkR mText c7 (mkR mText c6 (mkR mText c4 1).2).2).2).2)]), (false, [.down 4 (mkR mText c8 (mkR mText c7 (mkR mText c6 (mkR mText c4 1).2).2).2).1])]) := (markSiteS_to (ext := extF)).2 c8 g8 _ (by omega) (by omega)
 have s9 := (markServerS_to (ext := extF)).1 ((mkR mText c8 (mkR mText c7 (mkR mText c6 (mkR mText c4 1).2).2).2).2)
 clear hk g3 g4 g6 g7 g8 g9 l4 l6 l7 l8
 generalize mkR mText c4 1 = q4 at s4 s6 s7 s8 s9 ⊢
 generalize mkR mText c6 q4.2 = q6 at s6 s7 s8 s9 ⊢
 generalize mkR mText c7 q6.2 = q7 at s7 s8 s9 ⊢
 generalize mkR mText c8 q7.2 = q8 at s8 s9 ⊢
 refine callM_fn (fn := f_laws_markWorld) rfl rfl rfl ?_
 simp [f_laws_markWorld, markG, mkC, mkI, mkN, MS.ts, segTs, msTs, t_Storage, t_LockTable, t_Channel, s3, s4, s6, s7, s8, s9]
theorem mkW3 {c0 c2 c5 : Int} {on : Bool} {c4 c6 c7 c8 c9 : List (List PV)} (h : HasL t_World [.int .i64 c0, .bool on, .int .i64 c2, .lst [], .lst c4, .int .i64 c5, .lst c6, .lst c7, .lst c8, .lst c9]) (hk : (mkR mText c9 (mkR mText c8 (mkR mText c7 (mkR mText c6 (mkR mText c4 1).2).2).2).2).2 ≤ mkM) : callL Ph extF (420 + modK) [.agg [.pv (.int .i64 c0), .pv (.bool on), .pv (.int .i64 c2), .pv (.lst []), .down 11 c4, .pv (.int .i64 c5), .down 4 c6, .down 3 c7, .down 4 c8, .down 5 c9], vint .i64 1] = some (.tup ((false, [.pv (.int .i64 (mkR mText c9 (mkR mText c8 (mkR mText c7 (mkR mText c6 (mkR mText c4 1).2).2).2).2).2)]) :: [(false, [.down 11 (mkR mText c4 1).1]), (false, [.down 4 (mkR mText c6 (mkR mText c4 1).2).1]), (false, [.down 3 (mkR mText c7 (mkR mText c6 (mkR mText c4 1).2).2).1]), (false, [.down 4 (mkR mText c8 (mkR mText c7 (mkR mText c6 (mkR mText c4 1).2).2).2).1]), (false, [.down 5 (mkR mText c9 (mkR mText c8 (mkR mText c7 (mkR mText c6 (mkR mText c4 1).2).2).2).2).1])])) := by
 simp only [t_World, HasL] at h
 obtain ⟨_, _, _, g3, g4, _, g6, g7, g8, g9, _⟩ := h
 have l4 := mkR_le (mT := mText) c4 1
 have l6 := mkR_le (mT := mText) c6 ((mkR mText c4 1).2)
 have l7 := mkR_le (mT := mText) c7 ((mkR mText c6 (mkR mText c4 1).2).2)
 have l8 := mkR_le (mT := mText) c8 ((mkR mText c7 (mkR mText c6 (mkR mText c4 1).2).2).2)
 have l9 := mkR_le (mT := mText) c9 ((mkR mText c8 (mkR mText c7 (mkR mText c6 (mkR mText c4 1).2).2).2).2)
 have s3 := markStorage_nil 1
 have s4 : callL Ph extF (427 + modK) [.one (.down 11 c4), vint .i64 1] = some (.tup [(false, [.pv (.int .i64 (mkR mText c4 1).2)]), (false, [.down 11 (mkR mText c4 1).1])]) := (markPageS_to (ext := extF)).2 c4 g4 _ (by omega) (by omega)
 have s6 : callL Ph extF (428 + modK) [.agg [.down 4 c6], vint .i64 ((mkR mText c4 1).2)] = some (.tup [(false, [.pv (.int .i64 (mkR mText c6 (mkR mText c4 1).2).2)]), (false, [.down 4 (mkR mText c6 (mkR mText c4 1).2).1])]) := markLockTable_to (ext := extF) [.lst c6] ⟨g6, trivial⟩ _ (by omega) (by show (mkR mText c6 (mkR mText c4 1).2).2 ≤ mkM; omega)
 have s7 : callL Ph extF (429 + modK) [.agg [.down 3 c7], vint .i64 ((mkR mText c6 (mkR mText c4 1).2).2)] = some (.tup [(false, [.pv (.int .i64 (mkR mText c7 (mkR mText c6 (mkR mText c4 1).2).2).2)]), (false, [.down 3 (mkR mText c7 (mkR mText c6 (mkR mText c4 1).2).2).1])]) := markChannel_to (ext := extF) [.lst c7] ⟨g7, trivial⟩ _ (by omega) (by show (mkR mText c7 (mkR mText c6 (mkR mText c4 1).2).2).2 ≤ mkM; omega)
 have s8 : callL Ph extF (430 + modK) [.one (.down 4 c8), vint .i64 ((mkR mText c7 (mkR mText c6 (mkR mText c4 1).2).2).2)] = some (.tup [(false, [.pv (.int .i64 (mkR mText c8 (mkR mText c7 (mkR mText c6 (mkR mText c4 1).2).2).2).2)]), (false, [.down 4 (mkR mText c8 (mkR mText c7 (mkR mText c6 (mkR mText c4 1).2).2).2).1])]) := (markSiteS_to (ext := extF)).2 c8 g8 _ (by omega) (by omega)
 have s9 : callL Ph extF (431 + modK) [.one (.down 5 c9), vint .i64 ((mkR mText c8 (mkR mText c7 (mkR mText c6 (mkR mText c4 1).2).2).2).2)] = some (.tup [(false, [.pv (.int .i64 (mkR mText c9 (mkR mText c8 (mkR mText c7 (mkR mText c6 (mkR mText c4 1).2).2).2).2).2)]), (false, [.down 5 (mkR mText c9 (mkR mText c8 (mkR mText c7 (mkR mText c6 (mkR mText c4 1).2).2).2).2).1])]) := (markServerS_to (ext := extF)).2 c9 g9 _ (by omega) (by omega)
 clear hk g3 g4 g6 g7 g8 g9 l4 l6 l7 l8 l9
 generalize mkR mText c4 1 = q4 at s4 s6 s7 s8 s9 ⊢
 generalize mkR mText c6 q4.2 = q6 at s6 s7 s8 s9 ⊢
 generalize mkR mText c7 q6.2 = q7 at s7 s8 s9 ⊢
 generalize mkR mText c8 q7.2 = q8 at s8 s9 ⊢
 generalize mkR mText c9 q8.2 = q9 at s9 ⊢
 refine callM_fn (fn := f_laws_markWorld) rfl rfl rfl ?_
 simp [f_laws_markWorld, markG, mkC, mkI, mkN, MS.ts, segTs, msTs, t_Storage, t_LockTable, t_Channel, s3, s4, s6, s7, s8, s9]
theorem mkW4 {c0 c2 c5 : Int} {on : Bool} {c3 c4 c6 c7 : List (List PV)} (h : HasL t_World [.int .i64 c0, .bool on, .int .i64 c2, .lst c3, .lst c4, .int .i64 c5, .lst c6, .lst c7, .lst [], .lst []]) (hk : (mkR mText c7 (mkR mText c6 (mkR mText c4 (mkR mText c3 1).2).2).2).2 ≤ mkM) : callL Ph extF (420 + modK) [.agg [.pv (.int .i64 c0), .pv (.bool on), .pv (.int .i64 c2), .down 24 c3, .down 11 c4, .pv (.int .i64 c5), .down 4 c6, .down 3 c7, .pv (.lst []), .pv (.lst [])], vint .i64 1] = some (.tup ((false, [.pv (.int .i64 (mkR mText c7 (mkR mText c6 (mkR mText c4 (mkR mText c3 1).2).2).2).2)]) :: [(false, [.down 24 (mkR mText c3 1).1]), (false, [.down 11 (mkR mText c4 (mkR mText c3 1).2).1]), (false, [.down 4 (mkR mText c6 (mkR mText c4 (mkR mText c3 1).2).2).1]), (false, [.down 3 (mkR mText c7 (mkR mText c6 (mkR mText c4 (mkR mText c3 1).2).2).2).1])])) := by
 simp only [t_World, HasL] at h
 obtain ⟨_, _, _, g3, g4, _, g6, g7, g8, g9, _⟩ := h
 have l3 := mkR_le (mT := mText) c3 1
 have l4 := mkR_le (mT := mText) c4 ((mkR mText c3 1).2)
 have l6 := mkR_le (mT := mText) c6 ((mkR mText c4 (mkR mText c3 1).2).2)
 have l7 := mkR_le (mT := mText) c7 ((mkR mText c6 (mkR mText c4 (mkR mText c3 1).2).2).2)
 have s3 : callL Ph extF (426 + modK) [.agg [.down 24 c3], vint .i64 1] = some (.tup [(false, [.pv (.int .i64 (mkR mText c3 1).2)]), (false, [.down 24 (mkR mText c3 1).1])]) := markStorage_to (ext := extF) [.lst c3] ⟨g3, trivial⟩ _ (by omega) (by show (mkR mText c3 1).2 ≤ mkM; omega)
 have s4 : callL Ph extF (427 + modK) [.one (.down 11 c4), vint .i64 ((mkR mText c3 1).2)] = some (.tup [(false, [.pv (.int .i64 (mkR mText c4 (mkR mText c3 1).2).2)]), (false, [.down 11 (mkR mText c4 (mkR mText c3 1).2).1])]) := (markPageS_to (ext := extF)).2 c4 g4 _ (by omega) (by omega)
 have s6 : callL Ph extF (428 + modK) [.agg [.down 4 c6], vint .i64 ((mkR mText c4 (mkR mText c3 1).2).2)] = some (.tup [(false, [.pv (.int .i64 (mkR mText c6 (mkR mText c4 (mkR mText c3 1).2).2).2)]), (false, [.down 4 (mkR mText c6 (mkR mText c4 (mkR mText c3 1).2).2).1])]) := markLockTable_to (ext := extF) [.lst c6] ⟨g6, trivial⟩ _ (by omega) (by show (mkR mText c6 (mkR mText c4 (mkR mText c3 1).2).2).2 ≤ mkM; omega)
 have s7 : callL Ph extF (429 + modK) [.agg [.down 3 c7], vint .i64 ((mkR mText c6 (mkR mText c4 (mkR mText c3 1).2).2).2)] = some (.tup [(false, [.pv (.int .i64 (mkR mText c7 (mkR mText c6 (mkR mText c4 (mkR mText c3 1).2).2).2).2)]), (false, [.down 3 (mkR mText c7 (mkR mText c6 (mkR mText c4 (mkR mText c3 1).2).2).2).1])]) := markChannel_to (ext := extF) [.lst c7] ⟨g7, trivial⟩ _ (by omega) (by show (mkR mText c7 (mkR mText c6 (mkR mText c4 (mkR mText c3 1).2).2).2).2 ≤ mkM; omega)
 have s8 := (markSiteS_to (ext := extF)).1 ((mkR mText c7 (mkR mText c6 (mkR mText c4 (mkR mText c3 1).2).2).2).2)
 have s9 := (markServerS_to (ext := extF)).1 ((mkR mText c7 (mkR mText c6 (mkR mText c4 (mkR mText c3 1).2).2).2).2)
 clear hk g3 g4 g6 g7 g8 g9 l3 l4 l6 l7
 generalize mkR mText c3 1 = q3 at s3 s4 s6 s7 s8 s9 ⊢
 generalize mkR mText c4 q3.2 = q4 at s4 s6 s7 s8 s9 ⊢
 generalize mkR mText c6 q4.2 = q6 at s6 s7 s8 s9 ⊢
 generalize mkR mText c7 q6.2 = q7 at s7 s8 s9 ⊢
 refine callM_fn (fn := f_laws_markWorld) rfl rfl rfl ?_
 simp [f_laws_markWorld, markG, mkC, mkI, mkN, MS.ts, segTs, msTs, t_Storage, t_LockTable, t_Channel, s3, s4, s6, s7, s8, s9]
theorem mkW5 {c0 c2 c5 : Int} {on : Bool} {c3 c4 c6 c7 c9 : List (List PV)} (h : HasL t_World [.int .i64 c0, .bool on, .int .i64 c2, .lst c3, .lst c4, .int .i64 c5, .lst c6, .lst c7, .lst [], .lst c9]) (hk : (mkR mText c9 (mkR mText c7 (mkR mText c6 (mkR mText c4 (mkR mText c3 1).2).2).2).2).2 ≤ mkM) : callL Ph extF (420 + modK) [.agg [.pv (.int .i64 c0), .pv (.bool on), .pv (.int .i64 c2), .down 24 c3, .down 11 c4, .pv (.int .i64 c5), .down 4 c6, .down 3 c7, .pv (.lst []), .down 5 c9], vint .i64 1] = some (.tup ((false, [.pv (.int .i64 (mkR mText c9 (mkR mText c7 (mkR mText c6 (mkR mText c4 (mkR mText c3 1).2).2).2).2).2)]) :: [(false, [.down 24 (mkR mText c3 1).1]), (false, [.down 11 (mkR mText c4 (mkR mText c3 1).2).1]), (false, [.down 4 (mkR mText c6 (mkR mText c4 (mkR mText c3 1).2).2).1]), (false, [.down 3 (mkR mText c7 (mkR mText c6 (mkR mText c4 (mkR mText c3 1).2).2).2).1]), (false, [.down 5 (mkR mText c9 (mkR mText c7 (mkR mText c6 (mkR mText c4 (mkR mText c3 1).2).2).2).2).1])])) := by
 simp only [t_World, HasL] at h
 obtain ⟨_, _, _, g3, g4, _, g6, g7, g8, g9, _⟩ := h
 have l3 := mkR_le (mT := mText) c3 1
 have l4 := mkR_le (mT := mText) c4 ((mkR mText c3 1).2)
 have l6 := mkR_le (mT := mText) c6 ((mkR mText c4 (mkR mText c3 1).2).2)
 have l7 := mkR_le (mT := mText) c7 ((mkR mText c6 (mkR mText c4 (mkR mText c3 1).2).2).2)
 have l9 := mkR_le (mT := mText) c9 ((mkR mText c7 (mkR mText c6 (mkR mText c4 (mkR mText c3 1).2).2).2).2)
 have s3 : callL Ph extF (426 + modK) [.agg [.down 24 c3], vint .i64 1] = some (.tup [(false, [.pv (.int .i64 (mkR mText c3 1).2)]), (false, [.down 24 (mkR mText c3 1).1])]) := markStorage_to (ext := extF) [.lst c3] ⟨g3, trivial⟩ _ (by omega) (by show (mkR mText c3 1).2 ≤ mkM; omega)
 have s4 : callL Ph extF (427 + modK) [.one (.down 11 c4), vint .i64 ((mkR mText c3 1).2)] = some (.tup [(false, [.pv (.int .i64 (mkR mText c4 (mkR mText c3 1).2).2)]), (false, [.down 11 (mkR mText c4 (mkR mText c3 1).2).1])]) := (markPageS_to (ext := extF)).2 c4 g4 _ (by omega) (by omega)
 have s6 : callL Ph extF (428 + modK) [.agg [.down 4 c6], vint .i64 ((mkR mText c4 (mkR mText c3 1).2).2)] = some (.tup [(false, [.pv (.int .i64 (mkR mText c6 (mkR mText c4 (mkR mText c3 1).2).2).2)]), (false, [.down 4 (mkR mText c6 (mkR mText c4 (mkR mText c3 1).2).2).1])]) := markLockTable_to (ext := extF) [.lst c6] ⟨g6, trivial⟩ _ (by omega) (by show (mkR mText c6 (mkR mText c4 (mkR mText c3 1).2).2).2 ≤ mkM; omega)
 have s7 : callL Ph extF (429 + modK) [.agg [.down 3 c7], vint .i64 ((mkR mText c6 (mkR mText c4 (mkR mText c3 1).2).2).2)] = some (.tup [(false, [.pv (.int .i64 (mkR mText c7 (mkR mText c6 (mkR mText c4 (mkR mText c3 1).2).2).2).2)]), (false, [.down 3 (mkR mText c7 (mkR mText c6 (mkR mText c4 (mkR mText c3 1).2).2).2).1])]) := markChannel_to (ext := extF) [.lst c7] ⟨g7, trivial⟩ _ (by omega) (by show (mkR mText c7 (mkR mText c6 (mkR mText c4 (mkR mText c3 1).2).2).2).2 ≤ mkM; omega)
 have s8 := (markSiteS_to (ext := extF)).1 ((mkR mText c7 (mkR mText c6 (mkR mText c4 (mkR mText c3 1).2).2).2).2)
 have s9 : callL Ph extF (431 + modK) [.one (.down 5 c9), vint .i64 ((mkR mText c7 (mkR mText c6 (mkR mText c4 (mkR mText c3 1).2).2).2).2)] = some (.tup [(false, [.pv (.int .i64 (mkR mText c9 (mkR mText c7 (mkR mText c6 (mkR mText c4 (mkR mText c3 1).2).2).2).2).2)]), (false, [.down 5 (mkR mText c9 (mkR mText c7 (mkR mText c6 (mkR mText c4 (mkR mText c3 1).2).2).2).2).1])]) := (markServerS_to (ext := extF)).2 c9 g9 _ (by omega) (by omega)
 clear hk g3 g4 g6 g7 g8 g9 l3 l4 l6 l7 l9
 generalize mkR mText c3 1 = q3 at s3 s4 s6 s7 s8 s9 ⊢
 generalize mkR mText c4 q3.2 = q4 at s4 s6 s7 s8 s9 ⊢
 generalize mkR mText c6 q4.2 = q6 at s6 s7 s8 s9 ⊢
 generalize mkR mText c7 q6.2 = q7 at s7 s8 s9 ⊢
 generalize mkR mText c9 q7.2 = q9 at s9 ⊢
 refine callM_fn (fn := f_laws_markWorld) rfl rfl rfl ?_
 simp [f_laws_markWorld, markG, mkC, mkI, mkN, MS.ts, segTs, msTs, t_Storage, t_LockTable, t_Channel, s3, s4, s6, s7, s8, s9]
theorem mkW6 {c0 c2 c5 : Int} {on : Bool} {c3 c4 c6 c7 c8 : List (List PV)} (h : HasL t_World [.int .i64 c0, .bool on, .int .i64 c2, .lst c3, .lst c4, .int .i64 c5, .lst c6, .lst c7, .lst c8, .lst []]) (hk : (mkR mText c8 (mkR mText c7 (mkR mText c6 (mkR mText c4 (mkR mText c3 1).2).2).2).2).2 ≤ mkM) : callL Ph extF (420 + modK) [.agg [.pv (.int .i64 c0), .pv (.bool on), .pv (.int .i64 c2), .down 24 c3, .down 11 c4, .pv (.int .i64 c5), .down 4 c6, .down 3 c7, .down 4 c8, .pv (.lst [])], vint .i64 1] = some (.tup ((false, [.pv (.int .i64 (mkR mText c8 (mkR mText c7 (mkR mText c6 (mkR mText c4 (mkR mText c3 1).2).2).2).2).2)]) :: [(false, [.down 24 (mkR mText c3 1).1]), (false, [.down 11 (mkR mText c4 (mkR mText c3 1).2).1]), (false, [.down 4 (mkR mText c6 (mkR mText c4 (mkR mText c3 1).2).2).1]), (false, [.down 3 (mkR mText c7 (mkR mText c6 (mkR mText c4 (mkR mText c3 1).2).2).2).1]), (false, [.down 4 (mkR mText c8 (mkR mText c7 (mkR mText c6 (mkR mText c4 (mkR mText c3 1).2).2).2).2).1])])) := by
 simp only [t_World, HasL] at h
 obtain ⟨_, _, _, g3, g4, _, g6, g7, g8, g9, _⟩ := h
 have l3 := mkR_le (mT := mText) c3 1
 have l4 := mkR_le (mT := mText) c4 ((mkR mText c3 1).2)
 have l6 := mkR_le (mT := mText) c6 ((mkR mText c4 (mkR mText c3 1).2).2)
 have l7 := mkR_le (mT := mText) c7 ((mkR mText c6 (mkR mText c4 (mkR mText c3 1).2).2).2)
 have l8 := mkR_le (mT := mText) c8 ((mkR mText c7 (mkR mText c6 (mkR mText c4 (mkR mText c3 1).2).2).2).2)
 have s3 : callL Ph extF (426 + modK) [.agg [.down 24 c3], vint .i64 1] = some (.tup [(false, [.pv (.int .i64 (mkR mText c3 1).2)]), (false, [.down 24 (mkR mText c3 1).1])]) := markStorage_to (ext := extF) [.lst c3] ⟨g3, trivial⟩ _ (by omega) (by show (mkR mText c3 1).2 ≤ mkM; omega)
 have s4 : callL Ph extF (427 + modK) [.one (.down 11 c4), vint .i64 ((mkR mText c3 1).2)] = some (.tup [(false, [.pv (.int .i64 (mkR mText c4 (mkR mText c3 1).2).2)]), (false, [.down 11 (mkR mText c4 (mkR mText c3 1).2).1])]) := (markPageS_to (ext := extF)).2 c4 g4 _ (by omega) (by omega)
 have s6 : callL Ph extF (428 + modK) [.agg [.down 4 c6], vint .i64 ((mkR mText c4 (mkR mText c3 1).2).2)] = some (.tup [(false, [.pv (.int .i64 (mkR mText c6 (mkR mText c4 (mkR mText c3 1).2).2).2)]), (false, [.down 4 (mkR mText c6 (mkR mText c4 (mkR mText c3 1).2).2).1])]) := markLockTable_to (ext := extF) [.lst c6] ⟨g6, trivial⟩ _ (by omega) (by show (mkR mText c6 (mkR mText c4 (mkR mText c3 1).2).2).2 ≤ mkM; omega)
 have s7 : callL Ph extF (429 + modK) [.agg [.down 3 c7], vint .i64 ((mkR mText c6 (mkR mText c4 (mkR mText c3 1).2).2).2)] = some (.tup [(false, [.pv (.int .i64 (mkR mText c7 (mkR mText c6 (mkR mText c4 (mkR mText c3 1).2).2).2).2)]), (false, [.down 3 (mkR mText c7 (mkR mText c6 (mkR mText c4 (mkR mText c3 1).2).2).2).1])]) := markChannel_to (ext := extF) [.lst c7] ⟨g7, trivial⟩ _ (by omega) (by show (mkR mText c7 (mkR mText c6 (mkR mText c4 (mkR mText c3 1).2).2).2).2 ≤ mkM; omega)
 have s8 : callL Ph extF (430 + modK) [.one (.down 4 c8), vint .i64 ((mkR mText c7 (mkR mText c6 (mkR mText c4 (mkR mText c3 1).2).2).2).2)] = some (.tup [(false, [.pv (.int .i64 (mkR mText c8 (mkR mText c7 (mkR mText c6 (mkR mText c4 (mkR mText c3 1).2).2).2).2).2)]), (false, [.down 4 (mkR mText c8 (mkR mText c7 (mkR mText c6 (mkR mText c4 (mkR mText c3 1).2).2).2).2).1])]) := (markSiteS_to (ext := extF)).2 c8 g8 _ (by omega) (by omega)
 have s9 := (markServerS_to (ext := extF)).1 ((mkR mText c8 (mkR mText c7 (mkR mText c6 (mkR mText c4 (mkR mText c3 1).2).2).2).2).2)
 clear hk g3 g4 g6 g7 g8 g9 l3 l4 l6 l7 l8
 generalize mkR mText c3 1 = q3 at s3 s4 s6 s7 s8 s9 ⊢
 generalize mkR mText c4 q3.2 = q4 at s4 s6 s7 s8 s9 ⊢
 generalize mkR mText c6 q4.2 = q6 at s6 s7 s8 s9 ⊢
 generalize mkR mText c7 q6.2 = q7 at s7 s8 s9 ⊢
 generalize mkR mText c8 q7.2 = q8 at s8 s9 ⊢
 refine callM_fn (fn := f_laws_markWorld) rfl rfl rfl ?_
 simp [f_laws_markWorld, markG, mkC, mkI, mkN, MS.ts, segTs, msTs, t_Storage, t_LockTable, t_Channel, s3, s4, s6, s7, s8, s9]
theorem mkW7 {c0 c2 c5 : Int} {on : Bool} {c3 c4 c6 c7 c8 c9 : List (List PV)} (h : HasL t_World [.int .i64 c0, .bool on, .int .i64 c2, .lst c3, .lst c4, .int .i64 c5, .lst c6, .lst c7, .lst c8, .lst c9]) (hk : (mkR mText c9 (mkR mText c8 (mkR mText c7 (mkR mText c6 (mkR mText c4 (mkR mText c3 1).2).2).2).2).2).2 ≤ mkM) : callL Ph extF (420 + modK) [.agg [.pv (.int .i64 c0), .pv (.bool on), .pv (.int .i64 c2), .down 24 c3, .down 11 c4, .pv (.int .i64 c5), .down 4 c6, .down 3 c7, .down 4 c8, .down 5 c9], vint .i64 1] = some (.tup ((false, [.pv (.int .i64 (mkR mText c9 (mkR mText c8 (mkR mText c7 (mkR mText c6 (mkR mText c4 (mkR mText c3 1).2).2).2).2).2).2)]) :: [(false, [.down 24 (mkR mText c3 1).1]), (false, [.down 11 (mkR mText c4 (mkR mText c3 1).2).1]), (false, [.down 4 (mkR mText c6 (mkR mText c4 (mkR mText c3 1).2).2).1]), (false, [.down 3 (mkR mText c7 (mkR mText c6 (mkR mText c4 (mkR mText c3 1).2).2).2).1]), (false, [.down 4 (mkR mText c8 (mkR mText c7 (mkR mText c6 (mkR mText c4 (mkR mText c3 1).2).2).2).2).1]), (false, [.down 5 (mkR mText c9 (mkR mText c8 (mkR mText c7 (mkR mText c6 (mkR mText c4 (mkR mText c3 1).2).2).2).2).2).1])])) := by
 simp only [t_World, HasL] at h
 obtain ⟨_, _, _, g3, g4, _, g6, g7, g8, g9, _⟩ := h
 have l3 := mkR_le (mT := mText) c3 1
 have l4 := mkR_le (mT := mText) c4 ((mkR mText c3 1).2)
 have l6 := mkR_le (mT := mText) c6 ((mkR mText c4 (mkR mText c3 1).2).2)
 have l7 := mkR_le (mT := mText) c7 ((mkR mText c6 (mkR mText c4 (mkR mText c3 1).2).2).2)
 have l8 := mkR_le (mT := mText) c8 ((mkR mText c7 (mkR mText c6 (mkR mText c4 (mkR mText c3 1).2).2).2).2)
 have l9 := mkR_le (mT := mText) c9 ((mkR mText c8 (mkR mText c7 (mkR mText c6 (mkR mText c4 (mkR mText c3 1).2).2).2).2).2)
 have s3 : callL Ph extF (426 + modK) [.agg [.down 24 c3], vint .i64 1] = some (.tup [(false, [.pv (.int .i64 (mkR mText c3 1).2)]), (false, [.down 24 (mkR mText c3 1).1])]) := markStorage_to (ext := extF) [.lst c3] ⟨g3, trivial⟩ _ (by omega) (by show (mkR mText c3 1).2 ≤ mkM; omega)
 have s4 : callL Ph extF (427 + modK) [.one (.down 11 c4), vint .i64 ((mkR mText c3 1).2)] = some (.tup [(false, [.pv (.int .i64 (mkR mText c4 (mkR mText c3 1).2).2)]), (false, [.down 11 (mkR mText c4 (mkR mText c3 1).2).1])]) := (markPageS_to (ext := extF)).2 c4 g4 _ (by omega) (by omega)
 have s6 : callL Ph extF (428 + modK) [.agg [.down 4 c6], vint .i64 ((mkR mText c4 (mkR mText c3 1).2).2)] = some (.tup [(false, [.pv (.int .i64 (mkR mText c6 (mkR mText c4 (mkR mText c3 1).2).2).2)]), (false, [.down 4 (mkR mText c6 (mkR mText c4 (mkR mText c3 1).2).2).1])]) := markLockTable_to (ext := extF) [.lst c6] ⟨g6, trivial⟩ _ (by omega) (by show (mkR mText c6 (mkR mText c4 (mkR mText c3 1).2).2).2 ≤ mkM; omega)
 have s7 : callL Ph extF (429 + modK) [.agg [.down 3 c7], vint .i64 ((mkR mText c6 (mkR mText c4 (mkR mText c3 1).2).2).2)] = some (.tup [(false, [.pv (.int .i64 (mkR mText c7 (mkR mText c6 (mkR mText c4 (mkR mText c3 1).2).2).2).2)]), (false, [.down 3 (mkR mText c7 (mkR mText c6 (mkR mText c4 (mkR mText c3 1).2).2).2).1])]) := markChannel_to (ext := extF) [.lst c7] ⟨g7, trivial⟩ _ (by omega) (by show (mkR mText c7 (mkR mText c6 (mkR mText c4 (mkR mText c3 1).2).2).2).2 ≤ mkM; omega)
 have s8 : callL Ph extF (430 + modK) [.one (.down 4 c8), vint .i64 ((mkR mText c7 (mkR mText c6 (mkR mText c4 (mkR mText c3 1).2).2).2).2)] = some (.tup [(false, [.pv (.int .i64 (mkR mText c8 (mkR mText c7 (mkR mText c6 (mkR mText c4 (mkR mText c3 1).2).2).2).2).2)]), (false, [.down 4 (mkR mText c8 (mkR mText c7 (mkR mText c6 (mkR mText c4 (mkR mText c3 1).2).2).2).2).1])]) := (markSiteS_to (ext := extF)).2 c8 g8 _ (by omega) (by omega)
 have s9 : callL Ph extF (431 + modK) [.one (.down 5 c9), vint .i64 ((mkR mText c8 (mkR mText c7 (mkR mText c6 (mkR mText c4 (mkR mText c3 1).2).2).2).2).2)] = some (.tup [(false, [.pv (.int .i64 (mkR mText c9 (mkR mText c8 (mkR mText c7 (mkR mText c6 (mkR mText c4 (mkR mText c3 1).2).2).2).2).2).2)]), (false, [.down 5 (mkR mText c9 (mkR mText c8 (mkR mText c7 (mkR mText c6 (mkR mText c4 (mkR mText c3 1).2).2).2).2).2).1])]) := (markServerS_to (ext := extF)).2 c9 g9 _ (by omega) (by omega)
 clear hk g3 g4 g6 g7 g8 g9 l3 l4 l6 l7 l8 l9
 generalize mkR mText c3 1 = q3 at s3 s4 s6 s7 s8 s9 ⊢
 generalize mkR mText c4 q3.2 = q4 at s4 s6 s7 s8 s9 ⊢
 generalize mkR mText c6 q4.2 = q6 at s6 s7 s8 s9 ⊢
 generalize mkR mText c7 q6.2 = q7 at s7 s8 s9 ⊢
 generalize mkR mText c8 q7.2 = q8 at s8 s9 ⊢
 generalize mkR mText c9 q8.2 = q9 at s9 ⊢
 refine callM_fn (fn := f_laws_markWorld) rfl rfl rfl ?_
 simp [f_laws_markWorld, markG, mkC, mkI, mkN, MS.ts, segTs, msTs, t_Storage, t_LockTable, t_Channel, s3, s4, s6, s7, s8, s9]
end Gi
