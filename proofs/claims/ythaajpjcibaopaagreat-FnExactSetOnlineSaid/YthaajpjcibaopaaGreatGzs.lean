/- Of this proof. -/
import Derived.Test.YthaajpjcibaopaaGreatGcj
import Derived.Test.YthaajpjcibaopaaGreatGcm
namespace Gi
open Go Go.RowKit
set_option linter.unusedSimpArgs false
set_option linter.unusedVariables false
set_option maxHeartbeats 8000000
set_option maxRecDepth 8000
attribute [local simp] start execL exec execOps stepO wants fop eop Opd.ev put V.cells plain loadV cut isInt isStr isBool bin binInt un asList L.view viewArgs V.view viewL done finish resultsOf resultOf comps comp giveLs giveL arrsOf V.flat L.flat setV setL storeV putAt freezeVs freezeLs freezeL V.mut L.mut lent AObj.unz L.unsub loadZV storeZV callMV lendV lendLs lendL PV.flat PV.bare putOuts
theorem szL_mem : ∀ {l : List PV} {p : PV}, p ∈ l → sz p ≤ szL l
 | q :: l, p, h => by
  simp only [szL]
  rcases List.mem_cons.1 h with rfl | h
  ·omega
  ·have := szL_mem h; omega
theorem law_rest0 {c0 c2 c5 l0 : Int} {c1 on : Bool} {c4 c6 c7 : List (List PV)} (h0 : HasL t_World [.int .i64 c0, .bool c1, .int .i64 c2, .lst [], .lst c4, .int .i64 c5, .lst c6, .lst c7, .lst [], .lst []]) (hs0 : szL [.int .i64 c0, .bool c1, .int .i64 c2, .lst [], .lst c4, .int .i64 c5, .lst c6, .lst c7, .lst [], .lst []] ≤ 1048576) (m0 : callL Ph extF 104 [.agg [.pv (.int .i64 c0), .pv (.bool c1), .pv (.int .i64 c2), .pv (.lst []), .pv (.lst c4), .pv (.int .i64 c5), .pv (.lst c6), .pv (.lst c7), .pv (.lst []), .pv (.lst [])], vint .i64 1048576] = some (vint .i64 l0)) (n0 : ¬ l0 < 0)
 (e1 : callL Ph extF 424 [.agg [.pv (.int .i64 c0), .pv (.bool c1), .pv (.int .i64 c2), .pv (.lst []), .pv (.lst c4), .pv (.int .i64 c5), .pv (.lst c6), .pv (.lst c7), .pv (.lst []), .pv (.lst [])], vbool on] = some (.agg [.pv (.int .i64 c0), .pv (.bool on), .pv (.int .i64 c2), .nil, .down 11 c4, .pv (.int .i64 c5), .down 4 c6, .down 3 c7, .nil, .nil])) (e2 : callL Ph extF 423 [.agg [.pv (.int .i64 c0), .pv (.bool c1), .pv (.int .i64 c2), .pv (.lst []), .pv (.lst c4), .pv (.int .i64 c5), .pv (.lst c6), .pv (.lst c7), .pv (.lst []), .pv (.lst [])], vbool on] = some (.agg [.pv (.int .i64 c0), .pv (.bool on), .pv (.int .i64 c2), .nil, .down 11 c4, .pv (.int .i64 c5), .down 4 c6, .down 3 c7, .down 4 [], .down 5 []])) : callL Ph extF 417 [.agg [.pv (.int .i64 c0), .pv (.bool c1), .pv (.int .i64 c2), .pv (.lst []), .pv (.lst c4), .pv (.int .i64 c5), .pv (.lst c6), .pv (.lst c7), .pv (.lst []), .pv (.lst [])], vbool on] = some (vbool true) := by
 have h1 : HasL t_World [.int .i64 c0, .bool on, .int .i64 c2, .lst [], .lst c4, .int .i64 c5, .lst c6, .lst c7, .lst [], .lst []] := by
  simp only [t_World, HasL] at h0 ⊢
  exact ⟨h0.1, (by trivial), h0.2.2⟩
 have hs1 : szL [.int .i64 c0, .bool on, .int .i64 c2, .lst [], .lst c4, .int .i64 c5, .lst c6, .lst c7, .lst [], .lst []] ≤ 1048576 := by
  simp only [szL, sz] at hs0 ⊢
  omega
 have to0 : callL Ph extF 106 [.agg [.pv (.int .i64 c0), .pv (.bool c1), .pv (.int .i64 c2), .pv (.lst []), .pv (.lst c4), .pv (.int .i64 c5), .pv (.lst c6), .pv (.lst c7), .pv (.lst []), .pv (.lst [])]] = some (.agg (ownL t_World [.int .i64 c0, .bool c1, .int .i64 c2, .lst [], .lst c4, .int .i64 c5, .lst c6, .lst c7, .lst [], .lst []])) := toWorld_to (ext := extF) _ h0 hs0
 have hset : (ownL t_World [.int .i64 c0, .bool c1, .int .i64 c2, .lst [], .lst c4, .int .i64 c5, .lst c6, .lst c7, .lst [], .lst []]).map setL = [.pv (.int .i64 c0), .pv (.bool c1), .pv (.int .i64 c2), .pv (.lst []), .pv (.lst c4), .pv (.int .i64 c5), .pv (.lst c6), .pv (.lst c7), .pv (.lst []), .pv (.lst [])] := own_set h0
 have hcl : V.closed (.agg (ownL t_World [.int .i64 c0, .bool c1, .int .i64 c2, .lst [], .lst c4, .int .i64 c5, .lst c6, .lst c7, .lst [], .lst []])) = true := ownL_closed h0
 have hth : thawZ [.box [.pv (.int .i64 c0), .pv (.bool c1), .pv (.int .i64 c2), .pv (.lst []), .pv (.lst c4), .pv (.int .i64 c5), .pv (.lst c6), .pv (.lst c7), .pv (.lst []), .pv (.lst [])], .box [.pv (.int .i64 c0), .pv (.bool on), .pv (.int .i64 c2), .nil, .pv (.lst c4), .pv (.int .i64 c5), .pv (.lst c6), .pv (.lst c7), .pv (.lst []), .pv (.lst [])]] (.agg (ownL t_World [.int .i64 c0, .bool c1, .int .i64 c2, .lst [], .lst c4, .int .i64 c5, .lst c6, .lst c7, .lst [], .lst []])) = (.agg [.pv (.int .i64 c0), .pv (.bool c1), .pv (.int .i64 c2), .arr 2, .arr 3, .pv (.int .i64 c5), .arr 4, .arr 5, .arr 6, .arr 7], [.box [.pv (.int .i64 c0), .pv (.bool c1), .pv (.int .i64 c2), .pv (.lst []), .pv (.lst c4), .pv (.int .i64 c5), .pv (.lst c6), .pv (.lst c7), .pv (.lst []), .pv (.lst [])], .box [.pv (.int .i64 c0), .pv (.bool on), .pv (.int .i64 c2), .nil, .pv (.lst c4), .pv (.int .i64 c5), .pv (.lst c6), .pv (.lst c7), .pv (.lst []), .pv (.lst [])], .zarr t_BucketS.length [], .zarr t_PageS.length c4, .zarr t_LockS.length c6, .zarr t_MailS.length c7, .zarr t_SiteS.length [], .zarr t_ServerS.length []]) := own_thawZ h0 _
 have eq0 : callL Ph extF 108 [.agg [.pv (.int .i64 c0), .pv (.bool c1), .pv (.int .i64 c2), .pv (.lst []), .pv (.lst c4), .pv (.int .i64 c5), .pv (.lst c6), .pv (.lst c7), .pv (.lst []), .pv (.lst [])], .agg [.pv (.int .i64 c0), .pv (.bool c1), .pv (.int .i64 c2), .pv (.lst []), .pv (.lst c4), .pv (.int .i64 c5), .pv (.lst c6), .pv (.lst c7), .pv (.lst []), .pv (.lst [])]] = some (vbool true) := eqWorld_to (ext := extF) _ h0
 have eq1 : callL Ph extF 108 [.agg [.pv (.int .i64 c0), .pv (.bool on), .pv (.int .i64 c2), .pv (.lst []), .pv (.lst c4), .pv (.int .i64 c5), .pv (.lst c6), .pv (.lst c7), .pv (.lst []), .pv (.lst [])], .agg [.pv (.int .i64 c0), .pv (.bool on), .pv (.int .i64 c2), .pv (.lst []), .pv (.lst c4), .pv (.int .i64 c5), .pv (.lst c6), .pv (.lst c7), .pv (.lst []), .pv (.lst [])]] = some (vbool true) := eqWorld_to (ext := extF) _ h1
 generalize ownL t_World [.int .i64 c0, .bool c1, .int .i64 c2, .lst [], .lst c4, .int .i64 c5, .lst c6, .lst c7, .lst [], .lst []] = OW at to0 hset hcl hth
 have hcg : V.closed (.agg [.pv (.int .i64 c0), .pv (.bool on), .pv (.int .i64 c2), .nil, .down 11 c4, .pv (.int .i64 c5), .down 4 c6, .down 3 c7, .nil, .nil]) = true := rfl
 have htg : ∀ h, thawZ h (.agg [.pv (.int .i64 c0), .pv (.bool on), .pv (.int .i64 c2), .nil, .down 11 c4, .pv (.int .i64 c5), .down 4 c6, .down 3 c7, .nil, .nil]) = (.agg [.pv (.int .i64 c0), .pv (.bool on), .pv (.int .i64 c2), .nil, .arr h.length, .pv (.int .i64 c5), .arr (h.length + 1), .arr (h.length + 2), .nil, .nil], h ++ [.zarr 11 c4, .zarr 4 c6, .zarr 3 c7]) := fun h => by simp [thawZ, thaw, thawL, AObj.zone]
 have cw := msL_cnt mText _ t_World 1 h0 (by decide)
 have cw1 := msL_cnt mText _ t_World 1 h1 (by decide)
 have mw := markWorld_to (ext := extF) _ h0 1 (by omega) (by unfold mkM; omega)
 have hd := heldWorld_to (ext := extF) _ h1 1 (by omega) (by unfold mkM; omega)
 have cw0 := msL_le mText [.int .i64 c0, .bool on, .int .i64 c2, .lst [], .lst c4, .int .i64 c5, .lst c6, .lst c7, .lst [], .lst []] 1
 have hk1 : (msL mText [.int .i64 c0, .bool on, .int .i64 c2, .lst [], .lst c4, .int .i64 c5, .lst c6, .lst c7, .lst [], .lst []] 1).2 ≤ mkM := by unfold mkM; omega
 have mg := mkW0 (on := on) h1 hk1
 simp only [t_World, dnL, ouL, msL, mkR] at mw cw0 hd mg
 simp only [List.map_cons, List.map_nil] at hd
 generalize mkR mText c4 1 = q4 at mw cw0 hd mg
 generalize mkR mText c6 q4.2 = q6 at mw cw0 hd mg
 generalize mkR mText c7 q6.2 = q7 at mw cw0 hd mg
 have hk : ¬ q7.2 < 0 := by omega
 clear cw cw1 h0 h1 hs0 hs1 hk1
 refine callL_fn (fn := f_laws_FnExactSetOnline) rfl ?_
 simp [f_laws_FnExactSetOnline, m0, n0, to0, hset, hcl, hth, eq0, eq1, e1, e2, hcg, htg, mw, mg, hd, hk]
theorem law_rest1 {c0 c2 c5 l0 : Int} {c1 on : Bool} {c4 c6 c7 c9 : List (List PV)} (h0 : HasL t_World [.int .i64 c0, .bool c1, .int .i64 c2, .lst [], .lst c4, .int .i64 c5, .lst c6, .lst c7, .lst [], .lst c9]) (hs0 : szL [.int .i64 c0, .bool c1, .int .i64 c2, .lst [], .lst c4, .int .i64 c5, .lst c6, .lst c7, .lst [], .lst c9] ≤ 1048576) (m0 : callL Ph extF 104 [.agg [.pv (.int .i64 c0), .pv (.bool c1), .pv (.int .i64 c2), .pv (.lst []), .pv (.lst c4), .pv (.int .i64 c5), .pv (.lst c6), .pv (.lst c7), .pv (.lst []), .pv (.lst c9)], vint .i64 1048576] = some (vint .i64 l0)) (n0 : ¬ l0 < 0)
 (e1 : callL Ph extF 424 [.agg [.pv (.int .i64 c0), .pv (.bool c1), .pv (.int .i64 c2), .pv (.lst []), .pv (.lst c4), .pv (.int .i64 c5), .pv (.lst c6), .pv (.lst c7), .pv (.lst []), .pv (.lst c9)], vbool on] = some (.agg [.pv (.int .i64 c0), .pv (.bool on), .pv (.int .i64 c2), .nil, .down 11 c4, .pv (.int .i64 c5), .down 4 c6, .down 3 c7, .nil, .down 5 c9])) (e2 : callL Ph extF 423 [.agg [.pv (.int .i64 c0), .pv (.bool c1), .pv (.int .i64 c2), .pv (.lst []), .pv (.lst c4), .pv (.int .i64 c5), .pv (.lst c6), .pv (.lst c7), .pv (.lst []), .pv (.lst c9)], vbool on] = some (.agg [.pv (.int .i64 c0), .pv (.bool on), .pv (.int .i64 c2), .nil, .down 11 c4, .pv (.int .i64 c5), .down 4 c6, .down 3 c7, .down 4 [], .down 5 c9])) : callL Ph extF 417 [.agg [.pv (.int .i64 c0), .pv (.bool c1), .pv (.int .i64 c2), .pv (.lst []), .pv (.lst c4), .pv (.int .i64 c5), .pv (.lst c6), .pv (.lst c7), .pv (.lst []), .pv (.lst c9)], vbool on] = some (vbool true) := by
 have h1 : HasL t_World [.int .i64 c0, .bool on, .int .i64 c2, .lst [], .lst c4, .int .i64 c5, .lst c6, .lst c7, .lst [], .lst c9] := by
  simp only [t_World, HasL] at h0 ⊢
  exact ⟨h0.1, (by trivial), h0.2.2⟩
 have hs1 : szL [.int .i64 c0, .bool on, .int .i64 c2, .lst [], .lst c4, .int .i64 c5, .lst c6, .lst c7, .lst [], .lst c9] ≤ 1048576 := by
  simp only [szL, sz] at hs0 ⊢
  omega
 have to0 : callL Ph extF 106 [.agg [.pv (.int .i64 c0), .pv (.bool c1), .pv (.int .i64 c2), .pv (.lst []), .pv (.lst c4), .pv (.int .i64 c5), .pv (.lst c6), .pv (.lst c7), .pv (.lst []), .pv (.lst c9)]] = some (.agg (ownL t_World [.int .i64 c0, .bool c1, .int .i64 c2, .lst [], .lst c4, .int .i64 c5, .lst c6, .lst c7, .lst [], .lst c9])) := toWorld_to (ext := extF) _ h0 hs0
 have hset : (ownL t_World [.int .i64 c0, .bool c1, .int .i64 c2, .lst [], .lst c4, .int .i64 c5, .lst c6, .lst c7, .lst [], .lst c9]).map setL = [.pv (.int .i64 c0), .pv (.bool c1), .pv (.int .i64 c2), .pv (.lst []), .pv (.lst c4), .pv (.int .i64 c5), .pv (.lst c6), .pv (.lst c7), .pv (.lst []), .pv (.lst c9)] := own_set h0
 have hcl : V.closed (.agg (ownL t_World [.int .i64 c0, .bool c1, .int .i64 c2, .lst [], .lst c4, .int .i64 c5, .lst c6, .lst c7, .lst [], .lst c9])) = true := ownL_closed h0
 have hth : thawZ [.box [.pv (.int .i64 c0), .pv (.bool c1), .pv (.int .i64 c2), .pv (.lst []), .pv (.lst c4), .pv (.int .i64 c5), .pv (.lst c6), .pv (.lst c7), .pv (.lst []), .pv (.lst c9)], .box [.pv (.int .i64 c0), .pv (.bool on), .pv (.int .i64 c2), .nil, .pv (.lst c4), .pv (.int .i64 c5), .pv (.lst c6), .pv (.lst c7), .pv (.lst []), .pv (.lst c9)]] (.agg (ownL t_World [.int .i64 c0, .bool c1, .int .i64 c2, .lst [], .lst c4, .int .i64 c5, .lst c6, .lst c7, .lst [], .lst c9])) = (.agg [.pv (.int .i64 c0), .pv (.bool c1), .pv (.int .i64 c2), .arr 2, .arr 3, .pv (.int .i64 c5), .arr 4, .arr 5, .arr 6, .arr 7], [.box [.pv (.int .i64 c0), .pv (.bool c1), .pv (.int .i64 c2), .pv (.lst []), .pv (.lst c4), .pv (.int .i64 c5), .pv (.lst c6), .pv (.lst c7), .pv (.lst []), .pv (.lst c9)], .box [.pv (.int .i64 c0), .pv (.bool on), .pv (.int .i64 c2), .nil, .pv (.lst c4), .pv (.int .i64 c5), .pv (.lst c6), .pv (.lst c7), .pv (.lst []), .pv (.lst c9)], .zarr t_BucketS.length [], .zarr t_PageS.length c4, .zarr t_LockS.length c6, .zarr t_MailS.length c7, .zarr t_SiteS.length [], .zarr t_ServerS.length c9]) := own_thawZ h0 _
 have eq0 : callL Ph extF 108 [.agg [.pv (.int .i64 c0), .pv (.bool c1), .pv (.int .i64 c2), .pv (.lst []), .pv (.lst c4), .pv (.int .i64 c5), .pv (.lst c6), .pv (.lst c7), .pv (.lst []), .pv (.lst c9)], .agg [.pv (.int .i64 c0), .pv (.bool c1), .pv (.int .i64 c2), .pv (.lst []), .pv (.lst c4), .pv (.int .i64 c5), .pv (.lst c6), .pv (.lst c7), .pv (.lst []), .pv (.lst c9)]] = some (vbool true) := eqWorld_to (ext := extF) _ h0
 have eq1 : callL Ph extF 108 [.agg [.pv (.int .i64 c0), .pv (.bool on), .pv (.int .i64 c2), .pv (.lst []), .pv (.lst c4), .pv (.int .i64 c5), .pv (.lst c6), .pv (.lst c7), .pv (.lst []), .pv (.lst c9)], .agg [.pv (.int .i64 c0), .pv (.bool on), .pv (.int .i64 c2), .pv (.lst []), .pv (.lst c4), .pv (.int .i64 c5), .pv (.lst c6), .pv (.lst c7), .pv (.lst []), .pv (.lst c9)]] = some (vbool true) := eqWorld_to (ext := extF) _ h1
 generalize ownL t_World [.int .i64 c0, .bool c1, .int .i64 c2, .lst [], .lst c4, .int .i64 c5, .lst c6, .lst c7, .lst [], .lst c9] = OW at to0 hset hcl hth
 have hcg : V.closed (.agg [.pv (.int .i64 c0), .pv (.bool on), .pv (.int .i64 c2), .nil, .down 11 c4, .pv (.int .i64 c5), .down 4 c6, .down 3 c7, .nil, .down 5 c9]) = true := rfl
 have htg : ∀ h, thawZ h (.agg [.pv (.int .i64 c0), .pv (.bool on), .pv (.int .i64 c2), .nil, .down 11 c4, .pv (.int .i64 c5), .down 4 c6, .down 3 c7, .nil, .down 5 c9]) = (.agg [.pv (.int .i64 c0), .pv (.bool on), .pv (.int .i64 c2), .nil, .arr h.length, .pv (.int .i64 c5), .arr (h.length + 1), .arr (h.length + 2), .nil, .arr (h.length + 3)], h ++ [.zarr 11 c4, .zarr 4 c6, .zarr 3 c7, .zarr 5 c9]) := fun h => by simp [thawZ, thaw, thawL, AObj.zone]
 have cw := msL_cnt mText _ t_World 1 h0 (by decide)
 have cw1 := msL_cnt mText _ t_World 1 h1 (by decide)
 have mw := markWorld_to (ext := extF) _ h0 1 (by omega) (by unfold mkM; omega)
 have hd := heldWorld_to (ext := extF) _ h1 1 (by omega) (by unfold mkM; omega)
 have cw0 := msL_le mText [.int .i64 c0, .bool on, .int .i64 c2, .lst [], .lst c4, .int .i64 c5, .lst c6, .lst c7, .lst [], .lst c9] 1
 have hk1 : (msL mText [.int .i64 c0, .bool on, .int .i64 c2, .lst [], .lst c4, .int .i64 c5, .lst c6, .lst c7, .lst [], .lst c9] 1).2 ≤ mkM := by unfold mkM; omega
 have mg := mkW1 (on := on) h1 hk1
 simp only [t_World, dnL, ouL, msL, mkR] at mw cw0 hd mg
 simp only [List.map_cons, List.map_nil] at hd
 generalize mkR mText c4 1 = q4 at mw cw0 hd mg
 generalize mkR mText c6 q4.2 = q6 at mw cw0 hd mg
 generalize mkR mText c7 q6.2 = q7 at mw cw0 hd mg
 generalize mkR mText c9 q7.2 = q9 at mw cw0 hd mg
 have hk : ¬ q9.2 < 0 := by omega
 clear cw cw1 h0 h1 hs0 hs1 hk1
 refine callL_fn (fn := f_laws_FnExactSetOnline) rfl ?_
 simp [f_laws_FnExactSetOnline, m0, n0, to0, hset, hcl, hth, eq0, eq1, e1, e2, hcg, htg, mw, mg, hd, hk]
theorem law_rest2 {c0 c2 c5 l0 : Int} {c1 on : Bool} {c4 c6 c7 c8 : List (List PV)} (h0 : HasL t_World [.int .i64 c0, .bool c1, .int .i64 c2, .lst [], .lst c4, .int .i64 c5, .lst c6, .lst c7, .lst c8, .lst []]) (hs0 : szL [.int .i64 c0, .bool c1, .int .i64 c2, .lst [], .lst c4, .int .i64 c5, .lst c6, .lst c7, .lst c8, .lst []] ≤ 1048576) (m0 : callL Ph extF 104 [.agg [.pv (.int .i64 c0), .pv (.bool c1), .pv (.int .i64 c2), .pv (.lst []), .pv (.lst c4), .pv (.int .i64 c5), .pv (.lst c6), .pv (.lst c7), .pv (.lst c8), .pv (.lst [])], vint .i64 1048576] = some (vint .i64 l0)) (n0 : ¬ l0 < 0)
 (e1 : callL Ph extF 424 [.agg [.pv (.int .i64 c0), .pv (.bool c1), .pv (.int .i64 c2), .pv (.lst []), .pv (.lst c4), .pv (.int .i64 c5), .pv (.lst c6), .pv (.lst c7), .pv (.lst c8), .pv (.lst [])], vbool on] = some (.agg [.pv (.int .i64 c0), .pv (.bool on), .pv (.int .i64 c2), .nil, .down 11 c4, .pv (.int .i64 c5), .down 4 c6, .down 3 c7, .down 4 c8, .nil])) (e2 : callL Ph extF 423 [.agg [.pv (.int .i64 c0), .pv (.bool c1), .pv (.int .i64 c2), .pv (.lst []), .pv (.lst c4), .pv (.int .i64 c5), .pv (.lst c6), .pv (.lst c7), .pv (.lst c8), .pv (.lst [])], vbool on] = some (.agg [.pv (.int .i64 c0), .pv (.bool on), .pv (.int .i64 c2), .nil, .down 11 c4, .pv (.int .i64 c5), .down 4 c6, .down 3 c7, .down 4 c8, .down 5 []])) : callL Ph extF 417 [.agg [.pv (.int .i64 c0), .pv (.bool c1), .pv (.int .i64 c2), .pv (.lst []), .pv (.lst c4), .pv (.int .i64 c5), .pv (.lst c6), .pv (.lst c7), .pv (.lst c8), .pv (.lst [])], vbool on] = some (vbool true) := by
 have h1 : HasL t_World [.int .i64 c0, .bool on, .int .i64 c2, .lst [], .lst c4, .int .i64 c5, .lst c6, .lst c7, .lst c8, .lst []] := by
  simp only [t_World, HasL] at h0 ⊢
  exact ⟨h0.1, (by trivial), h0.2.2⟩
 have hs1 : szL [.int .i64 c0, .bool on, .int .i64 c2, .lst [], .lst c4, .int .i64 c5, .lst c6, .lst c7, .lst c8, .lst []] ≤ 1048576 := by
  simp only [szL, sz] at hs0 ⊢
  omega
 have to0 : callL Ph extF 106 [.agg [.pv (.int .i64 c0), .pv (.bool c1), .pv (.int .i64 c2), .pv (.lst []), .pv (.lst c4), .pv (.int .i64 c5), .pv (.lst c6), .pv (.lst c7), .pv (.lst c8), .pv (.lst [])]] = some (.agg (ownL t_World [.int .i64 c0, .bool c1, .int .i64 c2, .lst [], .lst c4, .int .i64 c5, .lst c6, .lst c7, .lst c8, .lst []])) := toWorld_to (ext := extF) _ h0 hs0
 have hset : (ownL t_World [.int .i64 c0, .bool c1, .int .i64 c2, .lst [], .lst c4, .int .i64 c5, .lst c6, .lst c7, .lst c8, .lst []]).map setL = [.pv (.int .i64 c0), .pv (.bool c1), .pv (.int .i64 c2), .pv (.lst []), .pv (.lst c4), .pv (.int .i64 c5), .pv (.lst c6), .pv (.lst c7), .pv (.lst c8), .pv (.lst [])] := own_set h0
 have hcl : V.closed (.agg (ownL t_World [.int .i64 c0, .bool c1, .int .i64 c2, .lst [], .lst c4, .int .i64 c5, .lst c6, .lst c7, .lst c8, .lst []])) = true := ownL_closed h0
 have hth : thawZ [.box [.pv (.int .i64 c0), .pv (.bool c1), .pv (.int .i64 c2), .pv (.lst []), .pv (.lst c4), .pv (.int .i64 c5), .pv (.lst c6), .pv (.lst c7), .pv (.lst c8), .pv (.lst [])], .box [.pv (.int .i64 c0), .pv (.bool on), .pv (.int .i64 c2), .nil, .pv (.lst c4), .pv (.int .i64 c5), .pv (.lst c6), .pv (.lst c7), .pv (.lst c8), .pv (.lst [])]] (.agg (ownL t_World [.int .i64 c0, .bool c1, .int .i64 c2, .lst [], .lst c4, .int .i64 c5, .lst c6, .lst c7, .lst c8, .lst []])) = (.agg [.pv (.int .i64 c0), .pv (.bool c1), .pv (.int .i64 c2), .arr 2, .arr 3, .pv (.int .i64 c5), .arr 4, .arr 5, .arr 6, .arr 7], [.box [.pv (.int .i64 c0), .pv (.bool c1), .pv (.int .i64 c2), .pv (.lst []), .pv (.lst c4), .pv (.int .i64 c5), .pv (.lst c6), .pv (.lst c7), .pv (.lst c8), .pv (.lst [])], .box [.pv (.int .i64 c0), .pv (.bool on), .pv (.int .i64 c2), .nil, .pv (.lst c4), .pv (.int .i64 c5), .pv (.lst c6), .pv (.lst c7), .pv (.lst c8), .pv (.lst [])], .zarr t_BucketS.length [], .zarr t_PageS.length c4, .zarr t_LockS.length c6, .zarr t_MailS.length c7, .zarr t_SiteS.length c8, .zarr t_ServerS.length []]) := own_thawZ h0 _
 have eq0 : callL Ph extF 108 [.agg [.pv (.int .i64 c0), .pv (.bool c1), .pv (.int .i64 c2), .pv (.lst []), .pv (.lst c4), .pv (.int .i64 c5), .pv (.lst c6), .pv (.lst c7), .pv (.lst c8), .pv (.lst [])], .agg [.pv (.int .i64 c0), .pv (.bool c1), .pv (.int .i64 c2), .pv (.lst []), .pv (.lst c4), .pv (.int .i64 c5), .pv (.lst c6), .pv (.lst c7), .pv (.lst c8), .pv (.lst [])]] = some (vbool true) := eqWorld_to (ext := extF) _ h0
 have eq1 : callL Ph extF 108 [.agg [.pv (.int .i64 c0), .pv (.bool on), .pv (.int .i64 c2), .pv (.lst []), .pv (.lst c4), .pv (.int .i64 c5), .pv (.lst c6), .pv (.lst c7), .pv (.lst c8), .pv (.lst [])], .agg [.pv (.int .i64 c0), .pv (.bool on), .pv (.int .i64 c2), .pv (.lst []), .pv (.lst c4), .pv (.int .i64 c5), .pv (.lst c6), .pv (.lst c7), .pv (.lst c8), .pv (.lst [])]] = some (vbool true) := eqWorld_to (ext := extF) _ h1
 generalize ownL t_World [.int .i64 c0, .bool c1, .int .i64 c2, .lst [], .lst c4, .int .i64 c5, .lst c6, .lst c7, .lst c8, .lst []] = OW at to0 hset hcl hth
 have hcg : V.closed (.agg [.pv (.int .i64 c0), .pv (.bool on), .pv (.int .i64 c2), .nil, .down 11 c4, .pv (.int .i64 c5), .down 4 c6, .down 3 c7, .down 4 c8, .nil]) = true := rfl
 have htg : ∀ h, thawZ h (.agg [.pv (.int .i64 c0), .pv (.bool on), .pv (.int .i64 c2), .nil, .down 11 c4, .pv (.int .i64 c5), .down 4 c6, .down 3 c7, .down 4 c8, .nil]) = (.agg [.pv (.int .i64 c0), .pv (.bool on), .pv (.int .i64 c2), .nil, .arr h.length, .pv (.int .i64 c5), .arr (h.length + 1), .arr (h.length + 2), .arr (h.length + 3), .nil], h ++ [.zarr 11 c4, .zarr 4 c6, .zarr 3 c7, .zarr 4 c8]) := fun h => by simp [thawZ, thaw, thawL, AObj.zone]
 have cw := msL_cnt mText _ t_World 1 h0 (by decide)
 have cw1 := msL_cnt mText _ t_World 1 h1 (by decide)
 have mw := markWorld_to (ext := extF) _ h0 1 (by omega) (by unfold mkM; omega)
 have hd := heldWorld_to (ext := extF) _ h1 1 (by omega) (by unfold mkM; omega)
 have cw0 := msL_le mText [.int .i64 c0, .bool on, .int .i64 c2, .lst [], .lst c4, .int .i64 c5, .lst c6, .lst c7, .lst c8, .lst []] 1
 have hk1 : (msL mText [.int .i64 c0, .bool on, .int .i64 c2, .lst [], .lst c4, .int .i64 c5, .lst c6, .lst c7, .lst c8, .lst []] 1).2 ≤ mkM := by unfold mkM; omega
 have mg := mkW2 (on := on) h1 hk1
 simp only [t_World, dnL, ouL, msL, mkR] at mw cw0 hd mg
 simp only [List.map_cons, List.map_nil] at hd
 generalize mkR mText c4 1 = q4 at mw cw0 hd mg
 generalize mkR mText c6 q4.2 = q6 at mw cw0 hd mg
 generalize mkR mText c7 q6.2 = q7 at mw cw0 hd mg
 generalize mkR mText c8 q7.2 = q8 at mw cw0 hd mg
 have hk : ¬ q8.2 < 0 := by omega
 clear cw cw1 h0 h1 hs0 hs1 hk1
 refine callL_fn (fn := f_laws_FnExactSetOnline) rfl ?_
 simp [f_laws_FnExactSetOnline, m0, n0, to0, hset, hcl, hth, eq0, eq1, e1, e2, hcg, htg, mw, mg, hd, hk]
theorem law_rest3 {c0 c2 c5 l0 : Int} {c1 on : Bool} {c4 c6 c7 c8 c9 : List (List PV)} (h0 : HasL t_World [.int .i64 c0, .bool c1, .int .i64 c2, .lst [], .lst c4, .int .i64 c5, .lst c6, .lst c7, .lst c8, .lst c9]) (hs0 : szL [.int .i64 c0, .bool c1, .int .i64 c2, .lst [], .lst c4, .int .i64 c5, .lst c6, .lst c7, .lst c8, .lst c9] ≤ 1048576) (m0 : callL Ph extF 104 [.agg [.pv (.int .i64 c0), .pv (.bool c1), .pv (.int .i64 c2), .pv (.lst []), .pv (.lst c4), .pv (.int .i64 c5), .pv (.lst c6), .pv (.lst c7), .pv (.lst c8), .pv (.lst c9)], vint .i64 1048576] = some (vint .i64 l0)) (n0 : ¬ l0 < 0)
 (e1 : callL Ph extF 424 [.agg [.pv (.int .i64 c0), .pv (.bool c1), .pv (.int .i64 c2), .pv (.lst []), .pv (.lst c4), .pv (.int .i64 c5), .pv (.lst c6), .pv (.lst c7), .pv (.lst c8), .pv (.lst c9)], vbool on] = some (.agg [.pv (.int .i64 c0), .pv (.bool on), .pv (.int .i64 c2), .nil, .down 11 c4, .pv (.int .i64 c5), .down 4 c6, .down 3 c7, .down 4 c8, .down 5 c9])) (e2 : callL Ph extF 423 [.agg [.pv (.int .i64 c0), .pv (.bool c1), .pv (.int .i64 c2), .pv (.lst []), .pv (.lst c4), .pv (.int .i64 c5), .pv (.lst c6), .pv (.lst c7), .pv (.lst c8), .pv (.lst c9)], vbool on] = some (.agg [.pv (.int .i64 c0), .pv (.bool on), .pv (.int .i64 c2), .nil, .down 11 c4, .pv (.int .i64 c5), .down 4 c6, .down 3 c7, .down 4 c8, .down 5 c9])) : callL Ph extF 417 [.agg [.pv (.int .i64 c0), .pv (.bool c1), .pv (.int .i64 c2), .pv (.lst []), .pv (.lst c4), .pv (.int .i64 c5), .pv (.lst c6), .pv (.lst c7), .pv (.lst c8), .pv (.lst c9)], vbool on] = some (vbool true) := by
 have h1 : HasL t_World [.int .i64 c0, .bool on, .int .i64 c2, .lst [], .lst c4, .int .i64 c5, .lst c6, .lst c7, .lst c8, .lst c9] := by
  simp only [t_World, HasL] at h0 ⊢
  exact ⟨h0.1, (by trivial), h0.2.2⟩
 have hs1 : szL [.int .i64 c0, .bool on, .int .i64 c2, .lst [], .lst c4, .int .i64 c5, .lst c6, .lst c7, .lst c8, .lst c9] ≤ 1048576 := by
  simp only [szL, sz] at hs0 ⊢
  omega
 have to0 : callL Ph extF 106 [.agg [.pv (.int .i64 c0), .pv (.bool c1), .pv (.int .i64 c2), .pv (.lst []), .pv (.lst c4), .pv (.int .i64 c5), .pv (.lst c6), .pv (.lst c7), .pv (.lst c8), .pv (.lst c9)]] = some (.agg (ownL t_World [.int .i64 c0, .bool c1, .int .i64 c2, .lst [], .lst c4, .int .i64 c5, .lst c6, .lst c7, .lst c8, .lst c9])) := toWorld_to (ext := extF) _ h0 hs0
 have hset : (ownL t_World [.int .i64 c0, .bool c1, .int .i64 c2, .lst [], .lst c4, .int .i64 c5, .lst c6, .lst c7, .lst c8, .lst c9]).map setL = [.pv (.int .i64 c0), .pv (.bool c1), .pv (.int .i64 c2), .pv (.lst []), .pv (.lst c4), .pv (.int .i64 c5), .pv (.lst c6), .pv (.lst c7), .pv (.lst c8), .pv (.lst c9)] := own_set h0
 have hcl : V.closed (.agg (ownL t_World [.int .i64 c0, .bool c1, .int .i64 c2, .lst [], .lst c4, .int .i64 c5, .lst c6, .lst c7, .lst c8, .lst c9])) = true := ownL_closed h0
 have hth : thawZ [.box [.pv (.int .i64 c0), .pv (.bool c1), .pv (.int .i64 c2), .pv (.lst []), .pv (.lst c4), .pv (.int .i64 c5), .pv (.lst c6), .pv (.lst c7), .pv (.lst c8), .pv (.lst c9)], .box [.pv (.int .i64 c0), .pv (.bool on), .pv (.int .i64 c2), .nil, .pv (.lst c4), .pv (.int .i64 c5), .pv (.lst c6), .pv (.lst c7), .pv (.lst c8), .pv (.lst c9)]] (.agg (ownL t_World [.int .i64 c0, .bool c1, .int .i64 c2, .lst [], .lst c4, .int .i64 c5, .lst c6, .lst c7, .lst c8, .lst c9])) = (.agg [.pv (.int .i64 c0), .pv (.bool c1), .pv (.int .i64 c2), .arr 2, .arr 3, .pv (.int .i64 c5), .arr 4, .arr 5, .arr 6, .arr 7], [.box [.pv (.int .i64 c0), .pv (.bool c1), .pv (.int .i64 c2), .pv (.lst []), .pv (.lst c4), .pv (.int .i64 c5), .pv (.lst c6), .pv (.lst c7), .pv (.lst c8), .pv (.lst c9)], .box [.pv (.int .i64 c0), .pv (.bool on), .pv (.int .i64 c2), .nil, .pv (.lst c4), .pv (.int .i64 c5), .pv (.lst c6), .pv (.lst c7), .pv (.lst c8), .pv (.lst c9)], .zarr t_BucketS.length [], .zarr t_PageS.length c4, .zarr t_LockS.length c6, .zarr t_MailS.length c7, .zarr t_SiteS.length c8, .zarr t_ServerS.length c9]) := own_thawZ h0 _
 have eq0 : callL Ph extF 108 [.agg [.pv (.int .i64 c0), .pv (.bool c1), .pv (.int .i64 c2), .pv (.lst []), .pv (.lst c4), .pv (.int .i64 c5), .pv (.lst c6), .pv (.lst c7), .pv (.lst c8), .pv (.lst c9)], .agg [.pv (.int .i64 c0), .pv (.bool c1), .pv (.int .i64 c2), .pv (.lst []), .pv (.lst c4), .pv (.int .i64 c5), .pv (.lst c6), .pv (.lst c7), .pv (.lst c8), .pv (.lst c9)]] = some (vbool true) := eqWorld_to (ext := extF) _ h0
 have eq1 : callL Ph extF 108 [.agg [.pv (.int .i64 c0), .pv (.bool on), .pv (.int .i64 c2), .pv (.lst []), .pv (.lst c4), .pv (.int .i64 c5), .pv (.lst c6), .pv (.lst c7), .pv (.lst c8), .pv (.lst c9)], .agg [.pv (.int .i64 c0), .pv (.bool on), .pv (.int .i64 c2), .pv (.lst []), .pv (.lst c4), .pv (.int .i64 c5), .pv (.lst c6), .pv (.lst c7), .pv (.lst c8), .pv (.lst c9)]] = some (vbool true) := eqWorld_to (ext := extF) _ h1
 generalize ownL t_World [.int .i64 c0, .bool c1, .int .i64 c2, .lst [], .lst c4, .int .i64 c5, .lst c6, .lst c7, .lst c8, .lst c9] = OW at to0 hset hcl hth
 have hcg : V.closed (.agg [.pv (.int .i64 c0), .pv (.bool on), .pv (.int .i64 c2), .nil, .down 11 c4, .pv (.int .i64 c5), .down 4 c6, .down 3 c7, .down 4 c8, .down 5 c9]) = true := rfl
 have htg : ∀ h, thawZ h (.agg [.pv (.int .i64 c0), .pv (.bool on), .pv (.int .i64 c2), .nil, .down 11 c4, .pv (.int .i64 c5), .down 4 c6, .down 3 c7, .down 4 c8, .down 5 c9]) = (.agg [.pv (.int .i64 c0), .pv (.bool on), .pv (.int .i64 c2), .nil, .arr h.length, .pv (.int .i64 c5), .arr (h.length + 1), .arr (h.length + 2), .arr (h.length + 3), .arr (h.length + 4)], h ++ [.zarr 11 c4, .zarr 4 c6, .zarr 3 c7, .zarr 4 c8, .zarr 5 c9]) := fun h => by simp [thawZ, thaw, thawL, AObj.zone]
 have cw := msL_cnt mText _ t_World 1 h0 (by decide)
 have cw1 := msL_cnt mText _ t_World 1 h1 (by decide)
 have mw := markWorld_to (ext := extF) _ h0 1 (by omega) (by unfold mkM; omega)
 have hd := heldWorld_to (ext := extF) _ h1 1 (by omega) (by unfold mkM; omega)
 have cw0 := msL_le mText [.int .i64 c0, .bool on, .int .i64 c2, .lst [], .lst c4, .int .i64 c5, .lst c6, .lst c7, .lst c8, .lst c9] 1
 have hk1 : (msL mText [.int .i64 c0, .bool on, .int .i64 c2, .lst [], .lst c4, .int .i64 c5, .lst c6, .lst c7, .lst c8, .lst c9] 1).2 ≤ mkM := by unfold mkM; omega
 have mg := mkW3 (on := on) h1 hk1
 simp only [t_World, dnL, ouL, msL, mkR] at mw cw0 hd mg
 simp only [List.map_cons, List.map_nil] at hd
 generalize mkR mText c4 1 = q4 at mw cw0 hd mg
 generalize mkR mText c6 q4.2 = q6 at mw cw0 hd mg
 generalize mkR mText c7 q6.2 = q7 at mw cw0 hd mg
 generalize mkR mText c8 q7.2 = q8 at mw cw0 hd mg
 generalize mkR mText c9 q8.2 = q9 at mw cw0 hd mg
 have hk : ¬ q9.2 < 0 := by omega
 clear cw cw1 h0 h1 hs0 hs1 hk1
 refine callL_fn (fn := f_laws_FnExactSetOnline) rfl ?_
 simp [f_laws_FnExactSetOnline, m0, n0, to0, hset, hcl, hth, eq0, eq1, e1, e2, hcg, htg, mw, mg, hd, hk]
theorem law_rest4 {c0 c2 c5 l0 : Int} {c1 on : Bool} {c3 c4 c6 c7 : List (List PV)} (h0 : HasL t_World [.int .i64 c0, .bool c1, .int .i64 c2, .lst c3, .lst c4, .int .i64 c5, .lst c6, .lst c7, .lst [], .lst []]) (hs0 : szL [.int .i64 c0, .bool c1, .int .i64 c2, .lst c3, .lst c4, .int .i64 c5, .lst c6, .lst c7, .lst [], .lst []] ≤ 1048576) (m0 : callL Ph extF 104 [.agg [.pv (.int .i64 c0), .pv (.bool c1), .pv (.int .i64 c2), .pv (.lst c3), .pv (.lst c4), .pv (.int .i64 c5), .pv (.lst c6), .pv (.lst c7), .pv (.lst []), .pv (.lst [])], vint .i64 1048576] = some (vint .i64 l0)) (n0 : ¬ l0 < 0)
 (e1 : callL Ph extF 424 [.agg [.pv (.int .i64 c0), .pv (.bool c1), .pv (.int .i64 c2), .pv (.lst c3), .pv (.lst c4), .pv (.int .i64 c5), .pv (.lst c6), .pv (.lst c7), .pv (.lst []), .pv (.lst [])], vbool on] = some (.agg [.pv (.int .i64 c0), .pv (.bool on), .pv (.int .i64 c2), .down 24 c3, .down 11 c4, .pv (.int .i64 c5), .down 4 c6, .down 3 c7, .nil, .nil])) (e2 : callL Ph extF 423 [.agg [.pv (.int .i64 c0), .pv (.bool c1), .pv (.int .i64 c2), .pv (.lst c3), .pv (.lst c4), .pv (.int .i64 c5), .pv (.lst c6), .pv (.lst c7), .pv (.lst []), .pv (.lst [])], vbool on] = some (.agg [.pv (.int .i64 c0), .pv (.bool on), .pv (.int .i64 c2), .down 24 c3, .down 11 c4, .pv (.int .i64 c5), .down 4 c6, .down 3 c7, .down 4 [], .down 5 []])) : callL Ph extF 417 [.agg [.pv (.int .i64 c0), .pv (.bool c1), .pv (.int .i64 c2), .pv (.lst c3), .pv (.lst c4), .pv (.int .i64 c5), .pv (.lst c6), .pv (.lst c7), .pv (.lst []), .pv (.lst [])], vbool on] = some (vbool true) := by
 have h1 : HasL t_World [.int .i64 c0, .bool on, .int .i64 c2, .lst c3, .lst c4, .int .i64 c5, .lst c6, .lst c7, .lst [], .lst []] := by
  simp only [t_World, HasL] at h0 ⊢
  exact ⟨h0.1, (by trivial), h0.2.2⟩
 have hs1 : szL [.int .i64 c0, .bool on, .int .i64 c2, .lst c3, .lst c4, .int .i64 c5, .lst c6, .lst c7, .lst [], .lst []] ≤ 1048576 := by
  simp only [szL, sz] at hs0 ⊢
  omega
 have to0 : callL Ph extF 106 [.agg [.pv (.int .i64 c0), .pv (.bool c1), .pv (.int .i64 c2), .pv (.lst c3), .pv (.lst c4), .pv (.int .i64 c5), .pv (.lst c6), .pv (.lst c7), .pv (.lst []), .pv (.lst [])]] = some (.agg (ownL t_World [.int .i64 c0, .bool c1, .int .i64 c2, .lst c3, .lst c4, .int .i64 c5, .lst c6, .lst c7, .lst [], .lst []])) := toWorld_to (ext := extF) _ h0 hs0
 have hset : (ownL t_World [.int .i64 c0, .bool c1, .int .i64 c2, .lst c3, .lst c4, .int .i64 c5, .lst c6, .lst c7, .lst [], .lst []]).map setL = [.pv (.int .i64 c0), .pv (.bool c1), .pv (.int .i64 c2), .pv (.lst c3), .pv (.lst c4), .pv (.int .i64 c5), .pv (.lst c6), .pv (.lst c7), .pv (.lst []), .pv (.lst [])] := own_set h0
 have hcl : V.closed (.agg (ownL t_World [.int .i64 c0, .bool c1, .int .i64 c2, .lst c3, .lst c4, .int .i64 c5, .lst c6, .lst c7, .lst [], .lst []])) = true := ownL_closed h0
 have hth : thawZ [.box [.pv (.int .i64 c0), .pv (.bool c1), .pv (.int .i64 c2), .pv (.lst c3), .pv (.lst c4), .pv (.int .i64 c5), .pv (.lst c6), .pv (.lst c7), .pv (.lst []), .pv (.lst [])], .box [.pv (.int .i64 c0), .pv (.bool on), .pv (.int .i64 c2), .pv (.lst c3), .pv (.lst c4), .pv (.int .i64 c5), .pv (.lst c6), .pv (.lst c7), .pv (.lst []), .pv (.lst [])]] (.agg (ownL t_World [.int .i64 c0, .bool c1, .int .i64 c2, .lst c3, .lst c4, .int .i64 c5, .lst c6, .lst c7, .lst [], .lst []])) = (.agg [.pv (.int .i64 c0), .pv (.bool c1), .pv (.int .i64 c2), .arr 2, .arr 3, .pv (.int .i64 c5), .arr 4, .arr 5, .arr 6, .arr 7], [.box [.pv (.int .i64 c0), .pv (.bool c1), .pv (.int .i64 c2), .pv (.lst c3), .pv (.lst c4), .pv (.int .i64 c5), .pv (.lst c6), .pv (.lst c7), .pv (.lst []), .pv (.lst [])], .box [.pv (.int .i64 c0), .pv (.bool on), .pv (.int .i64 c2), .pv (.lst c3), .pv (.lst c4), .pv (.int .i64 c5), .pv (.lst c6), .pv (.lst c7), .pv (.lst []), .pv (.lst [])], .zarr t_BucketS.length c3, .zarr t_PageS.length c4, .zarr t_LockS.length c6, .zarr t_MailS.length c7, .zarr t_SiteS.length [], .zarr t_ServerS.length []]) := own_thawZ h0 _
 have eq0 : callL Ph extF 108 [.agg [.pv (.int .i64 c0), .pv (.bool c1), .pv (.int .i64 c2), .pv (.lst c3), .pv (.lst c4), .pv (.int .i64 c5), .pv (.lst c6), .pv (.lst c7), .pv (.lst []), .pv (.lst [])], .agg [.pv (.int .i64 c0), .pv (.bool c1), .pv (.int .i64 c2), .pv (.lst c3), .pv (.lst c4), .pv (.int .i64 c5), .pv (.lst c6), .pv (.lst c7), .pv (.lst []), .pv (.lst [])]] = some (vbool true) := eqWorld_to (ext := extF) _ h0
 have eq1 : callL Ph extF 108 [.agg [.pv (.int .i64 c0), .pv (.bool on), .pv (.int .i64 c2), .pv (.lst c3), .pv (.lst c4), .pv (.int .i64 c5), .pv (.lst c6), .pv (.lst c7), .pv (.lst []), .pv (.lst [])], .agg [.pv (.int .i64 c0), .pv (.bool on), .pv (.int .i64 c2), .pv (.lst c3), .pv (.lst c4), .pv (.int .i64 c5), .pv (.lst c6), .pv (.lst c7), .pv (.lst []), .pv (.lst [])]] = some (vbool true) := eqWorld_to (ext := extF) _ h1
 generalize ownL t_World [.int .i64 c0, .bool c1, .int .i64 c2, .lst c3, .lst c4, .int .i64 c5, .lst c6, .lst c7, .lst [], .lst []] = OW at to0 hset hcl hth
 have hcg : V.closed (.agg [.pv (.int .i64 c0), .pv (.bool on), .pv (.int .i64 c2), .down 24 c3, .down 11 c4, .pv (.int .i64 c5), .down 4 c6, .down 3 c7, .nil, .nil]) = true := rfl
 have htg : ∀ h, thawZ h (.agg [.pv (.int .i64 c0), .pv (.bool on), .pv (.int .i64 c2), .down 24 c3, .down 11 c4, .pv (.int .i64 c5), .down 4 c6, .down 3 c7, .nil, .nil]) = (.agg [.pv (.int .i64 c0), .pv (.bool on), .pv (.int .i64 c2), .arr h.length, .arr (h.length + 1), .pv (.int .i64 c5), .arr (h.length + 2), .arr (h.length + 3), .nil, .nil], h ++ [.zarr 24 c3, .zarr 11 c4, .zarr 4 c6, .zarr 3 c7]) := fun h => by simp [thawZ, thaw, thawL, AObj.zone]
 have cw := msL_cnt mText _ t_World 1 h0 (by decide)
 have cw1 := msL_cnt mText _ t_World 1 h1 (by decide)
 have mw := markWorld_to (ext := extF) _ h0 1 (by omega) (by unfold mkM; omega)
 have hd := heldWorld_to (ext := extF) _ h1 1 (by omega) (by unfold mkM; omega)
 have cw0 := msL_le mText [.int .i64 c0, .bool on, .int .i64 c2, .lst c3, .lst c4, .int .i64 c5, .lst c6, .lst c7, .lst [], .lst []] 1
 have hk1 : (msL mText [.int .i64 c0, .bool on, .int .i64 c2, .lst c3, .lst c4, .int .i64 c5, .lst c6, .lst c7, .lst [], .lst []] 1).2 ≤ mkM := by unfold mkM; omega
 have mg := mkW4 (on := on) h1 hk1
 simp only [t_World, dnL, ouL, msL, mkR] at mw cw0 hd mg
 simp only [List.map_cons, List.map_nil] at hd
 generalize mkR mText c3 1 = q3 at mw cw0 hd mg
 generalize mkR mText c4 q3.2 = q4 at mw cw0 hd mg
 generalize mkR mText c6 q4.2 = q6 at mw cw0 hd mg
 generalize mkR mText c7 q6.2 = q7 at mw cw0 hd mg
 have hk : ¬ q7.2 < 0 := by omega
 clear cw cw1 h0 h1 hs0 hs1 hk1
 refine callL_fn (fn := f_laws_FnExactSetOnline) rfl ?_
 simp [f_laws_FnExactSetOnline, m0, n0, to0, hset, hcl, hth, eq0, eq1, e1, e2, hcg, htg, mw, mg, hd, hk]
theorem law_rest5 {c0 c2 c5 l0 : Int} {c1 on : Bool} {c3 c4 c6 c7 c9 : List (List PV)} (h0 : HasL t_World [.int .i64 c0, .bool c1, .int .i64 c2, .lst c3, .lst c4, .int .i64 c5, .lst c6, .lst c7, .lst [], .lst c9]) (hs0 : szL [.int .i64 c0, .bool c1, .int .i64 c2, .lst c3, .lst c4, .int .i64 c5, .lst c6, .lst c7, .lst [], .lst c9] ≤ 1048576) (m0 : callL Ph extF 104 [.agg [.pv (.int .i64 c0), .pv (.bool c1), .pv (.int .i64 c2), .pv (.lst c3), .pv (.lst c4), .pv (.int .i64 c5), .pv (.lst c6), .pv (.lst c7), .pv (.lst []), .pv (.lst c9)], vint .i64 1048576] = some (vint .i64 l0)) (n0 : ¬ l0 < 0)
 (e1 : callL Ph extF 424 [.agg [.pv (.int .i64 c0), .pv (.bool c1), .pv (.int .i64 c2), .pv (.lst c3), .pv (.lst c4), .pv (.int .i64 c5), .pv (.lst c6), .pv (.lst c7), .pv (.lst []), .pv (.lst c9)], vbool on] = some (.agg [.pv (.int .i64 c0), .pv (.bool on), .pv (.int .i64 c2), .down 24 c3, .down 11 c4, .pv (.int .i64 c5), .down 4 c6, .down 3 c7, .nil, .down 5 c9])) (e2 : callL Ph extF 423 [.agg [.pv (.int .i64 c0), .pv (.bool c1), .pv (.int .i64 c2), .pv (.lst c3), .pv (.lst c4), .pv (.int .i64 c5), .pv (.lst c6), .pv (.lst c7), .pv (.lst []), .pv (.lst c9)], vbool on] = some (.agg [.pv (.int .i64 c0), .pv (.bool on), .pv (.int .i64 c2), .down 24 c3, .down 11 c4, .pv (.int .i64 c5), .down 4 c6, .down 3 c7, .down 4 [], .down 5 c9])) : callL Ph extF 417 [.agg [.pv (.int .i64 c0), .pv (.bool c1), .pv (.int .i64 c2), .pv (.lst c3), .pv (.lst c4), .pv (.int .i64 c5), .pv (.lst c6), .pv (.lst c7), .pv (.lst []), .pv (.lst c9)], vbool on] = some (vbool true) := by
 have h1 : HasL t_World [.int .i64 c0, .bool on, .int .i64 c2, .lst c3, .lst c4, .int .i64 c5, .lst c6, .lst c7, .lst [], .lst c9] := by
  simp only [t_World, HasL] at h0 ⊢
  exact ⟨h0.1, (by trivial), h0.2.2⟩
 have hs1 : szL [.int .i64 c0, .bool on, .int .i64 c2, .lst c3, .lst c4, .int .i64 c5, .lst c6, .lst c7, .lst [], .lst c9] ≤ 1048576 := by
  simp only [szL, sz] at hs0 ⊢
  omega
 have to0 : callL Ph extF 106 [.agg [.pv (.int .i64 c0), .pv (.bool c1), .pv (.int .i64 c2), .pv (.lst c3), .pv (.lst c4), .pv (.int .i64 c5), .pv (.lst c6), .pv (.lst c7), .pv (.lst []), .pv (.lst c9)]] = some (.agg (ownL t_World [.int .i64 c0, .bool c1, .int .i64 c2, .lst c3, .lst c4, .int .i64 c5, .lst c6, .lst c7, .lst [], .lst c9])) := toWorld_to (ext := extF) _ h0 hs0
 have hset : (ownL t_World [.int .i64 c0, .bool c1, .int .i64 c2, .lst c3, .lst c4, .int .i64 c5, .lst c6, .lst c7, .lst [], .lst c9]).map setL = [.pv (.int .i64 c0), .pv (.bool c1), .pv (.int .i64 c2), .pv (.lst c3), .pv (.lst c4), .pv (.int .i64 c5), .pv (.lst c6), .pv (.lst c7), .pv (.lst []), .pv (.lst c9)] := own_set h0
 have hcl : V.closed (.agg (ownL t_World [.int .i64 c0, .bool c1, .int .i64 c2, .lst c3, .lst c4, .int .i64 c5, .lst c6, .lst c7, .lst [], .lst c9])) = true := ownL_closed h0
 have hth : thawZ [.box [.pv (.int .i64 c0), .pv (.bool c1), .pv (.int .i64 c2), .pv (.lst c3), .pv (.lst c4), .pv (.int .i64 c5), .pv (.lst c6), .pv (.lst c7), .pv (.lst []), .pv (.lst c9)], .box [.pv (.int .i64 c0), .pv (.bool on), .pv (.int .i64 c2), .pv (.lst c3), .pv (.lst c4), .pv (.int .i64 c5), .pv (.lst c6), .pv (.lst c7), .pv (.lst []), .pv (.lst c9)]] (.agg (ownL t_World [.int .i64 c0, .bool c1, .int .i64 c2, .lst c3, .lst c4, .int .i64 c5, .lst c6, .lst c7, .lst [], .lst c9])) = (.agg [.pv (.int .i64 c0), .pv (.bool c1), .pv (.int .i64 c2), .arr 2, .arr 3, .pv (.int .i64 c5), .arr 4, .arr 5, .arr 6, .arr 7], [.box [.pv (.int .i64 c0), .pv (.bool c1), .pv (.int .i64 c2), .pv (.lst c3), .pv (.lst c4), .pv (.int .i64 c5), .pv (.lst c6), .pv (.lst c7), .pv (.lst []), .pv (.lst c9)], .box [.pv (.int .i64 c0), .pv (.bool on), .pv (.int .i64 c2), .pv (.lst c3), .pv (.lst c4), .pv (.int .i64 c5), .pv (.lst c6), .pv (.lst c7), .pv (.lst []), .pv (.lst c9)], .zarr t_BucketS.length c3, .zarr t_PageS.length c4, .zarr t_LockS.length c6, .zarr t_MailS.length c7, .zarr t_SiteS.length [], .zarr t_ServerS.length c9]) := own_thawZ h0 _
 have eq0 : callL Ph extF 108 [.agg [.pv (.int .i64 c0), .pv (.bool c1), .pv (.int .i64 c2), .pv (.lst c3), .pv (.lst c4), .pv (.int .i64 c5), .pv (.lst c6), .pv (.lst c7), .pv (.lst []), .pv (.lst c9)], .agg [.pv (.int .i64 c0), .pv (.bool c1), .pv (.int .i64 c2), .pv (.lst c3), .pv (.lst c4), .pv (.int .i64 c5), .pv (.lst c6), .pv (.lst c7), .pv (.lst []), .pv (.lst c9)]] = some (vbool true) := eqWorld_to (ext := extF) _ h0
 have eq1 : callL Ph extF 108 [.agg [.pv (.int .i64 c0), .pv (.bool on), .pv (.int .i64 c2), .pv (.lst c3), .pv (.lst c4), .pv (.int .i64 c5), .pv (.lst c6), .pv (.lst c7), .pv (.lst []), .pv (.lst c9)], .agg [.pv (.int .i64 c0), .pv (.bool on), .pv (.int .i64 c2), .pv (.lst c3), .pv (.lst c4), .pv (.int .i64 c5), .pv (.lst c6), .pv (.lst c7), .pv (.lst []), .pv (.lst c9)]] = some (vbool true) := eqWorld_to (ext := extF) _ h1
 generalize ownL t_World [.int .i64 c0, .bool c1, .int .i64 c2, .lst c3, .lst c4, .int .i64 c5, .lst c6, .lst c7, .lst [], .lst c9] = OW at to0 hset hcl hth
 have hcg : V.closed (.agg [.pv (.int .i64 c0), .pv (.bool on), .pv (.int .i64 c2), .down 24 c3, .down 11 c4, .pv (.int .i64 c5), .down 4 c6, .down 3 c7, .nil, .down 5 c9]) = true := rfl
 have htg : ∀ h, thawZ h (.agg [.pv (.int .i64 c0), .pv (.bool on), .pv (.int .i64 c2), .down 24 c3, .down 11 c4, .pv (.int .i64 c5), .down 4 c6, .down 3 c7, .nil, .down 5 c9]) = (.agg [.pv (.int .i64 c0), .pv (.bool on), .pv (.int .i64 c2), .arr h.length, .arr (h.length + 1), .pv (.int .i64 c5), .arr (h.length + 2), .arr (h.length + 3), .nil, .arr (h.length + 4)], h ++ [.zarr 24 c3, .zarr 11 c4, .zarr 4 c6, .zarr 3 c7, .zarr 5 c9]) := fun h => by simp [thawZ, thaw, thawL, AObj.zone]
 have cw := msL_cnt mText _ t_World 1 h0 (by decide)
 have cw1 := msL_cnt mText _ t_World 1 h1 (by decide)
 have mw := markWorld_to (ext := extF) _ h0 1 (by omega) (by unfold mkM; omega)
 have hd := heldWorld_to (ext := extF) _ h1 1 (by omega) (by unfold mkM; omega)
 have cw0 := msL_le mText [.int .i64 c0, .bool on, .int .i64 c2, .lst c3, .lst c4, .int .i64 c5, .lst c6, .lst c7, .lst [], .lst c9] 1
 have hk1 : (msL mText [.int .i64 c0, .bool on, .int .i64 c2, .lst c3, .lst c4, .int .i64 c5, .lst c6, .lst c7, .lst [], .lst c9] 1).2 ≤ mkM := by unfold mkM; omega
 have mg := mkW5 (on := on) h1 hk1
 simp only [t_World, dnL, ouL, msL, mkR] at mw cw0 hd mg
 simp only [List.map_cons, List.map_nil] at hd
 generalize mkR mText c3 1 = q3 at mw cw0 hd mg
 generalize mkR mText c4 q3.2 = q4 at mw cw0 hd mg
 generalize mkR mText c6 q4.2 = q6 at mw cw0 hd mg
 generalize mkR mText c7 q6.2 = q7 at mw cw0 hd mg
 generalize mkR mText c9 q7.2 = q9 at mw cw0 hd mg
 have hk : ¬ q9.2 < 0 := by omega
 clear cw cw1 h0 h1 hs0 hs1 hk1
 refine callL_fn (fn := f_laws_FnExactSetOnline) rfl ?_
 simp [f_laws_FnExactSetOnline, m0, n0, to0, hset, hcl, hth, eq0, eq1, e1, e2, hcg, htg, mw, mg, hd, hk]
theorem law_rest6 {c0 c2 c5 l0 : Int} {c1 on : Bool} {c3 c4 c6 c7 c8 : List (List PV)} (h0 : HasL t_World [.int .i64 c0, .bool c1, .int .i64 c2, .lst c3, .lst c4, .int .i64 c5, .lst c6, .lst c7, .lst c8, .lst []]) (hs0 : szL [.int .i64 c0, .bool c1, .int .i64 c2, .lst c3, .lst c4, .int .i64 c5, .lst c6, .lst c7, .lst c8, .lst []] ≤ 1048576) (m0 : callL Ph extF 104 [.agg [.pv (.int .i64 c0), .pv (.bool c1), .pv (.int .i64 c2), .pv (.lst c3), .pv (.lst c4), .pv (.int .i64 c5), .pv (.lst c6), .pv (.lst c7), .pv (.lst c8), .pv (.lst [])], vint .i64 1048576] = some (vint .i64 l0)) (n0 : ¬ l0 < 0)
 (e1 : callL Ph extF 424 [.agg [.pv (.int .i64 c0), .pv (.bool c1), .pv (.int .i64 c2), .pv (.lst c3), .pv (.lst c4), .pv (.int .i64 c5), .pv (.lst c6), .pv (.lst c7), .pv (.lst c8), .pv (.lst [])], vbool on] = some (.agg [.pv (.int .i64 c0), .pv (.bool on), .pv (.int .i64 c2), .down 24 c3, .down 11 c4, .pv (.int .i64 c5), .down 4 c6, .down 3 c7, .down 4 c8, .nil])) (e2 : callL Ph extF 423 [.agg [.pv (.int .i64 c0), .pv (.bool c1), .pv (.int .i64 c2), .pv (.lst c3), .pv (.lst c4), .pv (.int .i64 c5), .pv (.lst c6), .pv (.lst c7), .pv (.lst c8), .pv (.lst [])], vbool on] = some (.agg [.pv (.int .i64 c0), .pv (.bool on), .pv (.int .i64 c2), .down 24 c3, .down 11 c4, .pv (.int .i64 c5), .down 4 c6, .down 3 c7, .down 4 c8, .down 5 []])) : callL Ph extF 417 [.agg [.pv (.int .i64 c0), .pv (.bool c1), .pv (.int .i64 c2), .pv (.lst c3), .pv (.lst c4), .pv (.int .i64 c5), .pv (.lst c6), .pv (.lst c7), .pv (.lst c8), .pv (.lst [])], vbool on] = some (vbool true) := by
 have h1 : HasL t_World [.int .i64 c0, .bool on, .int .i64 c2, .lst c3, .lst c4, .int .i64 c5, .lst c6, .lst c7, .lst c8, .lst []] := by
  simp only [t_World, HasL] at h0 ⊢
  exact ⟨h0.1, (by trivial), h0.2.2⟩
 have hs1 : szL [.int .i64 c0, .bool on, .int .i64 c2, .lst c3, .lst c4, .int .i64 c5, .lst c6, .lst c7, .lst c8, .lst []] ≤ 1048576 := by
  simp only [szL, sz] at hs0 ⊢
  omega
 have to0 : callL Ph extF 106 [.agg [.pv (.int .i64 c0), .pv (.bool c1), .pv (.int .i64 c2), .pv (.lst c3), .pv (.lst c4), .pv (.int .i64 c5), .pv (.lst c6), .pv (.lst c7), .pv (.lst c8), .pv (.lst [])]] = some (.agg (ownL t_World [.int .i64 c0, .bool c1, .int .i64 c2, .lst c3, .lst c4, .int .i64 c5, .lst c6, .lst c7, .lst c8, .lst []])) := toWorld_to (ext := extF) _ h0 hs0
 have hset : (ownL t_World [.int .i64 c0, .bool c1, .int .i64 c2, .lst c3, .lst c4, .int .i64 c5, .lst c6, .lst c7, .lst c8, .lst []]).map setL = [.pv (.int .i64 c0), .pv (.bool c1), .pv (.int .i64 c2), .pv (.lst c3), .pv (.lst c4), .pv (.int .i64 c5), .pv (.lst c6), .pv (.lst c7), .pv (.lst c8), .pv (.lst [])] := own_set h0
 have hcl : V.closed (.agg (ownL t_World [.int .i64 c0, .bool c1, .int .i64 c2, .lst c3, .lst c4, .int .i64 c5, .lst c6, .lst c7, .lst c8, .lst []])) = true := ownL_closed h0
 have hth : thawZ [.box [.pv (.int .i64 c0), .pv (.bool c1), .pv (.int .i64 c2), .pv (.lst c3), .pv (.lst c4), .pv (.int .i64 c5), .pv (.lst c6), .pv (.lst c7), .pv (.lst c8), .pv (.lst [])], .box [.pv (.int .i64 c0), .pv (.bool on), .pv (.int .i64 c2), .pv (.lst c3), .pv (.lst c4), .pv (.int .i64 c5), .pv (.lst c6), .pv (.lst c7), .pv (.lst c8), .pv (.lst [])]] (.agg (ownL t_World [.int .i64 c0, .bool c1, .int .i64 c2, .lst c3, .lst c4, .int .i64 c5, .lst c6, .lst c7, .lst c8, .lst []])) = (.agg [.pv (.int .i64 c0), .pv (.bool c1), .pv (.int .i64 c2), .arr 2, .arr 3, .pv (.int .i64 c5), .arr 4, .arr 5, .arr 6, .arr 7], [.box [.pv (.int .i64 c0), .pv (.bool c1), .pv (.int .i64 c2), .pv (.lst c3), .pv (.lst c4), .pv (.int .i64 c5), .pv (.lst c6), .pv (.lst c7), .pv (.lst c8), .pv (.lst [])], .box [.pv (.int .i64 c0), .pv (.bool on), .pv (.int .i64 c2), .pv (.lst c3), .pv (.lst c4), .pv (.int .i64 c5), .pv (.lst c6), .pv (.lst c7), .pv (.lst c8), .pv (.lst [])], .zarr t_BucketS.length c3, .zarr t_PageS.length c4, .zarr t_LockS.length c6, .zarr t_MailS.length c7, .zarr t_SiteS.length c8, .zarr t_ServerS.length []]) := own_thawZ h0 _
 have eq0 : callL Ph extF 108 [.agg [.pv (.int .i64 c0), .pv (.bool c1), .pv (.int .i64 c2), .pv (.lst c3), .pv (.lst c4), .pv (.int .i64 c5), .pv (.lst c6), .pv (.lst c7), .pv (.lst c8), .pv (.lst [])], .agg [.pv (.int .i64 c0), .pv (.bool c1), .pv (.int .i64 c2), .pv (.lst c3), .pv (.lst c4), .pv (.int .i64 c5), .pv (.lst c6), .pv (.lst c7), .pv (.lst c8), .pv (.lst [])]] = some (vbool true) := eqWorld_to (ext := extF) _ h0
 have eq1 : callL Ph extF 108 [.agg [.pv (.int .i64 c0), .pv (.bool on), .pv (.int .i64 c2), .pv (.lst c3), .pv (.lst c4), .pv (.int .i64 c5), .pv (.lst c6), .pv (.lst c7), .pv (.lst c8), .pv (.lst [])], .agg [.pv (.int .i64 c0), .pv (.bool on), .pv (.int .i64 c2), .pv (.lst c3), .pv (.lst c4), .pv (.int .i64 c5), .pv (.lst c6), .pv (.lst c7), .pv (.lst c8), .pv (.lst [])]] = some (vbool true) := eqWorld_to (ext := extF) _ h1
 generalize ownL t_World [.int .i64 c0, .bool c1, .int .i64 c2, .lst c3, .lst c4, .int .i64 c5, .lst c6, .lst c7, .lst c8, .lst []] = OW at to0 hset hcl hth
 have hcg : V.closed (.agg [.pv (.int .i64 c0), .pv (.bool on), .pv (.int .i64 c2), .down 24 c3, .down 11 c4, .pv (.int .i64 c5), .down 4 c6, .down 3 c7, .down 4 c8, .nil]) = true := rfl
 have htg : ∀ h, thawZ h (.agg [.pv (.int .i64 c0), .pv (.bool on), .pv (.int .i64 c2), .down 24 c3, .down 11 c4, .pv (.int .i64 c5), .down 4 c6, .down 3 c7, .down 4 c8, .nil]) = (.agg [.pv (.int .i64 c0), .pv (.bool on), .pv (.int .i64 c2), .arr h.length, .arr (h.length + 1), .pv (.int .i64 c5), .arr (h.length + 2), .arr (h.length + 3), .arr (h.length + 4), .nil], h ++ [.zarr 24 c3, .zarr 11 c4, .zarr 4 c6, .zarr 3 c7, .zarr 4 c8]) := fun h => by simp [thawZ, thaw, thawL, AObj.zone]
 have cw := msL_cnt mText _ t_World 1 h0 (by decide)
 have cw1 := msL_cnt mText _ t_World 1 h1 (by decide)
 have mw := markWorld_to (ext := extF) _ h0 1 (by omega) (by unfold mkM; omega)
 have hd := heldWorld_to (ext := extF) _ h1 1 (by omega) (by unfold mkM; omega)
 have cw0 := msL_le mText [.int .i64 c0, .bool on, .int .i64 c2, .lst c3, .lst c4, .int .i64 c5, .lst c6, .lst c7, .lst c8, .lst []] 1
 have hk1 : (msL mText [.int .i64 c0, .bool on, .int .i64 c2, .lst c3, .lst c4, .int .i64 c5, .lst c6, .lst c7, .lst c8, .lst []] 1).2 ≤ mkM := by unfold mkM; omega
 have mg := mkW6 (on := on) h1 hk1
 simp only [t_World, dnL, ouL, msL, mkR] at mw cw0 hd mg
 simp only [List.map_cons, List.map_nil] at hd
 generalize mkR mText c3 1 = q3 at mw cw0 hd mg
 generalize mkR mText c4 q3.2 = q4 at mw cw0 hd mg
 generalize mkR mText c6 q4.2 = q6 at mw cw0 hd mg
 generalize mkR mText c7 q6.2 = q7 at mw cw0 hd mg
 generalize mkR mText c8 q7.2 = q8 at mw cw0 hd mg
 have hk : ¬ q8.2 < 0 := by omega
 clear cw cw1 h0 h1 hs0 hs1 hk1
 refine callL_fn (fn := f_laws_FnExactSetOnline) rfl ?_
 simp [f_laws_FnExactSetOnline, m0, n0, to0, hset, hcl, hth, eq0, eq1, e1, e2, hcg, htg, mw, mg, hd, hk]
theorem law_rest7 {c0 c2 c5 l0 : Int} {c1 on : Bool} {c3 c4 c6 c7 c8 c9 : List (List PV)} (h0 : HasL t_World [.int .i64 c0, .bool c1, .int .i64 c2, .lst c3, .lst c4, .int .i64 c5, .lst c6, .lst c7, .lst c8, .lst c9]) (hs0 : szL [.int .i64 c0, .bool c1, .int .i64 c2, .lst c3, .lst c4, .int .i64 c5, .lst c6, .lst c7, .lst c8, .lst c9] ≤ 1048576) (m0 : callL Ph extF 104 [.agg [.pv (.int .i64 c0), .pv (.bool c1), .pv (.int .i64 c2), .pv (.lst c3), .pv (.lst c4), .pv (.int .i64 c5), .pv (.lst c6), .pv (.lst c7), .pv (.lst c8), .pv (.lst c9)], vint .i64 1048576] = some (vint .i64 l0)) (n0 : ¬ l0 < 0)
 (e1 : callL Ph extF 424 [.agg [.pv (.int .i64 c0), .pv (.bool c1), .pv (.int .i64 c2), .pv (.lst c3), .pv (.lst c4), .pv (.int .i64 c5), .pv (.lst c6), .pv (.lst c7), .pv (.lst c8), .pv (.lst c9)], vbool on] = some (.agg [.pv (.int .i64 c0), .pv (.bool on), .pv (.int .i64 c2), .down 24 c3, .down 11 c4, .pv (.int .i64 c5), .down 4 c6, .down 3 c7, .down 4 c8, .down 5 c9])) (e2 : callL Ph extF 423 [.agg [.pv (.int .i64 c0), .pv (.bool c1), .pv (.int .i64 c2), .pv (.lst c3), .pv (.lst c4), .pv (.int .i64 c5), .pv (.lst c6), .pv (.lst c7), .pv (.lst c8), .pv (.lst c9)], vbool on] = some (.agg [.pv (.int .i64 c0), .pv (.bool on), .pv (.int .i64 c2), .down 24 c3, .down 11 c4, .pv (.int .i64 c5), .down 4 c6, .down 3 c7, .down 4 c8, .down 5 c9])) : callL Ph extF 417 [.agg [.pv (.int .i64 c0), .pv (.bool c1), .pv (.int .i64 c2), .pv (.lst c3), .pv (.lst c4), .pv (.int .i64 c5), .pv (.lst c6), .pv (.lst c7), .pv (.lst c8), .pv (.lst c9)], vbool on] = some (vbool true) := by
 have h1 : HasL t_World [.int .i64 c0, .bool on, .int .i64 c2, .lst c3, .lst c4, .int .i64 c5, .lst c6, .lst c7, .lst c8, .lst c9] := by
  simp only [t_World, HasL] at h0 ⊢
  exact ⟨h0.1, (by trivial), h0.2.2⟩
 have hs1 : szL [.int .i64 c0, .bool on, .int .i64 c2, .lst c3, .lst c4, .int .i64 c5, .lst c6, .lst c7, .lst c8, .lst c9] ≤ 1048576 := by
  simp only [szL, sz] at hs0 ⊢
  omega
 have to0 : callL Ph extF 106 [.agg [.pv (.int .i64 c0), .pv (.bool c1), .pv (.int .i64 c2), .pv (.lst c3), .pv (.lst c4), .pv (.int .i64 c5), .pv (.lst c6), .pv (.lst c7), .pv (.lst c8), .pv (.lst c9)]] = some (.agg (ownL t_World [.int .i64 c0, .bool c1, .int .i64 c2, .lst c3, .lst c4, .int .i64 c5, .lst c6, .lst c7, .lst c8, .lst c9])) := toWorld_to (ext := extF) _ h0 hs0
 have hset : (ownL t_World [.int .i64 c0, .bool c1, .int .i64 c2, .lst c3, .lst c4, .int .i64 c5, .lst c6, .lst c7, .lst c8, .lst c9]).map setL = [.pv (.int .i64 c0), .pv (.bool c1), .pv (.int .i64 c2), .pv (.lst c3), .pv (.lst c4), .pv (.int .i64 c5), .pv (.lst c6), .pv (.lst c7), .pv (.lst c8), .pv (.lst c9)] := own_set h0
 have hcl : V.closed (.agg (ownL t_World [.int .i64 c0, .bool c1, .int .i64 c2, .lst c3, .lst c4, .int .i64 c5, .lst c6, .lst c7, .lst c8, .lst c9])) = true := ownL_closed h0
 have hth : thawZ [.box [.pv (.int .i64 c0), .pv (.bool c1), .pv (.int .i64 c2), .pv (.lst c3), .pv (.lst c4), .pv (.int .i64 c5), .pv (.lst c6), .pv (.lst c7), .pv (.lst c8), .pv (.lst c9)], .box [.pv (.int .i64 c0), .pv (.bool on), .pv (.int .i64 c2), .pv (.lst c3), .pv (.lst c4), .pv (.int .i64 c5), .pv (.lst c6), .pv (.lst c7), .pv (.lst c8), .pv (.lst c9)]] (.agg (ownL t_World [.int .i64 c0, .bool c1, .int .i64 c2, .lst c3, .lst c4, .int .i64 c5, .lst c6, .lst c7, .lst c8, .lst c9])) = (.agg [.pv (.int .i64 c0), .pv (.bool c1), .pv (.int .i64 c2), .arr 2, .arr 3, .pv (.int .i64 c5), .arr 4, .arr 5, .arr 6, .arr 7], [.box [.pv (.int .i64 c0), .pv (.bool c1), .pv (.int .i64 c2), .pv (.lst c3), .pv (.lst c4), .pv (.int .i64 c5), .pv (.lst c6), .pv (.lst c7), .pv (.lst c8), .pv (.lst c9)], .box [.pv (.int .i64 c0), .pv (.bool on), .pv (.int .i64 c2), .pv (.lst c3), .pv (.lst c4), .pv (.int .i64 c5), .pv (.lst c6), .pv (.lst c7), .pv (.lst c8), .pv (.lst c9)], .zarr t_BucketS.length c3, .zarr t_PageS.length c4, .zarr t_LockS.length c6, .zarr t_MailS.length c7, .zarr t_SiteS.length c8, .zarr t_ServerS.length c9]) := own_thawZ h0 _
 have eq0 : callL Ph extF 108 [.agg [.pv (.int .i64 c0), .pv (.bool c1), .pv (.int .i64 c2), .pv (.lst c3), .pv (.lst c4), .pv (.int .i64 c5), .pv (.lst c6), .pv (.lst c7), .pv (.lst c8), .pv (.lst c9)], .agg [.pv (.int .i64 c0), .pv (.bool c1), .pv (.int .i64 c2), .pv (.lst c3), .pv (.lst c4), .pv (.int .i64 c5), .pv (.lst c6), .pv (.lst c7), .pv (.lst c8), .pv (.lst c9)]] = some (vbool true) := eqWorld_to (ext := extF) _ h0
 have eq1 : callL Ph extF 108 [.agg [.pv (.int .i64 c0), .pv (.bool on), .pv (.int .i64 c2), .pv (.lst c3), .pv (.lst c4), .pv (.int .i64 c5), .pv (.lst c6), .pv (.lst c7), .pv (.lst c8), .pv (.lst c9)], .agg [.pv (.int .i64 c0), .pv (.bool on), .pv (.int .i64 c2), .pv (.lst c3), .pv (.lst c4), .pv (.int .i64 c5), .pv (.lst c6), .pv (.lst c7), .pv (.lst c8), .pv (.lst c9)]] = some (vbool true) := eqWorld_to (ext := extF) _ h1
 generalize ownL t_World [.int .i64 c0, .bool c1, .int .i64 c2, .lst c3, .lst c4, .int .i64 c5, .lst c6, .lst c7, .lst c8, .lst c9] = OW at to0 hset hcl hth
 have hcg : V.closed (.agg [.pv (.int .i64 c0), .pv (.bool on), .pv (.int .i64 c2), .down 24 c3, .down 11 c4, .pv (.int .i64 c5), .down 4 c6, .down 3 c7, .down 4 c8, .down 5 c9]) = true := rfl
 have htg : ∀ h, thawZ h (.agg [.pv (.int .i64 c0), .pv (.bool on), .pv (.int .i64 c2), .down 24 c3, .down 11 c4, .pv (.int .i64 c5), .down 4 c6, .down 3 c7, .down 4 c8, .down 5 c9]) = (.agg [.pv (.int .i64 c0), .pv (.bool on), .pv (.int .i64 c2), .arr h.length, .arr (h.length + 1), .pv (.int .i64 c5), .arr (h.length + 2), .arr (h.length + 3), .arr (h.length + 4), .arr (h.length + 5)], h ++ [.zarr 24 c3, .zarr 11 c4, .zarr 4 c6, .zarr 3 c7, .zarr 4 c8, .zarr 5 c9]) := fun h => by simp [thawZ, thaw, thawL, AObj.zone]
 have cw := msL_cnt mText _ t_World 1 h0 (by decide)
 have cw1 := msL_cnt mText _ t_World 1 h1 (by decide)
 have mw := markWorld_to (ext := extF) _ h0 1 (by omega) (by unfold mkM; omega)
 have hd := heldWorld_to (ext := extF) _ h1 1 (by omega) (by unfold mkM; omega)
 have cw0 := msL_le mText [.int .i64 c0, .bool on, .int .i64 c2, .lst c3, .lst c4, .int .i64 c5, .lst c6, .lst c7, .lst c8, .lst c9] 1
 have hk1 : (msL mText [.int .i64 c0, .bool on, .int .i64 c2, .lst c3, .lst c4, .int .i64 c5, .lst c6, .lst c7, .lst c8, .lst c9] 1).2 ≤ mkM := by unfold mkM; omega
 have mg := mkW7 (on := on) h1 hk1
 simp only [t_World, dnL, ouL, msL, mkR] at mw cw0 hd mg
 simp only [List.map_cons, List.map_nil] at hd
 generalize mkR mText c3 1 = q3 at mw cw0 hd mg
 generalize mkR mText c4 q3.2 = q4 at mw cw0 hd mg
 generalize mkR mText c6 q4.2 = q6 at mw cw0 hd mg
 generalize mkR mText c7 q6.2 = q7 at mw cw0 hd mg
 generalize mkR mText c8 q7.2 = q8 at mw cw0 hd mg
 generalize mkR mText c9 q8.2 = q9 at mw cw0 hd mg
 have hk : ¬ q9.2 < 0 := by omega
 clear cw cw1 h0 h1 hs0 hs1 hk1
 refine callL_fn (fn := f_laws_FnExactSetOnline) rfl ?_
 simp [f_laws_FnExactSetOnline, m0, n0, to0, hset, hcl, hth, eq0, eq1, e1, e2, hcg, htg, mw, mg, hd, hk]
theorem law_SetOnline {r0 : List PV} {on : Bool} (h0 : HasL t_World r0) (h1 : Has .bool (.bool on)) : callL Ph extF 417 [.agg (r0.map .pv), vbool on] = some (vbool true) := by
 have hL := h0
 obtain ⟨p0, r1, rfl, g0, k1⟩ := HasL_cons h0
 obtain ⟨p1, r2, rfl, g1, k2⟩ := HasL_cons k1
 obtain ⟨p2, r3, rfl, g2, k3⟩ := HasL_cons k2
 obtain ⟨p3, r4, rfl, g3, k4⟩ := HasL_cons k3
 obtain ⟨p4, r5, rfl, g4, k5⟩ := HasL_cons k4
 obtain ⟨p5, r6, rfl, g5, k6⟩ := HasL_cons k5
 obtain ⟨p6, r7, rfl, g6, k7⟩ := HasL_cons k6
 obtain ⟨p7, r8, rfl, g7, k8⟩ := HasL_cons k7
 obtain ⟨p8, r9, rfl, g8, k9⟩ := HasL_cons k8
 obtain ⟨p9, r10, rfl, g9, k10⟩ := HasL_cons k9
 obtain rfl := HasL_nil k10
 obtain ⟨c0, rfl⟩ := Has_int g0
 obtain ⟨c1, rfl⟩ := Has_bool g1
 obtain ⟨c2, rfl⟩ := Has_int g2
 obtain ⟨c3, rfl⟩ := Has_lst g3
 obtain ⟨c4, rfl⟩ := Has_lst g4
 obtain ⟨c5, rfl⟩ := Has_int g5
 obtain ⟨c6, rfl⟩ := Has_lst g6
 obtain ⟨c7, rfl⟩ := Has_lst g7
 obtain ⟨c8, rfl⟩ := Has_lst g8
 obtain ⟨c9, rfl⟩ := Has_lst g9
 show callL Ph extF 417 [.agg [.pv (.int .i64 c0), .pv (.bool c1), .pv (.int .i64 c2), .pv (.lst c3), .pv (.lst c4), .pv (.int .i64 c5), .pv (.lst c6), .pv (.lst c7), .pv (.lst c8), .pv (.lst c9)], vbool on] = _
 have m0 : callL Ph extF 104 [.agg [.pv (.int .i64 c0), .pv (.bool c1), .pv (.int .i64 c2), .pv (.lst c3), .pv (.lst c4), .pv (.int .i64 c5), .pv (.lst c6), .pv (.lst c7), .pv (.lst c8), .pv (.lst c9)], vint .i64 1048576] = some (vint .i64 (less 1048576 (szL [.int .i64 c0, .bool c1, .int .i64 c2, .lst c3, .lst c4, .int .i64 c5, .lst c6, .lst c7, .lst c8, .lst c9]))) := szWorld_to (ext := extF) _ hL 1048576 (by omega) (by omega)
 generalize q0 : less 1048576 (szL [.int .i64 c0, .bool c1, .int .i64 c2, .lst c3, .lst c4, .int .i64 c5, .lst c6, .lst c7, .lst c8, .lst c9]) = l0 at m0
 by_cases n0 : l0 < 0
 ·refine callL_fn (fn := f_laws_FnExactSetOnline) rfl ?_
  simp [f_laws_FnExactSetOnline, m0, n0]
 obtain ⟨le0, hz0⟩ := less_pos (by omega) q0 n0
 have hs0 : szL [.int .i64 c0, .bool c1, .int .i64 c2, .lst c3, .lst c4, .int .i64 c5, .lst c6, .lst c7, .lst c8, .lst c9] ≤ 1048576 := by omega
 clear q0 le0 hz0 k1 k2 k3 k4 k5 k6 k7 k8 k9 k10 g0 g1 g2 g3 g4 g5 g6 g7 g8 g9
 obtain ⟨x, hx, hok⟩ := XWorld.of _ hL hs0
 have e1 := impl_SetOnline_ok (on := on) (Nat.le_refl _) hok
 have e2 := spec_SetOnline_ok (on := on) (Nat.le_refl _) hok
 clear hok
 simp only [XWorld.e, List.cons.injEq, PV.int.injEq, PV.bool.injEq, PV.lst.injEq, true_and, and_true] at hx
 obtain ⟨x0, x1, x2, x3, x4, x5, x6, x7, x8, x9⟩ := hx
 rw [← x0, ← x1, ← x2, ← x3, ← x4, ← x5, ← x6, ← x7, ← x8, ← x9] at e1 e2
 clear x0 x1 x2 x3 x4 x5 x6 x7 x8 x9
 rcases nd_or 24 c3 with ⟨q3, u3⟩ | ⟨-, u3⟩
 ·rw [u3] at e1 e2
  subst q3
  rcases nd_or 4 c8 with ⟨q8, u8⟩ | ⟨-, u8⟩
  ·rw [u8] at e1
   subst q8
   rcases nd_or 5 c9 with ⟨q9, u9⟩ | ⟨-, u9⟩
   ·rw [u9] at e1
    subst q9
    exact law_rest0 hL hs0 m0 n0 e1 e2
   ·rw [u9] at e1
    exact law_rest1 hL hs0 m0 n0 e1 e2
  ·rw [u8] at e1
   rcases nd_or 5 c9 with ⟨q9, u9⟩ | ⟨-, u9⟩
   ·rw [u9] at e1
    subst q9
    exact law_rest2 hL hs0 m0 n0 e1 e2
   ·rw [u9] at e1
    exact law_rest3 hL hs0 m0 n0 e1 e2
 ·rw [u3] at e1 e2
  rcases nd_or 4 c8 with ⟨q8, u8⟩ | ⟨-, u8⟩
  ·rw [u8] at e1
   subst q8
   rcases nd_or 5 c9 with ⟨q9, u9⟩ | ⟨-, u9⟩
   ·rw [u9] at e1
    subst q9
    exact law_rest4 hL hs0 m0 n0 e1 e2
   ·rw [u9] at e1
    exact law_rest5 hL hs0 m0 n0 e1 e2
  ·rw [u8] at e1
   rcases nd_or 5 c9 with ⟨q9, u9⟩ | ⟨-, u9⟩
   ·rw [u9] at e1
    subst q9
    exact law_rest6 hL hs0 m0 n0 e1 e2
   ·rw [u9] at e1
    exact law_rest7 hL hs0 m0 n0 e1 e2
end Gi
