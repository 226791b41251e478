/- OthersOf: the law. -/
import Derived.Test.YtbjjahmdgplbeaaGreatGzo
import Derived.Test.YtbjjahmdgplbeaaGreatGzc
namespace Gi
open Go Go.RowKit
set_option linter.unusedSimpArgs false
set_option linter.unusedVariables false
set_option maxHeartbeats 8000000
set_option maxRecDepth 8000
def extF : Nat → List V → Option V := fun _ _ => none
theorem szL_mem : ∀ {l : List PV} {p : PV}, p ∈ l → sz p ≤ szL l
  | q :: l, p, h => by
    simp only [szL]
    rcases List.mem_cons.1 h with rfl | h
    · omega
    · have := szL_mem h; omega
theorem oth_row {r : List PV} (h : HasL t_Bucket r) (hz : szL r ≤ 1048576) : ∃ a b rest, r = .str a :: .str b :: rest ∧ rest.length = 22 ∧ a.length ≤ 1048576 ∧ b.length ≤ 1048576 := by
  have hl := HasL_len h
  obtain ⟨p0, r1, rfl, g0, k1⟩ := HasL_cons h
  obtain ⟨p1, r2, rfl, g1, k2⟩ := HasL_cons k1
  obtain ⟨a, rfl⟩ := Has_str g0
  obtain ⟨b, rfl⟩ := Has_str g1
  have ha := szL_mem (l := .str a :: .str b :: r2) (p := .str a) (by simp)
  have hb := szL_mem (l := .str a :: .str b :: r2) (p := .str b) (by simp)
  simp only [sz] at ha hb
  refine ⟨a, b, r2, rfl, ?_, by omega, by omega⟩
  simp only [List.length_cons, show t_Bucket.length = 24 from rfl] at hl
  omega
theorem oth_has {rows : List (List PV)} {s tp : List UInt8} (hrow : ∀ r ∈ rows, ∃ a b rest, r = .str a :: .str b :: rest ∧ rest.length = 22 ∧ a.length ≤ 1048576 ∧ b.length ≤ 1048576) (hl : rows.length ≤ 1048576) : Has (.lst t_StringS) (.lst (rows.flatMap (othR s tp))) ∧ (rows.flatMap (othR s tp)).length ≤ 1048576 ∧ bareRows (rows.flatMap (othR s tp)) = true ∧ ∀ (mT : Int → List UInt8) (k : Int), (mkR mT (rows.flatMap (othR s tp)) k).2 = k + (rows.flatMap (othR s tp)).length := by
  have h1 : ∀ r ∈ rows.flatMap (othR s tp), ∃ a, r = [.str a] ∧ a.length ≤ 4194304 := by
    intro r hr
    obtain ⟨x, hx, hr⟩ := List.mem_flatMap.1 hr
    obtain ⟨a, b, rest, rfl, _, ha, hb⟩ := hrow x hx
    simp only [othR] at hr
    split at hr
    · cases hr
    · simp only [List.mem_singleton] at hr
      exact ⟨_, hr, by simp; omega⟩
  have h2 : ∀ l : List (List PV), (∀ r ∈ l, ∃ a b rest, r = .str a :: .str b :: rest ∧ rest.length = 22 ∧ a.length ≤ 1048576 ∧ b.length ≤ 1048576) → (l.flatMap (othR s tp)).length ≤ l.length := by
    intro l
    induction l with
    | nil => intro _; simp
    | cons x l ih =>
      intro h
      have := ih (fun r m => h r (by simp [m]))
      obtain ⟨a, b, rest, rfl, _⟩ := h x (by simp)
      rw [List.flatMap_cons, List.length_append, List.length_cons]
      have : (othR s tp (.str a :: .str b :: rest)).length ≤ 1 := by simp only [othR]; split <;> simp
      omega
  have h3 := h2 rows hrow
  generalize rows.flatMap (othR s tp) = R at *
  refine ⟨⟨by unfold maxLen; omega, fun r hr => ?_⟩, by omega, ?_, ?_⟩
  · obtain ⟨a, rfl, ha⟩ := h1 r hr
    exact ⟨by show a.length ≤ maxLen; unfold maxLen; omega, trivial⟩
  · unfold bareRows
    rw [List.all_eq_true]
    intro r hr
    obtain ⟨a, rfl, _⟩ := h1 r hr
    rfl
  · intro mT
    clear h2 h3 hl
    induction R with
    | nil => intro k; simp [mkR]
    | cons r R ih =>
      intro k
      obtain ⟨a, rfl, _⟩ := h1 r (by simp)
      simp only [mkR, mkL, mkP, ih (fun r m => h1 r (by simp [m])), List.length_cons]
      omega
theorem law_OthersOf {r0 : List PV} {s1 s2 : List UInt8} (h0 : HasL t_World r0) (h1 : Has .str (.str s1)) (h2 : Has .str (.str s2)) : callL Ph extF 416 [.agg (r0.map .pv), vstr s1, vstr s2] = some (vbool true) := by
  have hL := h0
  have hH := h0
  obtain ⟨p0, r1, rfl, g0, k1⟩ := HasL_cons h0
  obtain ⟨p1, r2, rfl, g1, k2⟩ := HasL_cons k1
  obtain ⟨p2, r3, rfl, g2, k3⟩ := HasL_cons k2
  obtain ⟨p3, r4, rfl, g3, k4⟩ := HasL_cons k3
  obtain ⟨p4, r5, rfl, g4, k5⟩ := HasL_cons k4
  obtain ⟨p5, r6, rfl, g5, k6⟩ := HasL_cons k5
  obtain ⟨p6, r7, rfl, g6, k7⟩ := HasL_cons k6
  obtain ⟨p7, r8, rfl, g7, k8⟩ := HasL_cons k7
  obtain ⟨p8, r9, rfl, g8, k9⟩ := HasL_cons k8
  obtain ⟨p9, r10, rfl, g9, k10⟩ := HasL_cons k9
  obtain rfl := HasL_nil k10
  obtain ⟨c0, rfl⟩ := Has_int g0
  obtain ⟨c1, rfl⟩ := Has_bool g1
  obtain ⟨c2, rfl⟩ := Has_int g2
  obtain ⟨c3, rfl⟩ := Has_lst g3
  obtain ⟨c4, rfl⟩ := Has_lst g4
  obtain ⟨c5, rfl⟩ := Has_int g5
  obtain ⟨c6, rfl⟩ := Has_lst g6
  obtain ⟨c7, rfl⟩ := Has_lst g7
  obtain ⟨c8, rfl⟩ := Has_lst g8
  obtain ⟨c9, rfl⟩ := Has_lst g9
  show callL Ph extF 416 [.agg [.pv (.int .i64 c0), .pv (.bool c1), .pv (.int .i64 c2), .pv (.lst c3), .pv (.lst c4), .pv (.int .i64 c5), .pv (.lst c6), .pv (.lst c7), .pv (.lst c8), .pv (.lst c9)], vstr s1, vstr s2] = _
  refine callL_fn (fn := f_laws_FnExactOthersOf) rfl ?_
  by_cases b1 : (1048576 : Int) < s1.length
  · have d1 : decide ((1048576 : Int) < s1.length) = true := decide_eq_true b1
    simp [f_laws_FnExactOthersOf, start, execL, exec, execOps, stepO, wants, fop, eop, Opd.ev, put, V.cells, plain, loadV, cut, isInt, isStr, isBool, bin, binInt, un, asList, L.view, viewArgs, V.view, viewL, done, finish, resultsOf, resultOf, comps, comp, giveLs, giveL, arrsOf, V.flat, L.flat, setV, setL, storeV, putAt, freezeVs, freezeLs, freezeL, V.mut, L.mut, lent, AObj.unz, L.unsub, loadZV, storeZV, callMV, lendV, lendLs, lendL, PV.flat, putOuts, b1]
  by_cases b2 : (1048576 : Int) < s2.length
  · simp [f_laws_FnExactOthersOf, start, execL, exec, execOps, stepO, wants, fop, eop, Opd.ev, put, V.cells, plain, loadV, cut, isInt, isStr, isBool, bin, binInt, un, asList, L.view, viewArgs, V.view, viewL, done, finish, resultsOf, resultOf, comps, comp, giveLs, giveL, arrsOf, V.flat, L.flat, setV, setL, storeV, putAt, freezeVs, freezeLs, freezeL, V.mut, L.mut, lent, AObj.unz, L.unsub, loadZV, storeZV, callMV, lendV, lendLs, lendL, PV.flat, putOuts, b1, b2]
  have m0 : callL Ph extF 104 [.agg [.pv (.int .i64 c0), .pv (.bool c1), .pv (.int .i64 c2), .pv (.lst c3), .pv (.lst c4), .pv (.int .i64 c5), .pv (.lst c6), .pv (.lst c7), .pv (.lst c8), .pv (.lst c9)], vint .i64 1048576] = some (vint .i64 (less 1048576 (szL [.int .i64 c0, .bool c1, .int .i64 c2, .lst c3, .lst c4, .int .i64 c5, .lst c6, .lst c7, .lst c8, .lst c9]))) := szWorld_to (ext := extF) _ h0 1048576 (by omega) (by omega)
  generalize q0 : less 1048576 (szL [.int .i64 c0, .bool c1, .int .i64 c2, .lst c3, .lst c4, .int .i64 c5, .lst c6, .lst c7, .lst c8, .lst c9]) = l0 at m0
  by_cases n0 : l0 < 0
  · simp [f_laws_FnExactOthersOf, start, execL, exec, execOps, stepO, wants, fop, eop, Opd.ev, put, V.cells, plain, loadV, cut, isInt, isStr, isBool, bin, binInt, un, asList, L.view, viewArgs, V.view, viewL, done, finish, resultsOf, resultOf, comps, comp, giveLs, giveL, arrsOf, V.flat, L.flat, setV, setL, storeV, putAt, freezeVs, freezeLs, freezeL, V.mut, L.mut, lent, AObj.unz, L.unsub, loadZV, storeZV, callMV, lendV, lendLs, lendL, PV.flat, putOuts, b1, b2, m0, n0]
  obtain ⟨le0, hz0⟩ := less_pos (by omega) q0 n0
  have hs0 : szL [.int .i64 c0, .bool c1, .int .i64 c2, .lst c3, .lst c4, .int .i64 c5, .lst c6, .lst c7, .lst c8, .lst c9] ≤ 1048576 := by omega
  have to0 : callL Ph extF 106 [.agg [.pv (.int .i64 c0), .pv (.bool c1), .pv (.int .i64 c2), .pv (.lst c3), .pv (.lst c4), .pv (.int .i64 c5), .pv (.lst c6), .pv (.lst c7), .pv (.lst c8), .pv (.lst c9)]] = some (.agg (ownL t_World [.int .i64 c0, .bool c1, .int .i64 c2, .lst c3, .lst c4, .int .i64 c5, .lst c6, .lst c7, .lst c8, .lst c9])) := toWorld_to (ext := extF) _ h0 hs0
  have hset : (ownL t_World [.int .i64 c0, .bool c1, .int .i64 c2, .lst c3, .lst c4, .int .i64 c5, .lst c6, .lst c7, .lst c8, .lst c9]).map setL = [.pv (.int .i64 c0), .pv (.bool c1), .pv (.int .i64 c2), .pv (.lst c3), .pv (.lst c4), .pv (.int .i64 c5), .pv (.lst c6), .pv (.lst c7), .pv (.lst c8), .pv (.lst c9)] := own_set h0
  have hcl : V.closed (.agg (ownL t_World [.int .i64 c0, .bool c1, .int .i64 c2, .lst c3, .lst c4, .int .i64 c5, .lst c6, .lst c7, .lst c8, .lst c9])) = true := ownL_closed h0
  have hth : thawZ [.box [.pv (.int .i64 c0), .pv (.bool c1), .pv (.int .i64 c2), .pv (.lst c3), .pv (.lst c4), .pv (.int .i64 c5), .pv (.lst c6), .pv (.lst c7), .pv (.lst c8), .pv (.lst c9)]] (.agg (ownL t_World [.int .i64 c0, .bool c1, .int .i64 c2, .lst c3, .lst c4, .int .i64 c5, .lst c6, .lst c7, .lst c8, .lst c9])) = (.agg [.pv (.int .i64 c0), .pv (.bool c1), .pv (.int .i64 c2), .arr 1, .arr 2, .pv (.int .i64 c5), .arr 3, .arr 4, .arr 5, .arr 6], [.box [.pv (.int .i64 c0), .pv (.bool c1), .pv (.int .i64 c2), .pv (.lst c3), .pv (.lst c4), .pv (.int .i64 c5), .pv (.lst c6), .pv (.lst c7), .pv (.lst c8), .pv (.lst c9)], .zarr t_BucketS.length c3, .zarr t_PageS.length c4, .zarr t_LockS.length c6, .zarr t_MailS.length c7, .zarr t_SiteS.length c8, .zarr t_ServerS.length c9]) := own_thawZ h0 _
  have eq0 : callL Ph extF 108 [.agg [.pv (.int .i64 c0), .pv (.bool c1), .pv (.int .i64 c2), .pv (.lst c3), .pv (.lst c4), .pv (.int .i64 c5), .pv (.lst c6), .pv (.lst c7), .pv (.lst c8), .pv (.lst c9)], .agg [.pv (.int .i64 c0), .pv (.bool c1), .pv (.int .i64 c2), .pv (.lst c3), .pv (.lst c4), .pv (.int .i64 c5), .pv (.lst c6), .pv (.lst c7), .pv (.lst c8), .pv (.lst c9)]] = some (vbool true) := eqWorld_to (ext := extF) _ h0
  generalize ownL t_World [.int .i64 c0, .bool c1, .int .i64 c2, .lst c3, .lst c4, .int .i64 c5, .lst c6, .lst c7, .lst c8, .lst c9] = OW at to0 hset hcl hth
  have hz3 : sz (.lst c3) ≤ 1048576 := Nat.le_trans (szL_mem (by simp)) hs0
  have hrow : ∀ r ∈ c3, ∃ a b rest, r = .str a :: .str b :: rest ∧ rest.length = 22 ∧ a.length ≤ 1048576 ∧ b.length ≤ 1048576 := fun r m => oth_row ((Has_rows g3).2 r m) (row_le m hz3)
  have hlc : c3.length ≤ 1048576 := by rw [sz_lst] at hz3; omega
  have hA : cut false 1 3 (([.int .i64 c0, .bool c1, .int .i64 c2, .lst c3, .lst c4, .int .i64 c5, .lst c6, .lst c7, .lst c8, .lst c9] : List PV).map L.pv) = some (vlst c3) := rfl
  have e1 : callL Ph extF 419 [.agg [.pv (.int .i64 c0), .pv (.bool c1), .pv (.int .i64 c2), .pv (.lst c3), .pv (.lst c4), .pv (.int .i64 c5), .pv (.lst c6), .pv (.lst c7), .pv (.lst c8), .pv (.lst c9)], vstr s1, vstr s2] = some (.one (.own 1 (c3.flatMap (othR s1 s2)))) := impl_OthersOf_ok (ext := extF) (s := s1) (tp := s2) hrow hlc hA
  have e2 : callL Ph extF 418 [.agg [.pv (.int .i64 c0), .pv (.bool c1), .pv (.int .i64 c2), .pv (.lst c3), .pv (.lst c4), .pv (.int .i64 c5), .pv (.lst c6), .pv (.lst c7), .pv (.lst c8), .pv (.lst c9)], vstr s1, vstr s2] = some (.one (.own 1 (c3.flatMap (othR s1 s2)))) := spec_OthersOf_ok (ext := extF) (s := s1) (tp := s2) hrow hlc hA
  obtain ⟨o1, o2, o3, o4⟩ := oth_has (s := s1) (tp := s2) hrow hlc
  have o4' := o4 mText 1
  generalize c3.flatMap (othR s1 s2) = R at *
  have es : callL Ph extF 208 [vlst R, vlst R] = some (vbool true) := eqStringS_to (ext := extF) R o1
  have hcR : V.closed (.one (.own 1 R)) = true := o3
  have htR : ∀ h, thawZ h (.one (.own 1 R)) = (.one (.arr h.length), h ++ [.zarr 1 R]) := fun h => by simp [thawZ, thaw, thawL, AObj.zone]
  have cw := msL_cnt mText _ t_World 1 hL (by decide)
  have mw := markWorld_to (ext := extF) _ hH 1 (by omega) (by unfold mkM; omega)
  have cw0 := msL_le mText [.int .i64 c0, .bool c1, .int .i64 c2, .lst c3, .lst c4, .int .i64 c5, .lst c6, .lst c7, .lst c8, .lst c9] 1
  have ms := (markStringS_to (ext := extF)).2 R o1 1 (by omega) (by rw [o4']; unfold mkM; omega)
  have hd := heldStringS_to (ext := extF) R o1 1 (by omega) (by rw [o4']; unfold mkM; omega)
  have hm0 : ¬ (mkR mText R 1).2 < 0 := by rw [o4']; omega
  rw [show t_StringS.length = 1 from rfl] at ms
  generalize (mkR mText R 1).2 = m at *
  generalize (mkR mText R 1).1 = R' at *
  simp only [t_World, dnL, ouL, msL] at mw cw0
  generalize mkR mText c3 1 = q3 at mw cw0
  generalize mkR mText c4 q3.2 = q4 at mw cw0
  generalize mkR mText c6 q4.2 = q6 at mw cw0
  generalize mkR mText c7 q6.2 = q7 at mw cw0
  generalize mkR mText c8 q7.2 = q8 at mw cw0
  generalize mkR mText c9 q8.2 = q9 at mw cw0
  have hk1 : ¬ q9.2 < 0 := by omega
  clear cw hL hH h0 le0 hz0 hs0 hrow hlc hA o1 o2 o3 o4 o4' hz3
  simp [f_laws_FnExactOthersOf, start, execL, exec, execOps, stepO, wants, fop, eop, Opd.ev, put, V.cells, plain, loadV, cut, isInt, isStr, isBool, bin, binInt, un, asList, L.view, viewArgs, V.view, viewL, done, finish, resultsOf, resultOf, comps, comp, giveLs, giveL, arrsOf, V.flat, L.flat, setV, setL, storeV, putAt, freezeVs, freezeLs, freezeL, V.mut, L.mut, lent, AObj.unz, L.unsub, loadZV, storeZV, callMV, lendV, lendLs, lendL, PV.flat, putOuts, b1, b2, m0, n0, to0, hset, hcl, hth, eq0, e1, e2, es, hcR, htR, mw, ms, hd, hm0, hk1]
end Gi
