/- Of this proof. -/
import Derived.Test.YtlohbkffhpnfgaaGreatGpm
set_option linter.unusedSimpArgs false
set_option linter.unusedVariables false
namespace Gi
open Go Go.RowKit
def kC (ops : List AOper) : Bool := ops.all fun o => o.op.noZ
theorem Kl (a b : List AOper) : kC (a ++ b) = (kC a && kC b) := by simp [kC]
theorem Cw (a : AOper) (b : List AOper) : kC (a :: b) = (a.op.noZ && kC b) := by simp [kC]
theorem yp : ∀ (p : List Nat) (c : Nat), kC (pD c p) = true
 | [], c => rfl
 | d :: ds, c => by simp only [pD, Cw, yp ds, AOp.noZ, Bool.and_self]
theorem Om (mt c : Nat) (t : PTy) : kC (ta mt c t) = true := by
 cases t with
 | int κ => cases κ <;> rfl
 | _ => rfl
theorem Nk (z mt c : Nat) (t : PTy) (x : MC) : ∀ r ∈ JV z mt c t x, kC r = true := by
 have nil : kC [] = true := rfl
 have hS : ∀ t, ∀ r ∈ A3 z mt c t x, kC r = true := by
  intro t r hr
  simp only [A3, List.mem_cons, List.not_mem_nil, or_false] at hr
  rcases hr with rfl | rfl
  ·simp only [Kj, List.cons_append, List.nil_append, Cw, Kl, Om, yp, AOp.noZ, nil, Bool.and_self]
  ·rfl
 have hT : ∀ r ∈ Er z c x, kC r = true := by
  intro r hr
  simp only [Er, List.mem_cons, List.not_mem_nil, or_false] at hr
  subst hr
  simp only [Kj, List.cons_append, List.nil_append, Cw, Kl, yp, AOp.noZ, nil, Bool.and_self]
 cases t <;> first | exact hT | exact hS _
theorem Km (z mt : Nat) : ∀ (ts : List PTy) (xs : List MC) (c : Nat), ∀ r ∈ LP z mt c ts xs, kC r = true
 | [], xs, c, r, hr => by cases xs <;> cases hr
 | t :: ts, [], c, r, hr => by cases hr
 | t :: ts, x :: xs, c, r, hr => by
  simp only [LP, List.mem_append] at hr
  rcases hr with hr | hr
  ·exact Nk z mt c t x r hr
  ·exact Km z mt ts xs _ r hr
theorem HH : ∀ (rs : List (List AOper)), (∀ r ∈ rs, kC r = true) → (Jq rs).noZ = true
 | [], _ => rfl
 | [a], h => h a (by simp)
 | a :: b :: r, h => by
  have h1 := h a (by simp)
  have h2 := HH (b :: r) (fun x m => h x (by simp only [List.mem_cons] at m ⊢; exact .inr m))
  simp only [Jq, ACode.noZ, h2, Bool.and_true]
  exact h1
theorem HG (mt : Nat) (ts : List PTy) (xs : List MC) : (fo mt ts xs).body.noZ = true := by
 have := HH _ (Km ts.length mt ts xs 12)
 simp only [fo, yX, MZ, Fz, ACode.noZ, this, Bool.and_true, Bool.true_and]
 rfl
section
variable {Φ : Nat → Option AFn} {ext : Nat → List V → Option V} {mT : Int → List UInt8} {mt : Nat}
theorem ew (hT : zv Φ ext mT mt) {f : Nat} {ts : List PTy} {xs : List MC} (hk : Φ f = some (fo mt ts xs)) (hn : Φ (f + jn) = none) (hm : El Φ ext mT 0 ts xs) : nA Φ ext mT f ts := by
 have hN := AS (mt := mt) ts xs 12
 obtain ⟨m, hm'⟩ : ∃ m, jL mt 12 ts xs + 1 - 2 = m + 11 := ⟨jL mt 12 ts xs - 12, by omega⟩
 constructor
 ·intro k
  refine qP hn hk (HG mt ts xs) ?_
  have e0 : asList (lent []) (bu []) = some [] := rfl
  have hrun : ∃ t', fe Φ ext (fo mt ts xs).body (gU (fo mt ts xs) [bu [], aa .i64 k]) = some (.ret, ⟨t', []⟩) ∧ t'.getD 4 (.tup []) = aa .i64 k := by
   have hst : gU (fo mt ts xs) [bu [], aa .i64 k] = ⟨bu [] :: aa .i64 k :: List.replicate (m + 11) (.tup []), []⟩ := by
    simp only [gU, cS, thaw, thawL, fo, List.length_cons, List.length_nil, List.map_nil, List.cons_append, List.nil_append, hm']
   rw [hst]
   have hl : (bu [] :: aa .i64 k :: List.replicate (m + 11) (V.tup [])).length = jL mt 12 ts xs + 1 := by simp; omega
   generalize hlp : aq (ai (ae Φ ext) aq (yX mt ts xs)) = lp
   have hloop : ∀ u2 u3 u4 u6 u7 u8 u9 (r : List V), lp ⟨bu [] :: aa .i64 k :: u2 :: u3 :: u4 :: aa .i64 0 :: u6 :: u7 :: u8 :: u9 :: r, []⟩ = some (.exit 0, ⟨bu [] :: aa .i64 k :: u2 :: u3 :: u4 :: aa .i64 0 :: aa .i64 0 :: bu [] :: aa .i64 0 :: ar false :: r, []⟩) := by
    intro u2 u3 u4 u6 u7 u8 u9 r
    rw [← hlp]
    refine gf ?_ (by simp)
    simp [yX, MZ, ai, ag, aw, aH, bf, Opd.ev, put, e0, bin, bC, isBool]
   have hrep : List.replicate (m + 11) (V.tup []) = .tup [] :: .tup [] :: .tup [] :: .tup [] :: .tup [] :: .tup [] :: .tup [] :: .tup [] :: List.replicate (m + 3) (.tup []) := rfl
   rw [hrep] at hl ⊢
   let w : List V := bu [] :: aa .i64 k :: .tup [] :: .tup [] :: aa .i64 0 :: aa .i64 0 :: aa .i64 0 :: bu [] :: aa .i64 0 :: ar false :: List.replicate (m + 3) (.tup [])
   have hwl : w.length = jL mt 12 ts xs + 1 := by simp only [w, List.length_cons, List.length_replicate] at hl ⊢; omega
   have q1 : w.getD 1 (.tup []) = aa .i64 k := rfl
   have q2 : (w.set (jL mt 12 ts xs) (aa .i64 k)).getD (jL mt 12 ts xs) (.tup []) = aa .i64 k := az (by omega)
   refine ⟨(w.set (jL mt 12 ts xs) (aa .i64 k)).set 4 (aa .i64 k), ?_, az (by simp; omega)⟩
   have hend : ai (ae Φ ext) aq (.seq (.region [⟨some (jL mt 12 ts xs), .mv (.tmp 1), none⟩, ⟨some 4, .mv (.tmp (jL mt 12 ts xs)), none⟩]) .ret) ⟨w, []⟩ = some (.ret, ⟨(w.set (jL mt 12 ts xs) (aa .i64 k)).set 4 (aa .i64 k), []⟩) := by
    simp only [ai, ag, aw, aH, bf, Opd.ev, q1, put, q2]
   generalize hec : ACode.seq (.region [⟨some (jL mt 12 ts xs), .mv (.tmp 1), none⟩, ⟨some 4, .mv (.tmp (jL mt 12 ts xs)), none⟩]) .ret = ec at hend
   simp only [fe, fo, hec, ai, ag, aw, aH, bf, Opd.ev, put, List.set_cons_succ, List.set_cons_zero, hlp, hloop, if_true]
   exact hend
  obtain ⟨t', r1, r2⟩ := hrun
  rw [r1]
  simp only [tc, DW, fo, aR, au, bw, r2, List.flatMap_cons, List.flatMap_nil, List.append_nil, V.cells, bO, comp, aJ, br, cS, thaw, thawL, List.length_nil, List.take_zero, f6, L.flat, if_true]
  rfl
 ·intro rows h k h0 hk2
  obtain ⟨hl1, hr⟩ := aK h
  refine qP hn hk (HG mt ts xs) ?_
  have hst : gU (fo mt ts xs) [.one (.down ts.length rows), aa .i64 k] = ⟨.one (.arr 0) :: aa .i64 k :: List.replicate (m + 11) (.tup []), [.zarr ts.length rows]⟩ := by
   simp only [gU, cS, thaw, thawL, fo, List.length_cons, List.length_nil, List.map_cons, List.map_nil, List.cons_append, List.nil_append, AObj.zone, hm']
  let t0 : List V := .one (.arr 0) :: aa .i64 k :: .tup [] :: .tup [] :: aa .i64 0 :: aa .i64 0 :: List.replicate (m + 7) (.tup [])
  have hl0 : t0.length = jL mt 12 ts xs + 1 := by simp [t0]; omega
  obtain ⟨t', a1, a2, a3⟩ := LI hT hm rows [] k t0 ⟨rfl, rfl, rfl⟩ hr h0 hk2 (by simpa using hl1) (by omega)
  simp only [List.nil_append] at a1
  have q1 : t'.getD 1 (.tup []) = aa .i64 (bP mT rows k).2 := getD_some a3
  have q2 : (t'.set (jL mt 12 ts xs) (aa .i64 (bP mT rows k).2)).getD (jL mt 12 ts xs) (.tup []) = aa .i64 (bP mT rows k).2 := az (by omega)
  have hend : ai (ae Φ ext) aq (.seq (.region [⟨some (jL mt 12 ts xs), .mv (.tmp 1), none⟩, ⟨some 4, .mv (.tmp (jL mt 12 ts xs)), none⟩]) .ret) ⟨t', [.zarr ts.length (bP mT rows k).1]⟩ = some (.ret, ⟨(t'.set (jL mt 12 ts xs) (aa .i64 (bP mT rows k).2)).set 4 (aa .i64 (bP mT rows k).2), [.zarr ts.length (bP mT rows k).1]⟩) := by
   simp only [ai, ag, aw, aH, bf, Opd.ev, q1, put, q2]
  have q3 : ((t'.set (jL mt 12 ts xs) (aa .i64 (bP mT rows k).2)).set 4 (aa .i64 (bP mT rows k).2)).getD 4 (.tup []) = aa .i64 (bP mT rows k).2 := az (by simp; omega)
  have hrun : fe Φ ext (fo mt ts xs).body (gU (fo mt ts xs) [.one (.down ts.length rows), aa .i64 k]) = some (.ret, ⟨(t'.set (jL mt 12 ts xs) (aa .i64 (bP mT rows k).2)).set 4 (aa .i64 (bP mT rows k).2), [.zarr ts.length (bP mT rows k).1]⟩) := by
   rw [hst]
   generalize hec : ACode.seq (.region [⟨some (jL mt 12 ts xs), .mv (.tmp 1), none⟩, ⟨some 4, .mv (.tmp (jL mt 12 ts xs)), none⟩]) .ret = ec at hend
   have hrep : List.replicate (m + 11) (V.tup []) = .tup [] :: .tup [] :: .tup [] :: .tup [] :: List.replicate (m + 7) (.tup []) := rfl
   generalize hlp : aq (ai (ae Φ ext) aq (yX mt ts xs)) = lp at a1
   simp only [t0] at a1
   simp only [fe, fo, hec, hrep, ai, ag, aw, aH, bf, Opd.ev, put, List.set_cons_succ, List.set_cons_zero, hlp, a1, if_true]
   exact hend
  rw [hrun]
  simp only [tc, DW, fo, aR, au, bw, q3, List.flatMap_cons, List.flatMap_nil, List.append_nil, V.cells, bO, comp, aJ, br, cS, thaw, thawL, List.nil_append, List.length_cons, List.length_nil, Nat.zero_add, List.take_succ_cons, List.take_zero, f6, L.flat, if_true]
  rfl
end
section
variable (mT : Int → List UInt8)
def eP : List PV → Int → List PV × Int
 | [], k => ([], k)
 | .lst rows :: ps, k => (.lst (bP mT rows k).1 :: (eP ps (bP mT rows k).2).1, (eP ps (bP mT rows k).2).2)
 | p :: ps, k => (p :: (eP ps k).1, (eP ps k).2)
end
theorem j0 (mT : Int → List UInt8) : ∀ (a b : List PV) (k : Int), eP mT (a ++ b) k = ((eP mT a k).1 ++ (eP mT b (eP mT a k).2).1, (eP mT b (eP mT a k).2).2)
 | [], b, k => by simp only [List.nil_append, eP]
 | .lst rows :: a, b, k => by simp only [List.cons_append, eP, j0 mT a b]
 | .int _ _ :: a, b, k => by simp only [List.cons_append, eP, j0 mT a b]
 | .bool _ :: a, b, k => by simp only [List.cons_append, eP, j0 mT a b]
 | .str _ :: a, b, k => by simp only [List.cons_append, eP, j0 mT a b]
theorem lu (mT : Int → List UInt8) : ∀ (a : List PV) (k : Int), k ≤ (eP mT a k).2
 | [], k => by simp only [eP]; omega
 | .lst rows :: a, k => by
  simp only [eP]
  have := mZ mT rows k
  have := lu mT a (bP mT rows k).2
  omega
 | .int _ _ :: a, k => by simp only [eP]; exact lu mT a k
 | .bool _ :: a, k => by simp only [eP]; exact lu mT a k
 | .str _ :: a, k => by simp only [eP]; exact lu mT a k
def GD : List PTy → List PV → List L
 | .lst us :: ts, .lst rows :: ps => .down us.length rows :: GD ts ps
 | _ :: ts, p :: ps => .pv p :: GD ts ps
 | _, _ => []
def gi : List PTy → List PV → List AObj
 | .lst us :: ts, .lst rows :: ps => .zarr us.length rows :: gi ts ps
 | _ :: ts, _ :: ps => gi ts ps
 | _, _ => []
def iz : Nat → List PTy → List PV → List L
 | j, .lst us :: ts, .lst rows :: ps => .arr j :: iz (j + 1) ts ps
 | j, _ :: ts, p :: ps => .pv p :: iz j ts ps
 | _, _, _ => []
def LL : List PTy → List PV → List (Bool × List L)
 | .lst us :: ts, .lst rows :: ps => (false, [.down us.length rows]) :: LL ts ps
 | _ :: ts, _ :: ps => LL ts ps
 | _, _ => []
theorem fq {P : List PTy → List PV → Prop} (nil : P [] []) (lst : ∀ us rows ts ps, nb (.lst us) (.lst rows) → a9 ts ps → P ts ps → P (.lst us :: ts) (.lst rows :: ps)) (flat : ∀ t p ts ps, nb t p → t.flatT = true → p.flat = true → a9 ts ps → P ts ps → P (t :: ts) (p :: ps)) : ∀ (ts : List PTy) (ps : List PV), a9 ts ps → P ts ps
 | [], ps, h => by rw [eL h]; exact nil
 | .lst us :: ts, ps, h => by
  obtain ⟨p, r, rfl, h1, h2⟩ := dk h
  obtain ⟨rows, rfl⟩ := mn h1
  exact lst us rows ts r h1 h2 (fq nil lst flat ts r h2)
 | .int κ :: ts, ps, h => by
  obtain ⟨p, r, rfl, h1, h2⟩ := dk h
  obtain ⟨n, rfl⟩ := kI h1
  exact flat _ _ ts r h1 rfl rfl h2 (fq nil lst flat ts r h2)
 | .bool :: ts, ps, h => by
  obtain ⟨p, r, rfl, h1, h2⟩ := dk h
  obtain ⟨n, rfl⟩ := jH h1
  exact flat _ _ ts r h1 rfl rfl h2 (fq nil lst flat ts r h2)
 | .str :: ts, ps, h => by
  obtain ⟨p, r, rfl, h1, h2⟩ := dk h
  obtain ⟨n, rfl⟩ := jh h1
  exact flat _ _ ts r h1 rfl rfl h2 (fq nil lst flat ts r h2)
theorem G2 {t : PTy} {p : PV} {ts : List PTy} {ps : List PV} (ht : t.flatT = true) : GD (t :: ts) (p :: ps) = .pv p :: GD ts ps := by cases t <;> first | rfl | cases ht
theorem gq {t : PTy} {p : PV} {ts : List PTy} {ps : List PV} (ht : t.flatT = true) : gi (t :: ts) (p :: ps) = gi ts ps := by cases t <;> first | rfl | cases ht
theorem kK {t : PTy} {p : PV} {ts : List PTy} {ps : List PV} {j : Nat} (ht : t.flatT = true) : iz j (t :: ts) (p :: ps) = .pv p :: iz j ts ps := by cases t <;> first | rfl | cases ht
theorem HI {t : PTy} {p : PV} {ts : List PTy} {ps : List PV} (ht : t.flatT = true) : LL (t :: ts) (p :: ps) = LL ts ps := by cases t <;> first | rfl | cases ht
theorem oq (mT : Int → List UInt8) {p : PV} {ps : List PV} {k : Int} (hp : p.flat = true) : eP mT (p :: ps) k = (p :: (eP mT ps k).1, (eP mT ps k).2) := by cases p <;> first | rfl | cases hp
theorem Fb {ts : List PTy} {ps : List PV} (h : a9 ts ps) : ∀ j, (iz j ts ps).length = ts.length := by
 refine fq (P := fun ts ps => ∀ j, (iz j ts ps).length = ts.length) (fun j => rfl) ?_ ?_ ts ps h
 ·intro us rows ts ps _ _ ih j
  simp only [iz, List.length_cons, ih]
 ·intro t p ts ps _ ht hp _ ih j
  rw [kK ht]
  simp only [List.length_cons, ih]
theorem Ox {ts : List PTy} {ps : List PV} (h : a9 ts ps) : ∀ hh : List AObj, ∃ ds, thawL hh (GD ts ps) = (iz hh.length ts ps, hh ++ ds) ∧ ds.map AObj.zone = gi ts ps := by
 refine fq (P := fun ts ps => ∀ hh : List AObj, ∃ ds, thawL hh (GD ts ps) = (iz hh.length ts ps, hh ++ ds) ∧ ds.map AObj.zone = gi ts ps) ?_ ?_ ?_ ts ps h
 ·intro hh; exact ⟨[], by simp [GD, thawL, iz], rfl⟩
 ·intro us rows ts ps _ _ ih hh
  obtain ⟨ds, e1, e2⟩ := ih (hh ++ [.darr us.length rows])
  refine ⟨.darr us.length rows :: ds, ?_, by simp only [List.map_cons, e2, AObj.zone, gi]⟩
  simp only [GD, thawL, e1, iz, List.length_append, List.length_singleton, List.append_assoc, List.cons_append, List.nil_append]
 ·intro t p ts ps _ ht hp _ ih hh
  obtain ⟨ds, e1, e2⟩ := ih hh
  refine ⟨ds, ?_, by rw [e2, gq ht]⟩
  rw [G2 ht, kK ht]
  simp only [thawL, e1]
theorem KR {p : PV} (h : p.flat = true) : p.bare = true := by cases p <;> first | rfl | cases h
theorem J9 {ts : List PTy} {ps : List PV} (h : a9 ts ps) : ∀ (pre post : List AObj), kA (pre ++ gi ts ps ++ post) (iz pre.length ts ps) = some (GD ts ps) := by
 refine fq (P := fun ts ps => ∀ (pre post : List AObj), kA (pre ++ gi ts ps ++ post) (iz pre.length ts ps) = some (GD ts ps)) (fun _ _ => rfl) ?_ ?_ ts ps h
 ·intro us rows ts ps _ _ ih pre post
  have := ih (pre ++ [.zarr us.length rows]) post
  simp only [List.length_append, List.length_singleton, List.append_assoc, List.cons_append, List.nil_append] at this
  have hg : (pre ++ (AObj.zarr us.length rows :: (gi ts ps ++ post)))[pre.length]? = some (.zarr us.length rows) := by
   rw [List.getElem?_append_right (Nat.le_refl _), Nat.sub_self]; rfl
  simp only [gi, iz, GD, List.append_assoc, List.cons_append, kA, wd, hg, this]
 ·intro t p ts ps _ ht hp _ ih pre post
  rw [G2 ht, kK ht, gq ht]
  have hb : PV.bare _ = true := KR hp
  simp only [kA, wd, hb, if_true, ih pre post]
theorem NU {ts : List PTy} {ps : List PV} (h : a9 ts ps) : ∀ (j : Nat), (ah (iz j ts ps)).Nodup ∧ ∀ o ∈ ah (iz j ts ps), j ≤ o := by
 refine fq (P := fun ts ps => ∀ (j : Nat), (ah (iz j ts ps)).Nodup ∧ ∀ o ∈ ah (iz j ts ps), j ≤ o) (fun j => ⟨List.nodup_nil, fun o ho => by cases ho⟩) ?_ ?_ ts ps h
 ·intro us rows ts ps _ _ ih j
  obtain ⟨h1, h2⟩ := ih (j + 1)
  have e : ah (iz j (.lst us :: ts) (.lst rows :: ps)) = j :: ah (iz (j + 1) ts ps) := by simp [iz, ah]
  rw [e]
  refine ⟨List.nodup_cons.2 ⟨fun hm => by have := h2 _ hm; omega, h1⟩, fun o ho => ?_⟩
  rcases List.mem_cons.1 ho with rfl | ho
  ·exact Nat.le_refl _
  ·have := h2 o ho; omega
 ·intro t p ts ps _ ht hp _ ih j
  have e : ah (iz j (t :: ts) (p :: ps)) = ah (iz j ts ps) := by rw [kK ht]; simp [ah]
  rw [e]; exact ih j
theorem Pe (mT : Int → List UInt8) {ts : List PTy} {ps : List PV} (h : a9 ts ps) : ∀ (pre post : List AObj) (k : Int), jp (pre ++ gi ts ps ++ post) (ah (iz pre.length ts ps)) (LL ts (eP mT ps k).1) = some (pre ++ gi ts (eP mT ps k).1 ++ post) := by
 refine fq (P := fun ts ps => ∀ (pre post : List AObj) (k : Int), jp (pre ++ gi ts ps ++ post) (ah (iz pre.length ts ps)) (LL ts (eP mT ps k).1) = some (pre ++ gi ts (eP mT ps k).1 ++ post)) (fun _ _ _ => rfl) ?_ ?_ ts ps h
 ·intro us rows ts ps _ _ ih pre post k
  have := ih (pre ++ [.zarr us.length (bP mT rows k).1]) post (bP mT rows k).2
  simp only [List.length_append, List.length_singleton, List.append_assoc, List.cons_append, List.nil_append] at this
  have e : ah (iz pre.length (.lst us :: ts) (.lst rows :: ps)) = pre.length :: ah (iz (pre.length + 1) ts ps) := by simp [iz, ah]
  rw [e]
  simp only [eP, gi, LL, jp, List.append_assoc, List.cons_append]
  rw [List.set_append_right _ _ (Nat.le_refl _), Nat.sub_self, List.set_cons_zero, this]
 ·intro t p ts ps _ ht hp _ ih pre post k
  have e : ah (iz pre.length (t :: ts) (p :: ps)) = ah (iz pre.length ts ps) := by rw [kK ht]; simp [ah]
  rw [e, oq mT hp, gq ht, gq ht, HI ht]
  exact ih pre post k
theorem Oq (mT : Int → List UInt8) {ts : List PTy} {ps : List PV} (h : a9 ts ps) : ∀ k, f6 (gi ts (eP mT ps k).1) = some (LL ts (eP mT ps k).1) := by
 refine fq (P := fun ts ps => ∀ k, f6 (gi ts (eP mT ps k).1) = some (LL ts (eP mT ps k).1)) (fun _ => rfl) ?_ ?_ ts ps h
 ·intro us rows ts ps _ _ ih k
  simp only [eP, gi, f6, ih, LL]
 ·intro t p ts ps _ ht hp _ ih k
  rw [oq mT hp, gq ht, HI ht, ih]
theorem Dl (mT : Int → List UInt8) {ts : List PTy} {ps : List PV} (h : a9 ts ps) : ∀ k, (gi ts (eP mT ps k).1).length = (gi ts ps).length := by
 refine fq (P := fun ts ps => ∀ k, (gi ts (eP mT ps k).1).length = (gi ts ps).length) (fun _ => rfl) ?_ ?_ ts ps h
 ·intro us rows ts ps _ _ ih k
  simp only [eP, gi, List.length_cons, ih]
 ·intro t p ts ps _ ht hp _ ih k
  rw [oq mT hp, gq ht, gq ht, ih]
theorem GC {ts us : List PTy} {a b : List PV} (h : a9 ts a) : gi (ts ++ us) (a ++ b) = gi ts a ++ gi us b := by
 refine fq (P := fun ts a => gi (ts ++ us) (a ++ b) = gi ts a ++ gi us b) rfl ?_ ?_ ts a h
 ·intro us rows ts ps _ _ ih
  simp only [List.cons_append, gi, ih]
 ·intro t p ts ps _ ht hp _ ih
  simp only [List.cons_append]
  rw [gq ht, gq ht, ih]
theorem EW (mT : Int → List UInt8) {ts us : List PTy} {a b : List PV} (h : a9 ts a) : ∀ k, gi (ts ++ us) ((eP mT a k).1 ++ b) = gi ts (eP mT a k).1 ++ gi us b := by
 refine fq (P := fun ts a => ∀ k, gi (ts ++ us) ((eP mT a k).1 ++ b) = gi ts (eP mT a k).1 ++ gi us b) (fun _ => rfl) ?_ ?_ ts a h
 ·intro us rows ts ps _ _ ih k
  simp only [eP, List.cons_append, gi, ih]
 ·intro t p ts ps _ ht hp _ ih k
  rw [oq mT hp]
  simp only [List.cons_append]
  rw [gq ht, gq ht, ih]
theorem IM {ts us : List PTy} {a b : List PV} (h : a9 ts a) : ∀ j, iz j (ts ++ us) (a ++ b) = iz j ts a ++ iz (j + (gi ts a).length) us b := by
 refine fq (P := fun ts a => ∀ j, iz j (ts ++ us) (a ++ b) = iz j ts a ++ iz (j + (gi ts a).length) us b) (fun j => rfl) ?_ ?_ ts a h
 ·intro us rows ts ps _ _ ih j
  simp only [List.cons_append, iz, gi, List.length_cons, ih]
  rw [show j + 1 + (gi ts ps).length = j + ((gi ts ps).length + 1) by omega]
 ·intro t p ts ps _ ht hp _ ih j
  simp only [List.cons_append]
  rw [kK ht, kK ht, gq ht, ih]
  rfl
theorem ML {ts : List PTy} {ps : List PV} (h : a9 ts ps) : ∀ j, (iz j ts ps).all plain = true := by
 refine fq (P := fun ts ps => ∀ j, (iz j ts ps).all plain = true) (fun j => rfl) ?_ ?_ ts ps h
 ·intro us rows ts ps _ _ ih j
  simp only [iz, List.all_cons, ih, Bool.and_true]; rfl
 ·intro t p ts ps _ ht hp _ ih j
  rw [kK ht]
  simp only [List.all_cons, ih, Bool.and_true]; rfl
end Gi
