/- Of this proof. -/
import Derived.Test.YthaajpjcibaopaaGreatGpm
namespace Gi
open Go Go.RowKit
set_option linter.unusedVariables false
set_option linter.unusedSimpArgs false
def opsNoZ (ops : List AOper) : Bool := ops.all fun o => o.op.noZ
theorem noZ_app (a b : List AOper) : opsNoZ (a ++ b) = (opsNoZ a && opsNoZ b) := by simp [opsNoZ]
theorem noZ_cons (a : AOper) (b : List AOper) : opsNoZ (a :: b) = (a.op.noZ && opsNoZ b) := by simp [opsNoZ]
theorem noZ_chain : ∀ (p : List Nat) (c : Nat), opsNoZ (chain c p) = true
 | [], c => rfl
 | d :: ds, c => by simp only [chain, noZ_cons, noZ_chain ds, AOp.noZ, Bool.and_self]
theorem noZ_val (mt c : Nat) (t : PTy) : opsNoZ (valO mt c t) = true := by
 cases t with
 | int κ => cases κ <;> rfl
 | _ => rfl
theorem noZ_cell (z mt c : Nat) (t : PTy) (x : MC) : ∀ r ∈ cellR z mt c t x, opsNoZ r = true := by
 have nil : opsNoZ [] = true := rfl
 have hS : ∀ t, ∀ r ∈ cellS z mt c t x, opsNoZ r = true := by
  intro t r hr
  simp only [cellS, List.mem_cons, List.not_mem_nil, or_false] at hr
  rcases hr with rfl | rfl
  ·simp only [mvs, List.cons_append, List.nil_append, noZ_cons, noZ_app, noZ_val, noZ_chain, AOp.noZ, nil, Bool.and_self]
  ·rfl
 have hT : ∀ r ∈ cellT z c x, opsNoZ r = true := by
  intro r hr
  simp only [cellT, List.mem_cons, List.not_mem_nil, or_false] at hr
  subst hr
  simp only [mvs, List.cons_append, List.nil_append, noZ_cons, noZ_app, noZ_chain, AOp.noZ, nil, Bool.and_self]
 cases t <;> first | exact hT | exact hS _
theorem noZ_row (z mt : Nat) : ∀ (ts : List PTy) (xs : List MC) (c : Nat), ∀ r ∈ rowR z mt c ts xs, opsNoZ r = true
 | [], xs, c, r, hr => by cases xs <;> cases hr
 | t :: ts, [], c, r, hr => by cases hr
 | t :: ts, x :: xs, c, r, hr => by
  simp only [rowR, List.mem_append] at hr
  rcases hr with hr | hr
  ·exact noZ_cell z mt c t x r hr
  ·exact noZ_row z mt ts xs _ r hr
theorem noZ_seqs : ∀ (rs : List (List AOper)), (∀ r ∈ rs, opsNoZ r = true) → (seqs rs).noZ = true
 | [], _ => rfl
 | [a], h => h a (by simp)
 | a :: b :: r, h => by
  have h1 := h a (by simp)
  have h2 := noZ_seqs (b :: r) (fun x m => h x (by simp only [List.mem_cons] at m ⊢; exact .inr m))
  simp only [seqs, ACode.noZ, h2, Bool.and_true]
  exact h1
theorem noZ_mark (mt : Nat) (ts : List PTy) (xs : List MC) : (markF mt ts xs).body.noZ = true := by
 have := noZ_seqs _ (noZ_row ts.length mt ts xs 12)
 simp only [markF, markB, hdrZ, ftr, ACode.noZ, this, Bool.and_true, Bool.true_and]
 rfl
section
variable {Φ : Nat → Option AFn} {ext : Nat → List V → Option V} {mT : Int → List UInt8} {mt : Nat}
theorem getElem?_set_some {t : List V} {i : Nat} {v : V} (h : i < t.length) : (t.set i v)[i]? = some v := List.getElem?_set_self h
theorem markF_ok (hT : TxOK Φ ext mT mt) {f : Nat} {ts : List PTy} {xs : List MC} (hk : Φ f = some (markF mt ts xs)) (hn : Φ (f + modK) = none) (hm : McsOK Φ ext mT 0 ts xs) : MkOK Φ ext mT f ts := by
 have hN := rowN_le (mt := mt) ts xs 12
 obtain ⟨m, hm'⟩ : ∃ m, rowN mt 12 ts xs + 1 - 2 = m + 11 := ⟨rowN mt 12 ts xs - 12, by omega⟩
 constructor
 ·intro k
  refine callM_fn hn hk (noZ_mark mt ts xs) ?_
  have e0 : asList (lent []) (vlst []) = some [] := rfl
  have hrun : ∃ t', execL Φ ext (markF mt ts xs).body (startM (markF mt ts xs) [vlst [], vint .i64 k]) = some (.ret, ⟨t', []⟩) ∧ t'.getD 4 (.tup []) = vint .i64 k := by
   have hst : startM (markF mt ts xs) [vlst [], vint .i64 k] = ⟨vlst [] :: vint .i64 k :: List.replicate (m + 11) (.tup []), []⟩ := by
    simp only [startM, thawA, thaw, thawL, markF, List.length_cons, List.length_nil, List.map_nil, List.cons_append, List.nil_append, hm']
   rw [hst]
   have hl : (vlst [] :: vint .i64 k :: List.replicate (m + 11) (V.tup [])).length = rowN mt 12 ts xs + 1 := by simp; omega
   generalize hlp : loopL (exec (callL Φ ext) loopL (markB mt ts xs)) = lp
   have hloop : ∀ u2 u3 u4 u6 u7 u8 u9 (r : List V), lp ⟨vlst [] :: vint .i64 k :: u2 :: u3 :: u4 :: vint .i64 0 :: u6 :: u7 :: u8 :: u9 :: r, []⟩ = some (.exit 0, ⟨vlst [] :: vint .i64 k :: u2 :: u3 :: u4 :: vint .i64 0 :: vint .i64 0 :: vlst [] :: vint .i64 0 :: vbool false :: r, []⟩) := by
    intro u2 u3 u4 u6 u7 u8 u9 r
    rw [← hlp]
    refine loopL_end ?_ (by simp)
    simp [markB, hdrZ, exec, execOps, stepO, wants, fop, Opd.ev, put, e0, bin, binInt, isBool]
   have hrep : List.replicate (m + 11) (V.tup []) = .tup [] :: .tup [] :: .tup [] :: .tup [] :: .tup [] :: .tup [] :: .tup [] :: .tup [] :: List.replicate (m + 3) (.tup []) := rfl
   rw [hrep] at hl ⊢
   let w : List V := vlst [] :: vint .i64 k :: .tup [] :: .tup [] :: vint .i64 0 :: vint .i64 0 :: vint .i64 0 :: vlst [] :: vint .i64 0 :: vbool false :: List.replicate (m + 3) (.tup [])
   have hwl : w.length = rowN mt 12 ts xs + 1 := by simp only [w, List.length_cons, List.length_replicate] at hl ⊢; omega
   have q1 : w.getD 1 (.tup []) = vint .i64 k := rfl
   have q2 : (w.set (rowN mt 12 ts xs) (vint .i64 k)).getD (rowN mt 12 ts xs) (.tup []) = vint .i64 k := getD_set (by omega)
   refine ⟨(w.set (rowN mt 12 ts xs) (vint .i64 k)).set 4 (vint .i64 k), ?_, getD_set (by simp; omega)⟩
   have hend : exec (callL Φ ext) loopL (.seq (.region [⟨some (rowN mt 12 ts xs), .mv (.tmp 1), none⟩, ⟨some 4, .mv (.tmp (rowN mt 12 ts xs)), none⟩]) .ret) ⟨w, []⟩ = some (.ret, ⟨(w.set (rowN mt 12 ts xs) (vint .i64 k)).set 4 (vint .i64 k), []⟩) := by
    simp only [exec, execOps, stepO, wants, fop, Opd.ev, q1, put, q2]
   generalize hec : ACode.seq (.region [⟨some (rowN mt 12 ts xs), .mv (.tmp 1), none⟩, ⟨some 4, .mv (.tmp (rowN mt 12 ts xs)), none⟩]) .ret = ec at hend
   simp only [execL, markF, hec, exec, execOps, stepO, wants, fop, Opd.ev, put, List.set_cons_succ, List.set_cons_zero, hlp, hloop, if_true]
   exact hend
  obtain ⟨t', r1, r2⟩ := hrun
  rw [r1]
  simp only [doneM, finM, markF, finish, resultsOf, resultOf, r2, List.flatMap_cons, List.flatMap_nil, List.append_nil, V.cells, comps, comp, giveLs, giveL, thawA, thaw, thawL, List.length_nil, List.take_zero, outsOf, L.flat, if_true]
  rfl
 ·intro rows h k h0 hk2
  obtain ⟨hl1, hr⟩ := Has_rows h
  refine callM_fn hn hk (noZ_mark mt ts xs) ?_
  have hst : startM (markF mt ts xs) [.one (.down ts.length rows), vint .i64 k] = ⟨.one (.arr 0) :: vint .i64 k :: List.replicate (m + 11) (.tup []), [.zarr ts.length rows]⟩ := by
   simp only [startM, thawA, thaw, thawL, markF, List.length_cons, List.length_nil, List.map_cons, List.map_nil, List.cons_append, List.nil_append, AObj.zone, hm']
  let t0 : List V := .one (.arr 0) :: vint .i64 k :: .tup [] :: .tup [] :: vint .i64 0 :: vint .i64 0 :: List.replicate (m + 7) (.tup [])
  have hl0 : t0.length = rowN mt 12 ts xs + 1 := by simp [t0]; omega
  obtain ⟨t', a1, a2, a3⟩ := mark_loop hT hm rows [] k t0 ⟨rfl, rfl, rfl⟩ hr h0 hk2 (by simpa using hl1) (by omega)
  simp only [List.nil_append] at a1
  have q1 : t'.getD 1 (.tup []) = vint .i64 (mkR mT rows k).2 := getD_some a3
  have q2 : (t'.set (rowN mt 12 ts xs) (vint .i64 (mkR mT rows k).2)).getD (rowN mt 12 ts xs) (.tup []) = vint .i64 (mkR mT rows k).2 := getD_set (by omega)
  have hend : exec (callL Φ ext) loopL (.seq (.region [⟨some (rowN mt 12 ts xs), .mv (.tmp 1), none⟩, ⟨some 4, .mv (.tmp (rowN mt 12 ts xs)), none⟩]) .ret) ⟨t', [.zarr ts.length (mkR mT rows k).1]⟩ = some (.ret, ⟨(t'.set (rowN mt 12 ts xs) (vint .i64 (mkR mT rows k).2)).set 4 (vint .i64 (mkR mT rows k).2), [.zarr ts.length (mkR mT rows k).1]⟩) := by
   simp only [exec, execOps, stepO, wants, fop, Opd.ev, q1, put, q2]
  have q3 : ((t'.set (rowN mt 12 ts xs) (vint .i64 (mkR mT rows k).2)).set 4 (vint .i64 (mkR mT rows k).2)).getD 4 (.tup []) = vint .i64 (mkR mT rows k).2 := getD_set (by simp; omega)
  have hrun : execL Φ ext (markF mt ts xs).body (startM (markF mt ts xs) [.one (.down ts.length rows), vint .i64 k]) = some (.ret, ⟨(t'.set (rowN mt 12 ts xs) (vint .i64 (mkR mT rows k).2)).set 4 (vint .i64 (mkR mT rows k).2), [.zarr ts.length (mkR mT rows k).1]⟩) := by
   rw [hst]
   generalize hec : ACode.seq (.region [⟨some (rowN mt 12 ts xs), .mv (.tmp 1), none⟩, ⟨some 4, .mv (.tmp (rowN mt 12 ts xs)), none⟩]) .ret = ec at hend
   have hrep : List.replicate (m + 11) (V.tup []) = .tup [] :: .tup [] :: .tup [] :: .tup [] :: List.replicate (m + 7) (.tup []) := rfl
   generalize hlp : loopL (exec (callL Φ ext) loopL (markB mt ts xs)) = lp at a1
   simp only [t0] at a1
   simp only [execL, markF, hec, hrep, exec, execOps, stepO, wants, fop, Opd.ev, put, List.set_cons_succ, List.set_cons_zero, hlp, a1, if_true]
   exact hend
  rw [hrun]
  simp only [doneM, finM, markF, finish, resultsOf, resultOf, q3, List.flatMap_cons, List.flatMap_nil, List.append_nil, V.cells, comps, comp, giveLs, giveL, thawA, thaw, thawL, List.nil_append, List.length_cons, List.length_nil, Nat.zero_add, List.take_succ_cons, List.take_zero, outsOf, L.flat, if_true]
  rfl
end
section
variable (mT : Int → List UInt8)
def msL : List PV → Int → List PV × Int
 | [], k => ([], k)
 | .lst rows :: ps, k => (.lst (mkR mT rows k).1 :: (msL ps (mkR mT rows k).2).1, (msL ps (mkR mT rows k).2).2)
 | p :: ps, k => (p :: (msL ps k).1, (msL ps k).2)
end
theorem msL_app (mT : Int → List UInt8) : ∀ (a b : List PV) (k : Int), msL mT (a ++ b) k = ((msL mT a k).1 ++ (msL mT b (msL mT a k).2).1, (msL mT b (msL mT a k).2).2)
 | [], b, k => by simp only [List.nil_append, msL]
 | .lst rows :: a, b, k => by simp only [List.cons_append, msL, msL_app mT a b]
 | .int _ _ :: a, b, k => by simp only [List.cons_append, msL, msL_app mT a b]
 | .bool _ :: a, b, k => by simp only [List.cons_append, msL, msL_app mT a b]
 | .str _ :: a, b, k => by simp only [List.cons_append, msL, msL_app mT a b]
theorem msL_le (mT : Int → List UInt8) : ∀ (a : List PV) (k : Int), k ≤ (msL mT a k).2
 | [], k => by simp only [msL]; omega
 | .lst rows :: a, k => by
  simp only [msL]
  have := mkR_le mT rows k
  have := msL_le mT a (mkR mT rows k).2
  omega
 | .int _ _ :: a, k => by simp only [msL]; exact msL_le mT a k
 | .bool _ :: a, k => by simp only [msL]; exact msL_le mT a k
 | .str _ :: a, k => by simp only [msL]; exact msL_le mT a k
def dnL : List PTy → List PV → List L
 | .lst us :: ts, .lst rows :: ps => .down us.length rows :: dnL ts ps
 | _ :: ts, p :: ps => .pv p :: dnL ts ps
 | _, _ => []
def zsL : List PTy → List PV → List AObj
 | .lst us :: ts, .lst rows :: ps => .zarr us.length rows :: zsL ts ps
 | _ :: ts, _ :: ps => zsL ts ps
 | _, _ => []
def ceL : Nat → List PTy → List PV → List L
 | j, .lst us :: ts, .lst rows :: ps => .arr j :: ceL (j + 1) ts ps
 | j, _ :: ts, p :: ps => .pv p :: ceL j ts ps
 | _, _, _ => []
def ouL : List PTy → List PV → List (Bool × List L)
 | .lst us :: ts, .lst rows :: ps => (false, [.down us.length rows]) :: ouL ts ps
 | _ :: ts, _ :: ps => ouL ts ps
 | _, _ => []
theorem row_ind {P : List PTy → List PV → Prop} (nil : P [] []) (lst : ∀ us rows ts ps, Has (.lst us) (.lst rows) → HasL ts ps → P ts ps → P (.lst us :: ts) (.lst rows :: ps)) (flat : ∀ t p ts ps, Has t p → t.flatT = true → p.flat = true → HasL ts ps → P ts ps → P (t :: ts) (p :: ps)) : ∀ (ts : List PTy) (ps : List PV), HasL ts ps → P ts ps
 | [], ps, h => by rw [HasL_nil h]; exact nil
 | .lst us :: ts, ps, h => by
  obtain ⟨p, r, rfl, h1, h2⟩ := HasL_cons h
  obtain ⟨rows, rfl⟩ := Has_lst h1
  exact lst us rows ts r h1 h2 (row_ind nil lst flat ts r h2)
 | .int κ :: ts, ps, h => by
  obtain ⟨p, r, rfl, h1, h2⟩ := HasL_cons h
  obtain ⟨n, rfl⟩ := Has_int h1
  exact flat _ _ ts r h1 rfl rfl h2 (row_ind nil lst flat ts r h2)
 | .bool :: ts, ps, h => by
  obtain ⟨p, r, rfl, h1, h2⟩ := HasL_cons h
  obtain ⟨n, rfl⟩ := Has_bool h1
  exact flat _ _ ts r h1 rfl rfl h2 (row_ind nil lst flat ts r h2)
 | .str :: ts, ps, h => by
  obtain ⟨p, r, rfl, h1, h2⟩ := HasL_cons h
  obtain ⟨n, rfl⟩ := Has_str h1
  exact flat _ _ ts r h1 rfl rfl h2 (row_ind nil lst flat ts r h2)
theorem dnL_flat {t : PTy} {p : PV} {ts : List PTy} {ps : List PV} (ht : t.flatT = true) : dnL (t :: ts) (p :: ps) = .pv p :: dnL ts ps := by cases t <;> first | rfl | cases ht
theorem zsL_flat {t : PTy} {p : PV} {ts : List PTy} {ps : List PV} (ht : t.flatT = true) : zsL (t :: ts) (p :: ps) = zsL ts ps := by cases t <;> first | rfl | cases ht
theorem ceL_flat {t : PTy} {p : PV} {ts : List PTy} {ps : List PV} {j : Nat} (ht : t.flatT = true) : ceL j (t :: ts) (p :: ps) = .pv p :: ceL j ts ps := by cases t <;> first | rfl | cases ht
theorem ouL_flat {t : PTy} {p : PV} {ts : List PTy} {ps : List PV} (ht : t.flatT = true) : ouL (t :: ts) (p :: ps) = ouL ts ps := by cases t <;> first | rfl | cases ht
theorem msL_flat (mT : Int → List UInt8) {p : PV} {ps : List PV} {k : Int} (hp : p.flat = true) : msL mT (p :: ps) k = (p :: (msL mT ps k).1, (msL mT ps k).2) := by cases p <;> first | rfl | cases hp
theorem ceL_len {ts : List PTy} {ps : List PV} (h : HasL ts ps) : ∀ j, (ceL j ts ps).length = ts.length := by
 refine row_ind (P := fun ts ps => ∀ j, (ceL j ts ps).length = ts.length) (fun j => rfl) ?_ ?_ ts ps h
 ·intro us rows ts ps _ _ ih j
  simp only [ceL, List.length_cons, ih]
 ·intro t p ts ps _ ht hp _ ih j
  rw [ceL_flat ht]
  simp only [List.length_cons, ih]
theorem thaw_dn {ts : List PTy} {ps : List PV} (h : HasL ts ps) : ∀ hh : List AObj, ∃ ds, thawL hh (dnL ts ps) = (ceL hh.length ts ps, hh ++ ds) ∧ ds.map AObj.zone = zsL ts ps := by
 refine row_ind (P := fun ts ps => ∀ hh : List AObj, ∃ ds, thawL hh (dnL ts ps) = (ceL hh.length ts ps, hh ++ ds) ∧ ds.map AObj.zone = zsL ts ps) ?_ ?_ ?_ ts ps h
 ·intro hh; exact ⟨[], by simp [dnL, thawL, ceL], rfl⟩
 ·intro us rows ts ps _ _ ih hh
  obtain ⟨ds, e1, e2⟩ := ih (hh ++ [.darr us.length rows])
  refine ⟨.darr us.length rows :: ds, ?_, by simp only [List.map_cons, e2, AObj.zone, zsL]⟩
  simp only [dnL, thawL, e1, ceL, List.length_append, List.length_singleton, List.append_assoc, List.cons_append, List.nil_append]
 ·intro t p ts ps _ ht hp _ ih hh
  obtain ⟨ds, e1, e2⟩ := ih hh
  refine ⟨ds, ?_, by rw [e2, zsL_flat ht]⟩
  rw [dnL_flat ht, ceL_flat ht]
  simp only [thawL, e1]
theorem bare_flat {p : PV} (h : p.flat = true) : p.bare = true := by cases p <;> first | rfl | cases h
theorem lend_ce {ts : List PTy} {ps : List PV} (h : HasL ts ps) : ∀ (pre post : List AObj), lendLs (pre ++ zsL ts ps ++ post) (ceL pre.length ts ps) = some (dnL ts ps) := by
 refine row_ind (P := fun ts ps => ∀ (pre post : List AObj), lendLs (pre ++ zsL ts ps ++ post) (ceL pre.length ts ps) = some (dnL ts ps)) (fun _ _ => rfl) ?_ ?_ ts ps h
 ·intro us rows ts ps _ _ ih pre post
  have := ih (pre ++ [.zarr us.length rows]) post
  simp only [List.length_append, List.length_singleton, List.append_assoc, List.cons_append, List.nil_append] at this
  have hg : (pre ++ (AObj.zarr us.length rows :: (zsL ts ps ++ post)))[pre.length]? = some (.zarr us.length rows) := by
   rw [List.getElem?_append_right (Nat.le_refl _), Nat.sub_self]; rfl
  simp only [zsL, ceL, dnL, List.append_assoc, List.cons_append, lendLs, lendL, hg, this]
 ·intro t p ts ps _ ht hp _ ih pre post
  rw [dnL_flat ht, ceL_flat ht, zsL_flat ht]
  have hb : PV.bare _ = true := bare_flat hp
  simp only [lendLs, lendL, hb, if_true, ih pre post]
theorem arrs_ge {ts : List PTy} {ps : List PV} (h : HasL ts ps) : ∀ (j : Nat), (arrsOf (ceL j ts ps)).Nodup ∧ ∀ o ∈ arrsOf (ceL j ts ps), j ≤ o := by
 refine row_ind (P := fun ts ps => ∀ (j : Nat), (arrsOf (ceL j ts ps)).Nodup ∧ ∀ o ∈ arrsOf (ceL j ts ps), j ≤ o) (fun j => ⟨List.nodup_nil, fun o ho => by cases ho⟩) ?_ ?_ ts ps h
 ·intro us rows ts ps _ _ ih j
  obtain ⟨h1, h2⟩ := ih (j + 1)
  have e : arrsOf (ceL j (.lst us :: ts) (.lst rows :: ps)) = j :: arrsOf (ceL (j + 1) ts ps) := by simp [ceL, arrsOf]
  rw [e]
  refine ⟨List.nodup_cons.2 ⟨fun hm => by have := h2 _ hm; omega, h1⟩, fun o ho => ?_⟩
  rcases List.mem_cons.1 ho with rfl | ho
  ·exact Nat.le_refl _
  ·have := h2 o ho; omega
 ·intro t p ts ps _ ht hp _ ih j
  have e : arrsOf (ceL j (t :: ts) (p :: ps)) = arrsOf (ceL j ts ps) := by rw [ceL_flat ht]; simp [arrsOf]
  rw [e]; exact ih j
theorem put_ou (mT : Int → List UInt8) {ts : List PTy} {ps : List PV} (h : HasL ts ps) : ∀ (pre post : List AObj) (k : Int), putOuts (pre ++ zsL ts ps ++ post) (arrsOf (ceL pre.length ts ps)) (ouL ts (msL mT ps k).1) = some (pre ++ zsL ts (msL mT ps k).1 ++ post) := by
 refine row_ind (P := fun ts ps => ∀ (pre post : List AObj) (k : Int), putOuts (pre ++ zsL ts ps ++ post) (arrsOf (ceL pre.length ts ps)) (ouL ts (msL mT ps k).1) = some (pre ++ zsL ts (msL mT ps k).1 ++ post)) (fun _ _ _ => rfl) ?_ ?_ ts ps h
 ·intro us rows ts ps _ _ ih pre post k
  have := ih (pre ++ [.zarr us.length (mkR mT rows k).1]) post (mkR mT rows k).2
  simp only [List.length_append, List.length_singleton, List.append_assoc, List.cons_append, List.nil_append] at this
  have e : arrsOf (ceL pre.length (.lst us :: ts) (.lst rows :: ps)) = pre.length :: arrsOf (ceL (pre.length + 1) ts ps) := by simp [ceL, arrsOf]
  rw [e]
  simp only [msL, zsL, ouL, putOuts, List.append_assoc, List.cons_append]
  rw [List.set_append_right _ _ (Nat.le_refl _), Nat.sub_self, List.set_cons_zero, this]
 ·intro t p ts ps _ ht hp _ ih pre post k
  have e : arrsOf (ceL pre.length (t :: ts) (p :: ps)) = arrsOf (ceL pre.length ts ps) := by rw [ceL_flat ht]; simp [arrsOf]
  rw [e, msL_flat mT hp, zsL_flat ht, zsL_flat ht, ouL_flat ht]
  exact ih pre post k
theorem outs_zs {ts : List PTy} {ps : List PV} (h : HasL ts ps) : outsOf (zsL ts ps) = some (ouL ts ps) := by
 refine row_ind (P := fun ts ps => outsOf (zsL ts ps) = some (ouL ts ps)) rfl ?_ ?_ ts ps h
 ·intro us rows ts ps _ _ ih
  simp only [zsL, outsOf, ih, ouL]
 ·intro t p ts ps _ ht hp _ ih
  rw [zsL_flat ht, ouL_flat ht, ih]
theorem outs_ms (mT : Int → List UInt8) {ts : List PTy} {ps : List PV} (h : HasL ts ps) : ∀ k, outsOf (zsL ts (msL mT ps k).1) = some (ouL ts (msL mT ps k).1) := by
 refine row_ind (P := fun ts ps => ∀ k, outsOf (zsL ts (msL mT ps k).1) = some (ouL ts (msL mT ps k).1)) (fun _ => rfl) ?_ ?_ ts ps h
 ·intro us rows ts ps _ _ ih k
  simp only [msL, zsL, outsOf, ih, ouL]
 ·intro t p ts ps _ ht hp _ ih k
  rw [msL_flat mT hp, zsL_flat ht, ouL_flat ht, ih]
theorem zs_len (mT : Int → List UInt8) {ts : List PTy} {ps : List PV} (h : HasL ts ps) : ∀ k, (zsL ts (msL mT ps k).1).length = (zsL ts ps).length := by
 refine row_ind (P := fun ts ps => ∀ k, (zsL ts (msL mT ps k).1).length = (zsL ts ps).length) (fun _ => rfl) ?_ ?_ ts ps h
 ·intro us rows ts ps _ _ ih k
  simp only [msL, zsL, List.length_cons, ih]
 ·intro t p ts ps _ ht hp _ ih k
  rw [msL_flat mT hp, zsL_flat ht, zsL_flat ht, ih]
theorem zs_app {ts us : List PTy} {a b : List PV} (h : HasL ts a) : zsL (ts ++ us) (a ++ b) = zsL ts a ++ zsL us b := by
 refine row_ind (P := fun ts a => zsL (ts ++ us) (a ++ b) = zsL ts a ++ zsL us b) rfl ?_ ?_ ts a h
 ·intro us rows ts ps _ _ ih
  simp only [List.cons_append, zsL, ih]
 ·intro t p ts ps _ ht hp _ ih
  simp only [List.cons_append]
  rw [zsL_flat ht, zsL_flat ht, ih]
theorem zs_ms_app (mT : Int → List UInt8) {ts us : List PTy} {a b : List PV} (h : HasL ts a) : ∀ k, zsL (ts ++ us) ((msL mT a k).1 ++ b) = zsL ts (msL mT a k).1 ++ zsL us b := by
 refine row_ind (P := fun ts a => ∀ k, zsL (ts ++ us) ((msL mT a k).1 ++ b) = zsL ts (msL mT a k).1 ++ zsL us b) (fun _ => rfl) ?_ ?_ ts a h
 ·intro us rows ts ps _ _ ih k
  simp only [msL, List.cons_append, zsL, ih]
 ·intro t p ts ps _ ht hp _ ih k
  rw [msL_flat mT hp]
  simp only [List.cons_append]
  rw [zsL_flat ht, zsL_flat ht, ih]
theorem ce_app {ts us : List PTy} {a b : List PV} (h : HasL ts a) : ∀ j, ceL j (ts ++ us) (a ++ b) = ceL j ts a ++ ceL (j + (zsL ts a).length) us b := by
 refine row_ind (P := fun ts a => ∀ j, ceL j (ts ++ us) (a ++ b) = ceL j ts a ++ ceL (j + (zsL ts a).length) us b) (fun j => rfl) ?_ ?_ ts a h
 ·intro us rows ts ps _ _ ih j
  simp only [List.cons_append, ceL, zsL, List.length_cons, ih]
  rw [show j + 1 + (zsL ts ps).length = j + ((zsL ts ps).length + 1) by omega]
 ·intro t p ts ps _ ht hp _ ih j
  simp only [List.cons_append]
  rw [ceL_flat ht, ceL_flat ht, zsL_flat ht, ih]
  rfl
theorem ce_plain {ts : List PTy} {ps : List PV} (h : HasL ts ps) : ∀ j, (ceL j ts ps).all plain = true := by
 refine row_ind (P := fun ts ps => ∀ j, (ceL j ts ps).all plain = true) (fun j => rfl) ?_ ?_ ts ps h
 ·intro us rows ts ps _ _ ih j
  simp only [ceL, List.all_cons, ih, Bool.and_true]; rfl
 ·intro t p ts ps _ ht hp _ ih j
  rw [ceL_flat ht]
  simp only [List.all_cons, ih, Bool.and_true]; rfl
end Gi
