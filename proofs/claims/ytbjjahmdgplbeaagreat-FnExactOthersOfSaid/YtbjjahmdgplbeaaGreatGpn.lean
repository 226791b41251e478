/- Functions that write marks: whole functions. -/
import Derived.Test.YtbjjahmdgplbeaaGreatGpm
namespace Gi
open Go Go.RowKit
set_option linter.unusedVariables false
set_option linter.unusedSimpArgs false

def opsNoZ (ops : List AOper) : Bool := ops.all fun o => o.op.noZ
theorem noZ_app (a b : List AOper) : opsNoZ (a ++ b) = (opsNoZ a && opsNoZ b) := by simp [opsNoZ]
theorem noZ_cons (a : AOper) (b : List AOper) : opsNoZ (a :: b) = (a.op.noZ && opsNoZ b) := by simp [opsNoZ]
theorem noZ_chain : ∀ (p : List Nat) (c : Nat), opsNoZ (chain c p) = true
  | [], c => rfl
  | d :: ds, c => by simp only [chain, noZ_cons, noZ_chain ds, AOp.noZ, Bool.and_self]
theorem noZ_val (mt c : Nat) (t : PTy) : opsNoZ (valO mt c t) = true := by
  cases t with
  | int κ => cases κ <;> rfl
  | _ => rfl
theorem noZ_cell (z mt c : Nat) (t : PTy) (x : MC) : ∀ r ∈ cellR z mt c t x, opsNoZ r = true := by
  have nil : opsNoZ [] = true := rfl
  have hS : ∀ t, ∀ r ∈ cellS z mt c t x, opsNoZ r = true := by
    intro t r hr
    simp only [cellS, List.mem_cons, List.not_mem_nil, or_false] at hr
    rcases hr with rfl | rfl
    · simp only [mvs, List.cons_append, List.nil_append, noZ_cons, noZ_app, noZ_val, noZ_chain, AOp.noZ, nil, Bool.and_self]
    · rfl
  have hT : ∀ r ∈ cellT z c x, opsNoZ r = true := by
    intro r hr
    simp only [cellT, List.mem_cons, List.not_mem_nil, or_false] at hr
    subst hr
    simp only [mvs, List.cons_append, List.nil_append, noZ_cons, noZ_app, noZ_chain, AOp.noZ, nil, Bool.and_self]
  cases t <;> first | exact hT | exact hS _
theorem noZ_row (z mt : Nat) : ∀ (ts : List PTy) (xs : List MC) (c : Nat), ∀ r ∈ rowR z mt c ts xs, opsNoZ r = true
  | [], xs, c, r, hr => by cases xs <;> cases hr
  | t :: ts, [], c, r, hr => by cases hr
  | t :: ts, x :: xs, c, r, hr => by
    simp only [rowR, List.mem_append] at hr
    rcases hr with hr | hr
    · exact noZ_cell z mt c t x r hr
    · exact noZ_row z mt ts xs _ r hr
theorem noZ_seqs : ∀ (rs : List (List AOper)), (∀ r ∈ rs, opsNoZ r = true) → (seqs rs).noZ = true
  | [], _ => rfl
  | [a], h => h a (by simp)
  | a :: b :: r, h => by
    have h1 := h a (by simp)
    have h2 := noZ_seqs (b :: r) (fun x m => h x (by simp only [List.mem_cons] at m ⊢; exact .inr m))
    simp only [seqs, ACode.noZ, h2, Bool.and_true]
    exact h1
theorem noZ_mark (mt : Nat) (ts : List PTy) (xs : List MC) : (markF mt ts xs).body.noZ = true := by
  have := noZ_seqs _ (noZ_row ts.length mt ts xs 12)
  simp only [markF, markB, hdrZ, ftr, ACode.noZ, this, Bool.and_true, Bool.true_and]
  rfl

section
variable {Φ : Nat → Option AFn} {ext : Nat → List V → Option V} {mT : Int → List UInt8} {mt : Nat}
theorem getElem?_set_some {t : List V} {i : Nat} {v : V} (h : i < t.length) : (t.set i v)[i]? = some v := List.getElem?_set_self h

/-- **Marks into a list.** -/
theorem markF_ok (hT : TxOK Φ ext mT mt) {f : Nat} {ts : List PTy} {xs : List MC} (hk : Φ f = some (markF mt ts xs)) (hn : Φ (f + modK) = none) (hm : McsOK Φ ext mT 0 ts xs) : MkOK Φ ext mT f ts := by
  have hN := rowN_le (mt := mt) ts xs 12
  obtain ⟨m, hm'⟩ : ∃ m, rowN mt 12 ts xs + 1 - 2 = m + 11 := ⟨rowN mt 12 ts xs - 12, by omega⟩
  constructor
  · intro k
    refine callM_fn hn hk (noZ_mark mt ts xs) ?_
    have e0 : asList (lent []) (vlst []) = some [] := rfl
    have hrun : ∃ t', execL Φ ext (markF mt ts xs).body (startM (markF mt ts xs) [vlst [], vint .i64 k]) = some (.ret, ⟨t', []⟩) ∧ t'.getD 4 (.tup []) = vint .i64 k := by
      have hst : startM (markF mt ts xs) [vlst [], vint .i64 k] = ⟨vlst [] :: vint .i64 k :: List.replicate (m + 11) (.tup []), []⟩ := by
        simp only [startM, thawA, thaw, thawL, markF, List.length_cons, List.length_nil, List.map_nil, List.cons_append, List.nil_append, hm']
      rw [hst]
      have hl : (vlst [] :: vint .i64 k :: List.replicate (m + 11) (V.tup [])).length = rowN mt 12 ts xs + 1 := by simp; omega
      generalize hlp : loopL (exec (callL Φ ext) loopL (markB mt ts xs)) = lp
      have hloop : ∀ u2 u3 u4 u6 u7 u8 u9 (r : List V), lp ⟨vlst [] :: vint .i64 k :: u2 :: u3 :: u4 :: vint .i64 0 :: u6 :: u7 :: u8 :: u9 :: r, []⟩ = some (.exit 0, ⟨vlst [] :: vint .i64 k :: u2 :: u3 :: u4 :: vint .i64 0 :: vint .i64 0 :: vlst [] :: vint .i64 0 :: vbool false :: r, []⟩) := by
        intro u2 u3 u4 u6 u7 u8 u9 r
        rw [← hlp]
        refine loopL_end ?_ (by simp)
        simp [markB, hdrZ, exec, execOps, stepO, wants, fop, Opd.ev, put, e0, bin, binInt, isBool]
      have hrep : List.replicate (m + 11) (V.tup []) = .tup [] :: .tup [] :: .tup [] :: .tup [] :: .tup [] :: .tup [] :: .tup [] :: .tup [] :: List.replicate (m + 3) (.tup []) := rfl
      rw [hrep] at hl ⊢
      let w : List V := vlst [] :: vint .i64 k :: .tup [] :: .tup [] :: vint .i64 0 :: vint .i64 0 :: vint .i64 0 :: vlst [] :: vint .i64 0 :: vbool false :: List.replicate (m + 3) (.tup [])
      have hwl : w.length = rowN mt 12 ts xs + 1 := by simp only [w, List.length_cons, List.length_replicate] at hl ⊢; omega
      have q1 : w.getD 1 (.tup []) = vint .i64 k := rfl
      have q2 : (w.set (rowN mt 12 ts xs) (vint .i64 k)).getD (rowN mt 12 ts xs) (.tup []) = vint .i64 k := getD_set (by omega)
      refine ⟨(w.set (rowN mt 12 ts xs) (vint .i64 k)).set 4 (vint .i64 k), ?_, getD_set (by simp; omega)⟩
      have hend : exec (callL Φ ext) loopL (.seq (.region [⟨some (rowN mt 12 ts xs), .mv (.tmp 1), none⟩, ⟨some 4, .mv (.tmp (rowN mt 12 ts xs)), none⟩]) .ret) ⟨w, []⟩ = some (.ret, ⟨(w.set (rowN mt 12 ts xs) (vint .i64 k)).set 4 (vint .i64 k), []⟩) := by
        simp only [exec, execOps, stepO, wants, fop, Opd.ev, q1, put, q2]
      generalize hec : ACode.seq (.region [⟨some (rowN mt 12 ts xs), .mv (.tmp 1), none⟩, ⟨some 4, .mv (.tmp (rowN mt 12 ts xs)), none⟩]) .ret = ec at hend
      simp only [execL, markF, hec, exec, execOps, stepO, wants, fop, Opd.ev, put, List.set_cons_succ, List.set_cons_zero, hlp, hloop, if_true]
      exact hend
    obtain ⟨t', r1, r2⟩ := hrun
    rw [r1]
    simp only [doneM, finM, markF, finish, resultsOf, resultOf, r2, List.flatMap_cons, List.flatMap_nil, List.append_nil, V.cells, comps, comp, giveLs, giveL, thawA, thaw, thawL, List.length_nil, List.take_zero, outsOf, L.flat, if_true]
    rfl
  · intro rows h k h0 hk2
    obtain ⟨hl1, hr⟩ := Has_rows h
    refine callM_fn hn hk (noZ_mark mt ts xs) ?_
    have hst : startM (markF mt ts xs) [.one (.down ts.length rows), vint .i64 k] = ⟨.one (.arr 0) :: vint .i64 k :: List.replicate (m + 11) (.tup []), [.zarr ts.length rows]⟩ := by
      simp only [startM, thawA, thaw, thawL, markF, List.length_cons, List.length_nil, List.map_cons, List.map_nil, List.cons_append, List.nil_append, AObj.zone, hm']
    let t0 : List V := .one (.arr 0) :: vint .i64 k :: .tup [] :: .tup [] :: vint .i64 0 :: vint .i64 0 :: List.replicate (m + 7) (.tup [])
    have hl0 : t0.length = rowN mt 12 ts xs + 1 := by simp [t0]; omega
    obtain ⟨t', a1, a2, a3⟩ := mark_loop hT hm rows [] k t0 ⟨rfl, rfl, rfl⟩ hr h0 hk2 (by simpa using hl1) (by omega)
    simp only [List.nil_append] at a1
    have q1 : t'.getD 1 (.tup []) = vint .i64 (mkR mT rows k).2 := getD_some a3
    have q2 : (t'.set (rowN mt 12 ts xs) (vint .i64 (mkR mT rows k).2)).getD (rowN mt 12 ts xs) (.tup []) = vint .i64 (mkR mT rows k).2 := getD_set (by omega)
    have hend : exec (callL Φ ext) loopL (.seq (.region [⟨some (rowN mt 12 ts xs), .mv (.tmp 1), none⟩, ⟨some 4, .mv (.tmp (rowN mt 12 ts xs)), none⟩]) .ret) ⟨t', [.zarr ts.length (mkR mT rows k).1]⟩ = some (.ret, ⟨(t'.set (rowN mt 12 ts xs) (vint .i64 (mkR mT rows k).2)).set 4 (vint .i64 (mkR mT rows k).2), [.zarr ts.length (mkR mT rows k).1]⟩) := by
      simp only [exec, execOps, stepO, wants, fop, Opd.ev, q1, put, q2]
    have q3 : ((t'.set (rowN mt 12 ts xs) (vint .i64 (mkR mT rows k).2)).set 4 (vint .i64 (mkR mT rows k).2)).getD 4 (.tup []) = vint .i64 (mkR mT rows k).2 := getD_set (by simp; omega)
    have hrun : execL Φ ext (markF mt ts xs).body (startM (markF mt ts xs) [.one (.down ts.length rows), vint .i64 k]) = some (.ret, ⟨(t'.set (rowN mt 12 ts xs) (vint .i64 (mkR mT rows k).2)).set 4 (vint .i64 (mkR mT rows k).2), [.zarr ts.length (mkR mT rows k).1]⟩) := by
      rw [hst]
      generalize hec : ACode.seq (.region [⟨some (rowN mt 12 ts xs), .mv (.tmp 1), none⟩, ⟨some 4, .mv (.tmp (rowN mt 12 ts xs)), none⟩]) .ret = ec at hend
      have hrep : List.replicate (m + 11) (V.tup []) = .tup [] :: .tup [] :: .tup [] :: .tup [] :: List.replicate (m + 7) (.tup []) := rfl
      generalize hlp : loopL (exec (callL Φ ext) loopL (markB mt ts xs)) = lp at a1
      simp only [t0] at a1
      simp only [execL, markF, hec, hrep, exec, execOps, stepO, wants, fop, Opd.ev, put, List.set_cons_succ, List.set_cons_zero, hlp, a1, if_true]
      exact hend
    rw [hrun]
    simp only [doneM, finM, markF, finish, resultsOf, resultOf, q3, List.flatMap_cons, List.flatMap_nil, List.append_nil, V.cells, comps, comp, giveLs, giveL, thawA, thaw, thawL, List.nil_append, List.length_cons, List.length_nil, Nat.zero_add, List.take_succ_cons, List.take_zero, outsOf, L.flat, if_true]
    rfl
end
end Gi
