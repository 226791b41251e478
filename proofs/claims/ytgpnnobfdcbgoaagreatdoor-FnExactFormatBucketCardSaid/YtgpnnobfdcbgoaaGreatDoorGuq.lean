/- Records as bytes: how many (functions). -/
import Derived.Test.YtgpnnobfdcbgoaaGreatDoorGup
namespace Gi
open Go Go.RowKit
set_option linter.unusedSimpArgs false
set_option linter.unusedVariables false
set_option maxHeartbeats 4000000
set_option maxRecDepth 4000

def RunsV (x : Option V) (P : V → Prop) : Prop := ∃ r, x = some r ∧ P r
theorem callL_fnV {Φ : Nat → Option AFn} {ext : Nat → List V → Option V} {k : Nat} {fn : AFn} {as : List V} {P : V → Prop} (hk : Φ k = some fn) (h : RunsV (done fn (execL Φ ext fn.body (start fn as))) P) : RunsV (callL Φ ext k as) P := by
  obtain ⟨r, h1, h2⟩ := h
  exact ⟨r, callL_fn hk h1, h2⟩
def recR (rows : List (List PV)) (r : V) : Prop := ∃ es, setV r = vlst es ∧ ones es = true ∧ es.length = recL rows
theorem impl_EncodeRecord_ok {rows : List (List PV)} (h : Has (.lst t_FieldS) (.lst rows)) : RunsV (callL Ph extF 226 [.agg [.pv (.lst rows)]]) (recR rows) := by
  have e0 := impl_IsRecord_ok h
  obtain ⟨hl, hr⟩ := Has_rows h
  refine callL_fnV (fn := f_impl_EncodeRecord) rfl ?_
  cases hk : isRec rows
  · rw [hk] at e0
    simp [f_impl_EncodeRecord, start, execL, exec, execOps, stepO, wants, fop, eop, Opd.ev, put, V.cells, plain, loadV, cut, isInt, isStr, isBool, bin, binInt, binStr_neq, binStr_eql, un, asList, L.view, viewArgs, V.view, viewL, done, finish, resultsOf, resultOf, comps, comp, giveLs, giveL, arrsOf, V.flat, L.flat, setV, setL, storeV, putAt, thaw, thawL, freezeVs, freezeLs, freezeL, V.mut, L.mut, elemPtr, viewRows, e0]
    exact ⟨_, rfl, [], rfl, rfl, by simp [recL, hk]⟩
  · rw [hk] at e0
    obtain ⟨hl6, hn⟩ := isRec_names hk hr
    obtain ⟨es0, e1, o1, l1⟩ := impl_AppendUvarint_ok (bs := []) rfl (by simp) rows.length
    have u1 := uvB_le rows.length
    simp only [List.length_nil, Nat.zero_add] at l1
    have LP := ier_loop hl6 hn rows.length 0 0 rfl (by omega) es0 o1 (by omega)
    simp only [List.drop_zero] at LP
    rw [l1] at LP
    generalize hF : exec (callL Ph extF) loopL b_impl_EncodeRecord_0 = F at LP
    simp [f_impl_EncodeRecord, start, execL, exec, execOps, stepO, wants, fop, eop, Opd.ev, put, V.cells, plain, loadV, cut, isInt, isStr, isBool, bin, binInt, binStr_neq, binStr_eql, un, asList, L.view, viewArgs, V.view, viewL, done, finish, resultsOf, resultOf, comps, comp, giveLs, giveL, arrsOf, V.flat, L.flat, setV, setL, storeV, putAt, thaw, thawL, freezeVs, freezeLs, freezeL, V.mut, L.mut, elemPtr, viewRows, e0, e1, hF]
    generalize hσ : St.mk _ _ = σ0
    obtain ⟨e, σ', q1, rfl, es', ⟨q2, q3⟩, x0, x2, x4, x5, x6, x7, x8, x9, x10, x11, x12, x13, x14, x18, x19, x20, x21, x22, x23, x24, x25, x26, x27, x28, x29, x30, h', rfl⟩ := (LP _ _ _ _ _ _ _ _ _ _ _ _ _ _ _ _ _ _ _ _ _ _ _ _ _ _ _ σ0 hσ.symm).get
    rw [q1]
    simp [start, execL, exec, execOps, stepO, wants, fop, eop, Opd.ev, put, V.cells, plain, loadV, cut, isInt, isStr, isBool, bin, binInt, binStr_neq, binStr_eql, un, asList, L.view, viewArgs, V.view, viewL, done, finish, resultsOf, resultOf, comps, comp, giveLs, giveL, arrsOf, V.flat, L.flat, setV, setL, storeV, putAt, thaw, thawL, freezeVs, freezeLs, freezeL, V.mut, L.mut, elemPtr, viewRows]
    exact ⟨_, rfl, es', rfl, q2, by simp [recL, hk, q3]⟩
theorem spec_EncodeRecord_ok {rows : List (List PV)} (h : Has (.lst t_FieldS) (.lst rows)) : RunsV (callL Ph extF 222 [.agg [.pv (.lst rows)]]) (recR rows) := by
  have e0 := spec_IsRecord_ok h
  obtain ⟨hl, hr⟩ := Has_rows h
  refine callL_fnV (fn := f_spec_EncodeRecord) rfl ?_
  cases hk : isRec rows
  · rw [hk] at e0
    simp [f_spec_EncodeRecord, start, execL, exec, execOps, stepO, wants, fop, eop, Opd.ev, put, V.cells, plain, loadV, cut, isInt, isStr, isBool, bin, binInt, binStr_neq, binStr_eql, un, asList, L.view, viewArgs, V.view, viewL, done, finish, resultsOf, resultOf, comps, comp, giveLs, giveL, arrsOf, V.flat, L.flat, setV, setL, storeV, putAt, thaw, thawL, freezeVs, freezeLs, freezeL, V.mut, L.mut, elemPtr, viewRows, e0]
    exact ⟨_, rfl, [], rfl, rfl, by simp [recL, hk]⟩
  · rw [hk] at e0
    obtain ⟨hl6, hn⟩ := isRec_names hk hr
    obtain ⟨es0, e1, o1, l1⟩ := spec_AppendUvarint_ok (bs := []) rfl (by simp) rows.length
    have u1 := uvB_le rows.length
    simp only [List.length_nil, Nat.zero_add] at l1
    have LP := ser_loop hl6 hn rows.length 0 0 rfl (by omega) es0 o1 (by omega)
    simp only [List.drop_zero] at LP
    rw [l1] at LP
    generalize hF : exec (callL Ph extF) loopL b_spec_EncodeRecord_0 = F at LP
    simp [f_spec_EncodeRecord, start, execL, exec, execOps, stepO, wants, fop, eop, Opd.ev, put, V.cells, plain, loadV, cut, isInt, isStr, isBool, bin, binInt, binStr_neq, binStr_eql, un, asList, L.view, viewArgs, V.view, viewL, done, finish, resultsOf, resultOf, comps, comp, giveLs, giveL, arrsOf, V.flat, L.flat, setV, setL, storeV, putAt, thaw, thawL, freezeVs, freezeLs, freezeL, V.mut, L.mut, elemPtr, viewRows, e0, e1, hF]
    generalize hσ : St.mk _ _ = σ0
    obtain ⟨e, σ', q1, rfl, es', ⟨q2, q3⟩, x0, x2, x5, x6, x7, x8, x9, x10, x11, x12, x13, x14, x15, x16, x17, x18, x19, x20, x21, x22, x23, x24, x25, x26, x27, x28, x29, x30, x31, x32, x33, x34, x35, x36, x37, h', rfl⟩ := (LP _ _ _ _ _ _ _ _ _ _ _ _ _ _ _ _ _ _ _ _ _ _ _ _ _ _ _ _ _ _ _ _ _ _ _ _ σ0 hσ.symm).get
    rw [q1]
    simp [start, execL, exec, execOps, stepO, wants, fop, eop, Opd.ev, put, V.cells, plain, loadV, cut, isInt, isStr, isBool, bin, binInt, binStr_neq, binStr_eql, un, asList, L.view, viewArgs, V.view, viewL, done, finish, resultsOf, resultOf, comps, comp, giveLs, giveL, arrsOf, V.flat, L.flat, setV, setL, storeV, putAt, thaw, thawL, freezeVs, freezeLs, freezeL, V.mut, L.mut, elemPtr, viewRows]
    exact ⟨_, rfl, es', rfl, q2, by simp [recL, hk, q3]⟩
end Gi
