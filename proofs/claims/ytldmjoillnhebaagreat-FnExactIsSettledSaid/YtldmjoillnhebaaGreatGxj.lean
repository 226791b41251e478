/- Writes applied to a store; what a device has: the law. -/
import Derived.Test.YtldmjoillnhebaaGreatGxe
import Derived.Test.YtldmjoillnhebaaGreatGxfa
import Derived.Test.YtldmjoillnhebaaGreatGxfb
import Derived.Test.YtldmjoillnhebaaGreatGxfc
import Derived.Test.YtldmjoillnhebaaGreatGxh
import Derived.Test.YtldmjoillnhebaaGreatGsq
namespace Gi
open Go Go.RowKit
set_option linter.unusedSimpArgs false
set_option linter.unusedVariables false
set_option maxHeartbeats 8000000
set_option maxRecDepth 4000
attribute [local simp] start execOps stepO wants fop eop Opd.ev put V.cells plain loadV cut isInt isStr isBool bin binInt binStr_neq binStr_eql un asList L.view viewArgs V.view viewL finish resultsOf resultOf comps comp giveLs giveL arrs_e arrs_pv arrs_nil arrs_arr arrs_dat view_dat plain_dat mut_dat freeze_dat give_dat ren_dat notArr_dat setL_own setL_dat flat_dat thaw_dat thawT fillL cellsP rowsP isVar bound loadV V.flat L.flat setV setL storeV putAt thaw thawL freezeVs freezeLs freezeL V.mut L.mut elemPtr viewRows wp_seq wp_block wp_region wp_cond wp_skip wp_exit wp_ret wp_end wp_sqN wp_sqR wp_sqE wp_bkN wp_bkR wp_bkE Fin_ret Fin_normal L.notArr keepM_t keepM_f keepM_n setT_c setT_n

section
variable {B : Nat} {s : XStore}
theorem own_dat (z : Nat) (rows : List (List PV)) : (rows = [] ∧ ownZ z rows = .nil ∧ datL rows = .nil) ∨ (rows ≠ [] ∧ ownZ z rows = .own z rows ∧ datL rows = .pv (.lst rows)) := by
  cases rows with
  | nil => exact .inl ⟨rfl, rfl, rfl⟩
  | cons r rs => exact .inr ⟨by simp, rfl, rfl⟩
theorem impl_PutItem_ok {k : XKey} {r : XRecord} (hB : B ≤ 1048576) (hs : s.Ok B) (hk : k.Ok B) (hr : r.Ok B) : callL Ph extF 342 [.agg [.pv (.str s.name), .pv (.lst (s.items.map XItem.e)), .pv (.int .i64 s.auto)], .agg [.pv (.int .i64 k.kind), .pv (.int .i64 k.n), .pv (.str k.text)], .agg [.pv (.lst (r.fs.map XField.e))]] = some (putRes (putX s k r)) := by
  cases c1 : isStoreX s
  · exact impl_PutItem_bad hB hs hk hr (.inl c1)
  cases c2 : isKeyX k
  · exact impl_PutItem_bad hB hs hk hr (.inr c2)
  by_cases hneg : fndX s k < 0
  · cases hq : s.items with
    | nil => rw [← hq]; exact impl_PutItem_nil hB hs hk hr c1 c2 hneg hq
    | cons x xs => rw [← hq]; exact impl_PutItem_cons hB hs hk hr c1 c2 hneg (by rw [hq]; simp)
  · exact impl_PutItem_set hB hs hk hr c1 c2 hneg
theorem putX_ok {k : XKey} {r : XRecord} (h16 : 16 ≤ B) (hs : s.Ok B) (hk : k.Ok B) (hr : r.Ok B) : (putX s k r).1.Ok B := by
  unfold putX
  split
  · split
    · exact setI_ok hs hk hr _
    · split
      · exact hs
      · rename_i hn
        obtain ⟨h1, ⟨h2, h3⟩, h4⟩ := hs
        refine ⟨h1, ⟨by simp only [insX_len]; omega, fun x hx => ?_⟩, autoN_in h4 hk.2.1⟩
        unfold insX at hx
        rw [List.mem_append, List.mem_cons] at hx
        rcases hx with hx | rfl | hx
        · exact h3 x (List.mem_of_mem_take hx)
        · exact ⟨hk, hr⟩
        · exact h3 x (List.mem_of_mem_drop hx)
  · exact hs
theorem setR_ok {r : XRecord} (h6 : 6 ≤ B) (hr : r.Ok B) {nm : List UInt8} (hn : nm.length ≤ B) {n : Int} (hi : inI n) : (setR r nm n).1.Ok B := by
  unfold setR
  split
  · rename_i h
    refine ⟨Nat.le_trans (rec_len h.2) h6, fun f hf => ?_⟩
    rcases setF_mem hf with h1 | rfl
    · exact hr.2 f h1
    · exact ⟨hn, hi⟩
  · exact hr
def recAt (s : XStore) (k : XKey) : XRecord := if 0 ≤ fndX s k then (match s.items[(fndX s k).toNat]? with
  | some x => x.rcd
  | none => ⟨[]⟩) else ⟨[]⟩
theorem recAt_ok {k : XKey} (hs : s.Ok B) : (recAt s k).Ok B := by
  have e : XRecord.Ok B ⟨[]⟩ := ⟨by simp, by simp⟩
  unfold recAt
  split
  · split
    · rename_i x hx
      exact (hs.2.1.2 x (List.mem_of_getElem? hx)).2
    · exact e
  · exact e
def setItemX (s : XStore) (w : XWrite) : XStore × Bool := cond (setR (recAt s w.key) w.field w.n).2 (putX s w.key (setR (recAt s w.key) w.field w.n).1) (s, false)
theorem setItemX_ok {w : XWrite} (h16 : 16 ≤ B) (hs : s.Ok B) (hw : w.Ok B) : (setItemX s w).1.Ok B := by
  obtain ⟨_, _, hk, hf, hn⟩ := hw
  unfold setItemX
  cases (setR (recAt s w.key) w.field w.n).2 with
  | true => exact putX_ok h16 hs hk (setR_ok (by omega) (recAt_ok hs) hf hn)
  | false => exact hs
theorem setItemX_no {w : XWrite} (h : (setItemX s w).2 = false) : (setItemX s w).1 = s := by
  unfold setItemX at h ⊢
  cases q : (setR (recAt s w.key) w.field w.n).2 with
  | true =>
    rw [q] at h
    simp only [cond_true] at h ⊢
    unfold putX at h ⊢
    split at h
    · rename_i h1
      rw [if_pos h1]
      split at h
      · cases h
      · rename_i h2
        rw [if_neg h2]
        split at h
        · rename_i h3; rw [if_pos h3]
        · cases h
    · rename_i h1
      rw [if_neg h1]
  | false => rfl
def datRes (s : XStore) : V := .agg [.pv (.str s.name), datL (s.items.map XItem.e), .pv (.int .i64 s.auto)]
def setRes (x : XStore × Bool) : V := .tup [(true, [.pv (.str x.1.name), datL (x.1.items.map XItem.e), .pv (.int .i64 x.1.auto)]), (false, [.pv (.bool x.2)])]
theorem impl_SetItemField_ok {w : XWrite} (hB : B ≤ 1048576) (h16 : 16 ≤ B) (hs : s.Ok B) (hw : w.Ok B) : callL Ph extF 326 [.agg [.pv (.str s.name), .pv (.lst (s.items.map XItem.e)), .pv (.int .i64 s.auto)], .agg [.pv (.int .i64 w.dev), .pv (.int .i64 w.seq), .pv (.int .i64 w.key.kind), .pv (.int .i64 w.key.n), .pv (.str w.key.text), .pv (.str w.field), .pv (.int .i64 w.n)]] = some (setRes (setItemX s w)) := by
  have hw' := hw
  obtain ⟨_, _, hk, hf, hn⟩ := hw'
  have e1 := impl_FindItemX_ok (k := w.key) (by unfold maxLen; omega) hs
  have e2 := impl_SetField_ok hB (recAt_ok (k := w.key) hs) hf hn
  have e3 := impl_copyStoreX_ok hB hs
  have hr := setR_ok (B := B) (by omega) (recAt_ok (k := w.key) hs) hf hn
  have e4 := impl_PutItem_ok hB hs hk hr
  unfold setItemX
  unfold stRes at e3
  have hrec : (fndX s w.key < 0 ∧ recAt s w.key = ⟨[]⟩) ∨ ∃ j, ∃ hj : j < s.items.length, fndX s w.key = (j : Int) ∧ recAt s w.key = s.items[j].rcd := by
    by_cases q : fndX s w.key < 0
    · exact .inl ⟨q, by unfold recAt; rw [if_neg (by omega)]⟩
    · obtain ⟨j, hj, h1, _⟩ := fndX_at q
      refine .inr ⟨j, hj, h1, ?_⟩
      unfold recAt
      rw [if_pos (by omega), h1]
      simp [hj]
  generalize setR (recAt s w.key) w.field w.n = x at e2 e4 hr ⊢
  generalize putX s w.key x.1 = y at e4 ⊢
  obtain ⟨xr, xb⟩ := x
  unfold recRes at e2
  unfold putRes at e4
  unfold setRes
  refine callL_wp (fn := f_impl_SetItemField) rfl ?_
  rcases hrec with ⟨q, h0⟩ | ⟨j, hj, hfi, h0⟩
  · rw [h0] at e2
    simp only [List.map_nil] at e2
    generalize fndX s w.key = I at e1 q
    have q2 : ¬ 0 ≤ I := by omega
    cases xb
    · rcases own_dat 4 (s.items.map XItem.e) with ⟨_, o1, o2⟩ | ⟨_, o1, o2⟩ <;> rw [o1] at e3 <;> simp only [o2] <;> simp [f_impl_SetItemField, e1, e2, e3, q, q2, o2]
    · rcases own_dat 4 (y.1.items.map XItem.e) with ⟨_, o1, o2⟩ | ⟨_, o1, o2⟩ <;> rw [o1] at e4 <;> simp only [o2] <;> simp [f_impl_SetItemField, e1, e2, e4, q, q2, o2]
  · rw [h0] at e2
    rw [hfi] at e1
    have hx := XItem_e s.items[j]
    cases xb
    · rcases own_dat 4 (s.items.map XItem.e) with ⟨_, o1, o2⟩ | ⟨_, o1, o2⟩ <;> rw [o1] at e3 <;> simp only [o2] <;> simp [f_impl_SetItemField, e1, e2, e3, hj, hx, o2]
    · rcases own_dat 4 (y.1.items.map XItem.e) with ⟨_, o1, o2⟩ | ⟨_, o1, o2⟩ <;> rw [o1] at e4 <;> simp only [o2] <;> simp [f_impl_SetItemField, e1, e2, e4, hj, hx, o2]
theorem spec_SetItemField_ok {w : XWrite} (hB : B ≤ 1048576) (h16 : 16 ≤ B) (hs : s.Ok B) (hw : w.Ok B) : callL Ph extF 323 [.agg [.pv (.str s.name), .pv (.lst (s.items.map XItem.e)), .pv (.int .i64 s.auto)], .agg [.pv (.int .i64 w.dev), .pv (.int .i64 w.seq), .pv (.int .i64 w.key.kind), .pv (.int .i64 w.key.n), .pv (.str w.key.text), .pv (.str w.field), .pv (.int .i64 w.n)]] = some (setRes (setItemX s w)) := by
  have hw' := hw
  obtain ⟨_, _, hk, hf, hn⟩ := hw'
  have e1 := spec_FindItemX_ok (k := w.key) (by unfold maxLen; omega) hs
  have e2 := spec_SetField_ok hB (recAt_ok (k := w.key) hs) hf hn
  have e3 := spec_copyStoreX_ok hB hs
  have hr := setR_ok (B := B) (by omega) (recAt_ok (k := w.key) hs) hf hn
  have e4 := spec_PutItem_ok hB hs hk hr
  unfold setItemX
  unfold stRes at e3
  have hrec : (fndX s w.key < 0 ∧ recAt s w.key = ⟨[]⟩) ∨ ∃ j, ∃ hj : j < s.items.length, fndX s w.key = (j : Int) ∧ recAt s w.key = s.items[j].rcd := by
    by_cases q : fndX s w.key < 0
    · exact .inl ⟨q, by unfold recAt; rw [if_neg (by omega)]⟩
    · obtain ⟨j, hj, h1, _⟩ := fndX_at q
      refine .inr ⟨j, hj, h1, ?_⟩
      unfold recAt
      rw [if_pos (by omega), h1]
      simp [hj]
  generalize setR (recAt s w.key) w.field w.n = x at e2 e4 hr ⊢
  generalize putX s w.key x.1 = y at e4 ⊢
  obtain ⟨xr, xb⟩ := x
  unfold recRes at e2
  unfold putRes at e4
  unfold setRes
  refine callL_wp (fn := f_spec_SetItemField) rfl ?_
  rcases hrec with ⟨q, h0⟩ | ⟨j, hj, hfi, h0⟩
  · rw [h0] at e2
    simp only [List.map_nil] at e2
    generalize fndX s w.key = I at e1 q
    have q2 : ¬ 0 ≤ I := by omega
    cases xb
    · rcases own_dat 4 (s.items.map XItem.e) with ⟨_, o1, o2⟩ | ⟨_, o1, o2⟩ <;> rw [o1] at e3 <;> simp only [o2] <;> simp [f_spec_SetItemField, e1, e2, e3, q, q2, o2]
    · rcases own_dat 4 (y.1.items.map XItem.e) with ⟨_, o1, o2⟩ | ⟨_, o1, o2⟩ <;> rw [o1] at e4 <;> simp only [o2] <;> simp [f_spec_SetItemField, e1, e2, e4, q, q2, o2]
  · rw [h0] at e2
    rw [hfi] at e1
    have hx := XItem_e s.items[j]
    cases xb
    · rcases own_dat 4 (s.items.map XItem.e) with ⟨_, o1, o2⟩ | ⟨_, o1, o2⟩ <;> rw [o1] at e3 <;> simp only [o2] <;> simp [f_spec_SetItemField, e1, e2, e3, hj, hx, o2]
    · rcases own_dat 4 (y.1.items.map XItem.e) with ⟨_, o1, o2⟩ | ⟨_, o1, o2⟩ <;> rw [o1] at e4 <;> simp only [o2] <;> simp [f_spec_SetItemField, e1, e2, e4, hj, hx, o2]

def applyX (s : XStore) (ws : List XWrite) : XStore := ws.foldl (fun s w => (setItemX s w).1) s
theorem applyX_take {ws : List XWrite} {k : Nat} (hk : k < ws.length) : applyX s (ws.take (k + 1)) = (setItemX (applyX s (ws.take k)) ws[k]).1 := by
  unfold applyX
  rw [List.take_succ_eq_append_getElem hk, List.foldl_append]
  rfl
theorem applyX_ok (h16 : 16 ≤ B) : ∀ {ws : List XWrite} {s : XStore}, s.Ok B → (∀ w ∈ ws, w.Ok B) → (applyX s ws).Ok B
  | [], s, hs, _ => hs
  | w :: ws, s, hs, hw => by
    unfold applyX
    rw [List.foldl_cons]
    exact applyX_ok h16 (setItemX_ok h16 hs (hw w (by simp))) (fun x hx => hw x (by simp [hx]))
theorem XWrite.len (x : XWrite) : x.e.length = 7 := rfl
end
end Gi
