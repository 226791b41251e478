/- Marks are few; what is lent. -/
import Derived.Test.YtbjjahmdgplbeaaGreatGpr
namespace Gi
open Go Go.RowKit
set_option linter.unusedVariables false
set_option linter.unusedSimpArgs false

mutual
def nar : PTy → Bool
  | .lst ts => decide (ts.length ≤ 64) && narL ts
  | _ => true
def narL : List PTy → Bool
  | [] => true
  | t :: ts => nar t && narL ts
end
mutual
theorem mkP_cnt (mT : Int → List UInt8) : ∀ (p : PV) (t : PTy) (k : Int), Has t p → nar t = true → (mkP mT p k).2 ≤ k + 1 + 64 * (sz p : Int)
  | .int κ n, t, k, h, hn => by simp only [mkP, sz]; omega
  | .bool b, t, k, h, hn => by simp only [mkP, sz]; omega
  | .str s, t, k, h, hn => by simp only [mkP, sz]; omega
  | .lst rows, t, k, h, hn => by
    cases t with
    | lst ts =>
      simp only [nar, Bool.and_eq_true, decide_eq_true_eq] at hn
      have := mkR_cnt mT rows ts k (Has_rows h).2 hn.1 hn.2
      rw [sz_lst]
      simp only [mkP]
      omega
    | int κ => simp [Has] at h
    | bool => simp [Has] at h
    | str => simp [Has] at h
theorem mkL_cnt (mT : Int → List UInt8) : ∀ (ps : List PV) (ts : List PTy) (k : Int), HasL ts ps → narL ts = true → (mkL mT ps k).2 ≤ k + ps.length + 64 * (szL ps : Int)
  | [], ts, k, h, hn => by simp only [mkL, szL, List.length_nil]; omega
  | p :: ps, [], k, h, hn => by simp [HasL] at h
  | p :: ps, t :: ts, k, h, hn => by
    simp only [narL, Bool.and_eq_true] at hn
    have h1 : Has t p ∧ HasL ts ps := by simpa only [HasL] using h
    have a := mkP_cnt mT p t k h1.1 hn.1
    have b := mkL_cnt mT ps ts (mkP mT p k).2 h1.2 hn.2
    simp only [mkL, szL, List.length_cons]
    omega
theorem mkR_cnt (mT : Int → List UInt8) : ∀ (rows : List (List PV)) (ts : List PTy) (k : Int), (∀ r ∈ rows, HasL ts r) → ts.length ≤ 64 → narL ts = true → (mkR mT rows k).2 ≤ k + 64 * ((rows.length : Int) + (szRows rows : Int))
  | [], ts, k, h, hl, hn => by simp only [mkR, szRows, List.length_nil]; omega
  | r :: rows, ts, k, h, hl, hn => by
    have hr := h r (by simp)
    have a := mkL_cnt mT r ts k hr hn
    have b := mkR_cnt mT rows ts (mkL mT r k).2 (fun r m => h r (by simp [m])) hl hn
    have := HasL_len hr
    simp only [mkR, szRows, List.length_cons]
    omega
end
theorem msL_cnt (mT : Int → List UInt8) : ∀ (ps : List PV) (ts : List PTy) (k : Int), HasL ts ps → narL ts = true → (msL mT ps k).2 ≤ k + 64 * (szL ps : Int)
  | [], ts, k, h, hn => by simp only [msL, szL]; omega
  | p :: ps, [], k, h, hn => by simp [HasL] at h
  | p :: ps, t :: ts, k, h, hn => by
    simp only [narL, Bool.and_eq_true] at hn
    have h1 : Has t p ∧ HasL ts ps := by simpa only [HasL] using h
    cases p with
    | lst rows =>
      cases t with
      | lst us =>
        have hn1 := hn.1
        simp only [nar, Bool.and_eq_true, decide_eq_true_eq] at hn1
        have a := mkR_cnt mT rows us k (Has_rows h1.1).2 hn1.1 hn1.2
        have b := msL_cnt mT ps ts (mkR mT rows k).2 h1.2 hn.2
        simp only [msL, szL, sz_lst]
        omega
      | int κ => simp [Has] at h1
      | bool => simp [Has] at h1
      | str => simp [Has] at h1
    | int κ n => have b := msL_cnt mT ps ts k h1.2 hn.2; simp only [msL, szL]; omega
    | bool c => have b := msL_cnt mT ps ts k h1.2 hn.2; simp only [msL, szL]; omega
    | str s => have b := msL_cnt mT ps ts k h1.2 hn.2; simp only [msL, szL]; omega

theorem own_set {ts : List PTy} {ps : List PV} (h : HasL ts ps) : (ownL ts ps).map setL = ps.map .pv := by
  refine row_ind (P := fun ts ps => (ownL ts ps).map setL = ps.map .pv) rfl ?_ ?_ ts ps h
  · intro us rows ts ps _ _ ih
    cases rows <;> simp only [ownL, ownC, List.map_cons, setL, ih]
  · intro t p ts ps h1 ht hp _ ih
    simp only [ownL, has_flat ht h1, List.map_cons, setL, ih]
theorem own_thawZ {ts : List PTy} {ps : List PV} (h : HasL ts ps) (hh : List AObj) : thawZ hh (.agg (ownL ts ps)) = (.agg (ceL hh.length ts ps), hh ++ zsL ts ps) := by
  have key : ∀ (ts : List PTy) (ps : List PV), HasL ts ps → ∀ hh : List AObj, ∃ ds, thawL hh (ownL ts ps) = (ceL hh.length ts ps, hh ++ ds) ∧ ds.map AObj.zone = zsL ts ps := by
    refine row_ind ?_ ?_ ?_
    · intro hh; exact ⟨[], by simp [ownL, thawL, ceL], rfl⟩
    · intro us rows ts ps _ _ ih hh
      cases rows with
      | nil =>
        obtain ⟨ds, e1, e2⟩ := ih (hh ++ [.arr us.length []])
        refine ⟨.arr us.length [] :: ds, ?_, by simp only [List.map_cons, e2, AObj.zone, zsL]⟩
        simp only [ownL, ownC, thawL, e1, ceL, List.length_append, List.length_singleton, List.append_assoc, List.cons_append, List.nil_append]
      | cons r rows =>
        obtain ⟨ds, e1, e2⟩ := ih (hh ++ [.darr us.length (r :: rows)])
        refine ⟨.darr us.length (r :: rows) :: ds, ?_, by simp only [List.map_cons, e2, AObj.zone, zsL]⟩
        simp only [ownL, ownC, thawL, e1, ceL, List.length_append, List.length_singleton, List.append_assoc, List.cons_append, List.nil_append]
    · intro t p ts ps h1 ht hp _ ih hh
      obtain ⟨ds, e1, e2⟩ := ih hh
      refine ⟨ds, ?_, by rw [e2, zsL_flat ht]⟩
      simp only [ownL, has_flat ht h1]
      rw [ceL_flat ht]
      simp only [thawL, e1]
  obtain ⟨ds, e1, _⟩ := key ts ps h hh
  obtain ⟨ds', f1, f2⟩ := key ts ps h []
  simp only [thawZ, thaw, e1, f1, List.nil_append, f2]
end Gi
