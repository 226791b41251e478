/- Of this proof. -/
import Derived.Test.YthaajpjcibaopaaGreatGpr
import Derived.Test.YthaajpjcibaopaaGreatGsq
import Derived.Test.YthaajpjcibaopaaGreatGxt
namespace Gi
open Go Go.RowKit
set_option linter.unusedVariables false
set_option linter.unusedSimpArgs false
mutual
def nar : PTy → Bool
 | .lst ts => decide (ts.length ≤ 64) && narL ts
 | _ => true
def narL : List PTy → Bool
 | [] => true
 | t :: ts => nar t && narL ts
end
mutual
theorem mkP_cnt (mT : Int → List UInt8) : ∀ (p : PV) (t : PTy) (k : Int), Has t p → nar t = true → (mkP mT p k).2 ≤ k + 1 + 64 * (sz p : Int)
 | .int κ n, t, k, h, hn => by simp only [mkP, sz]; omega
 | .bool b, t, k, h, hn => by simp only [mkP, sz]; omega
 | .str s, t, k, h, hn => by simp only [mkP, sz]; omega
 | .lst rows, t, k, h, hn => by
  cases t with
  | lst ts =>
   simp only [nar, Bool.and_eq_true, decide_eq_true_eq] at hn
   have := mkR_cnt mT rows ts k (Has_rows h).2 hn.1 hn.2
   rw [sz_lst]
   simp only [mkP]
   omega
  | int κ => simp [Has] at h
  | bool => simp [Has] at h
  | str => simp [Has] at h
theorem mkL_cnt (mT : Int → List UInt8) : ∀ (ps : List PV) (ts : List PTy) (k : Int), HasL ts ps → narL ts = true → (mkL mT ps k).2 ≤ k + ps.length + 64 * (szL ps : Int)
 | [], ts, k, h, hn => by simp only [mkL, szL, List.length_nil]; omega
 | p :: ps, [], k, h, hn => by simp [HasL] at h
 | p :: ps, t :: ts, k, h, hn => by
  simp only [narL, Bool.and_eq_true] at hn
  have h1 : Has t p ∧ HasL ts ps := by simpa only [HasL] using h
  have a := mkP_cnt mT p t k h1.1 hn.1
  have b := mkL_cnt mT ps ts (mkP mT p k).2 h1.2 hn.2
  simp only [mkL, szL, List.length_cons]
  omega
theorem mkR_cnt (mT : Int → List UInt8) : ∀ (rows : List (List PV)) (ts : List PTy) (k : Int), (∀ r ∈ rows, HasL ts r) → ts.length ≤ 64 → narL ts = true → (mkR mT rows k).2 ≤ k + 64 * ((rows.length : Int) + (szRows rows : Int))
 | [], ts, k, h, hl, hn => by simp only [mkR, szRows, List.length_nil]; omega
 | r :: rows, ts, k, h, hl, hn => by
  have hr := h r (by simp)
  have a := mkL_cnt mT r ts k hr hn
  have b := mkR_cnt mT rows ts (mkL mT r k).2 (fun r m => h r (by simp [m])) hl hn
  have := HasL_len hr
  simp only [mkR, szRows, List.length_cons]
  omega
end
theorem msL_cnt (mT : Int → List UInt8) : ∀ (ps : List PV) (ts : List PTy) (k : Int), HasL ts ps → narL ts = true → (msL mT ps k).2 ≤ k + 64 * (szL ps : Int)
 | [], ts, k, h, hn => by simp only [msL, szL]; omega
 | p :: ps, [], k, h, hn => by simp [HasL] at h
 | p :: ps, t :: ts, k, h, hn => by
  simp only [narL, Bool.and_eq_true] at hn
  have h1 : Has t p ∧ HasL ts ps := by simpa only [HasL] using h
  cases p with
  | lst rows =>
   cases t with
   | lst us =>
    have hn1 := hn.1
    simp only [nar, Bool.and_eq_true, decide_eq_true_eq] at hn1
    have a := mkR_cnt mT rows us k (Has_rows h1.1).2 hn1.1 hn1.2
    have b := msL_cnt mT ps ts (mkR mT rows k).2 h1.2 hn.2
    simp only [msL, szL, sz_lst]
    omega
   | int κ => simp [Has] at h1
   | bool => simp [Has] at h1
   | str => simp [Has] at h1
  | int κ n => have b := msL_cnt mT ps ts k h1.2 hn.2; simp only [msL, szL]; omega
  | bool c => have b := msL_cnt mT ps ts k h1.2 hn.2; simp only [msL, szL]; omega
  | str s => have b := msL_cnt mT ps ts k h1.2 hn.2; simp only [msL, szL]; omega
theorem own_set {ts : List PTy} {ps : List PV} (h : HasL ts ps) : (ownL ts ps).map setL = ps.map .pv := by
 refine row_ind (P := fun ts ps => (ownL ts ps).map setL = ps.map .pv) rfl ?_ ?_ ts ps h
 ·intro us rows ts ps _ _ ih
  cases rows <;> simp only [ownL, ownC, List.map_cons, setL, ih]
 ·intro t p ts ps h1 ht hp _ ih
  simp only [ownL, has_flat ht h1, List.map_cons, setL, ih]
theorem own_thawZ {ts : List PTy} {ps : List PV} (h : HasL ts ps) (hh : List AObj) : thawZ hh (.agg (ownL ts ps)) = (.agg (ceL hh.length ts ps), hh ++ zsL ts ps) := by
 have key : ∀ (ts : List PTy) (ps : List PV), HasL ts ps → ∀ hh : List AObj, ∃ ds, thawL hh (ownL ts ps) = (ceL hh.length ts ps, hh ++ ds) ∧ ds.map AObj.zone = zsL ts ps := by
  refine row_ind ?_ ?_ ?_
  ·intro hh; exact ⟨[], by simp [ownL, thawL, ceL], rfl⟩
  ·intro us rows ts ps _ _ ih hh
   cases rows with
   | nil =>
    obtain ⟨ds, e1, e2⟩ := ih (hh ++ [.arr us.length []])
    refine ⟨.arr us.length [] :: ds, ?_, by simp only [List.map_cons, e2, AObj.zone, zsL]⟩
    simp only [ownL, ownC, thawL, e1, ceL, List.length_append, List.length_singleton, List.append_assoc, List.cons_append, List.nil_append]
   | cons r rows =>
    obtain ⟨ds, e1, e2⟩ := ih (hh ++ [.darr us.length (r :: rows)])
    refine ⟨.darr us.length (r :: rows) :: ds, ?_, by simp only [List.map_cons, e2, AObj.zone, zsL]⟩
    simp only [ownL, ownC, thawL, e1, ceL, List.length_append, List.length_singleton, List.append_assoc, List.cons_append, List.nil_append]
  ·intro t p ts ps h1 ht hp _ ih hh
   obtain ⟨ds, e1, e2⟩ := ih hh
   refine ⟨ds, ?_, by rw [e2, zsL_flat ht]⟩
   simp only [ownL, has_flat ht h1]
   rw [ceL_flat ht]
   simp only [thawL, e1]
 obtain ⟨ds, e1, _⟩ := key ts ps h hh
 obtain ⟨ds', f1, f2⟩ := key ts ps h []
 simp only [thawZ, thaw, e1, f1, List.nil_append, f2]
set_option maxHeartbeats 4000000
set_option maxRecDepth 4000
def extF : Nat → List V → Option V := fun _ _ => none
theorem tidyF : Tidy (callL Ph extF) := tidy_callL fun k xz r h => by cases h
theorem binStr_neq {a b : List UInt8} : binStr .neq a b = some (vbool (!(a == b))) := rfl
theorem binStr_eql {a b : List UInt8} : binStr .eql a b = some (vbool (a == b)) := rfl
theorem wrap_1 : IntKind.i64.wrap 1 = 1 := by rw [IntKind.wrap_i64]; rfl
theorem idxS {j n : Nat} (hn : n ≤ maxLen) (hj : j + 1 < n) : IntKind.i64.wrap ((j : Int) + 1 + 1) = (j : Int) + 1 + 1 ∧ IntKind.i64.wrap (j : Int) = (j : Int) ∧ (0 : Int) < (j : Int) + 1 ∧ (0 : Int) ≤ (j : Int) + 1 ∧ ((j : Int) + 1).toNat = j + 1 ∧ (j : Int) + 1 < (n : Int) := by
 unfold maxLen at hn
 refine ⟨?_, ?_, by omega, by omega, by omega, by omega⟩ <;> rw [IntKind.wrap_i64] <;> omega
theorem lims {m z : Nat} (hm : m ≤ 4194304) (hz : z ≤ 4096) : m * z ≤ 140737488355328 ∧ m ≤ 9223372036854775807 ∧ m ≤ 9223372036854775806 ∧ m < 9223372036854775807 := by
 refine ⟨?_, by omega, by omega, by omega⟩
 calc m * z ≤ 4194304 * 4096 := Nat.mul_le_mul hm hz
  _ ≤ 140737488355328 := by decide
theorem take_nextE {α : Type} {e : α → List PV} {xs : List α} {k : Nat} (hk : k < xs.length) : (xs.map e).take (k + 1) = (xs.map e).take k ++ [e xs[k]] := by
 rw [List.take_succ_eq_append_getElem (by simpa using hk)]; simp
theorem flat_map {α : Type} {e : α → List PV} (h : ∀ x, (e x).all PV.flat = true) (xs : List α) : flatRows (xs.map e) = true := by
 simp only [flatRows, List.all_map, List.all_eq_true, Function.comp]; exact fun x _ => by simpa [List.all_eq_true] using h x
theorem wid_map {α : Type} {e : α → List PV} {z : Nat} (h : ∀ x, (e x).length = z) (xs : List α) : ((xs.map e).all fun r => r.length == z) = true := by
 simp only [List.all_map, List.all_eq_true, Function.comp, beq_iff_eq]; exact fun x _ => h x
theorem flat_bytes (s : List UInt8) : flatRows (ofBytes s) = true := flat_map (e := fun b : UInt8 => [PV.int .u8 b.toNat]) (fun _ => rfl) s
theorem wid_bytes (s : List UInt8) : ((ofBytes s).all fun r => r.length == 1) = true := wid_map (e := fun b : UInt8 => [PV.int .u8 b.toNat]) (z := 1) (fun _ => rfl) s
def nd (z : Nat) : List (List PV) → L
 | [] => .nil
 | r :: rs => .down z (r :: rs)
def ownZ (z : Nat) : List (List PV) → L
 | [] => .nil
 | r :: rs => .own z (r :: rs)
def datL : List (List PV) → L
 | [] => .nil
 | r :: rs => .pv (.lst (r :: rs))
theorem nd_or (z : Nat) (rows : List (List PV)) : (rows = [] ∧ nd z rows = .nil) ∨ (rows ≠ [] ∧ nd z rows = .down z rows) := by
 cases rows with
 | nil => exact .inl ⟨rfl, rfl⟩
 | cons r rs => exact .inr ⟨by simp, rfl⟩
theorem setL_nd {z : Nat} {rows : List (List PV)} : setL (nd z rows) = datL rows := by cases rows <;> rfl
theorem setL_own {z : Nat} {rows : List (List PV)} : setL (ownZ z rows) = datL rows := by cases rows <;> rfl
theorem setL_dat {rows : List (List PV)} : setL (datL rows) = datL rows := by cases rows <;> rfl
theorem view_dat {h : List AObj} {rows : List (List PV)} : L.view h (datL rows) = some (.lst rows) := by cases rows <;> rfl
theorem plain_dat {rows : List (List PV)} : plain (datL rows) = true := by cases rows <;> rfl
theorem mut_dat {h : List AObj} {rows : List (List PV)} : L.mut h (datL rows) = false := by cases rows <;> rfl
theorem freeze_dat {h : List AObj} {rows : List (List PV)} : freezeL h (datL rows) = h := by cases rows <;> rfl
theorem give_dat {h : List AObj} {rows : List (List PV)} : giveL h (datL rows) = some (datL rows) := by cases rows <;> rfl
theorem ren_dat {f : List Nat} {rows : List (List PV)} : (datL rows).ren f = some (datL rows) := by cases rows <;> rfl
theorem notArr_dat {o : Nat} {rows : List (List PV)} : L.notArr o (datL rows) = true := by cases rows <;> rfl
theorem flat_dat {rows : List (List PV)} : L.flat (datL rows) = false := by cases rows <;> rfl
theorem unsub_dat {rows : List (List PV)} : L.unsub (datL rows) = datL rows := by cases rows <;> rfl
theorem thaw_dat {h : List AObj} {rows : List (List PV)} {ls : List L} : thawL h (datL rows :: ls) = ((datL rows :: (thawL h ls).1), (thawL h ls).2) := by cases rows <;> rfl
theorem arrs_e : arrsOf [] = [] := rfl
theorem arrs_pv {p : PV} {ls : List L} : arrsOf (.pv p :: ls) = arrsOf ls := rfl
theorem arrs_nil {ls : List L} : arrsOf (.nil :: ls) = arrsOf ls := rfl
theorem arrs_arr {o : Nat} {ls : List L} : arrsOf (.arr o :: ls) = o :: arrsOf ls := rfl
theorem arrs_dat {rows : List (List PV)} {ls : List L} : arrsOf (datL rows :: ls) = arrsOf ls := by cases rows <;> rfl
theorem Kn.q (f : List Nat) {t t' : List V} {h h' : List AObj} (ho : relObs f h' f h := by simp [keepM_t, keepM_f, keepM_n, setT_c, setT_n, relVs, relV, relLs, relL, relTs, relObs, relOb, L.ren, ren_dat]) (ht : relVs f t t' := by simp [keepM_t, keepM_f, keepM_n, setT_c, setT_n, relVs, relV, relLs, relL, relTs, relObs, relOb, L.ren, ren_dat]) (nd : f.Nodup := by decide) : Kn ⟨t, h⟩ ⟨t', h'⟩ := Kn.of f nd ho ht
end Gi
