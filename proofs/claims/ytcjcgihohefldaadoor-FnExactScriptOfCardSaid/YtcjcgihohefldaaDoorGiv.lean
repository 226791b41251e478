/- Small facts on typed cells and on what is left, for the texts that a program writes. -/
import Derived.Test.YtcjcgihohefldaaDoorGiu
namespace Gi
open Go Go.RowKit
set_option linter.unusedVariables false
set_option linter.unusedSimpArgs false

theorem HasL_cons {t : PTy} {ts : List PTy} {ps : List PV} (h : HasL (t :: ts) ps) : ∃ p r, ps = p :: r ∧ Has t p ∧ HasL ts r := by
  cases ps with
  | nil => cases h
  | cons p r => exact ⟨p, r, rfl, h.1, h.2⟩
theorem HasL_nil {ps : List PV} (h : HasL [] ps) : ps = [] := by
  cases ps with
  | nil => rfl
  | cons p r => cases h
theorem Has_int {k : IntKind} {p : PV} (h : Has (.int k) p) : ∃ n, p = .int k n := by
  cases p with
  | int k' n => exact ⟨n, by rw [h.1]⟩
  | _ => cases h
theorem Has_str {p : PV} (h : Has .str p) : ∃ s, p = .str s := by
  cases p with
  | str s => exact ⟨s, rfl⟩
  | _ => cases h
theorem Has_bool {p : PV} (h : Has .bool p) : ∃ b, p = .bool b := by
  cases p with
  | bool b => exact ⟨b, rfl⟩
  | _ => cases h
theorem Has_lst {ts : List PTy} {p : PV} (h : Has (.lst ts) p) : ∃ rows, p = .lst rows := by
  cases p with
  | lst rows => exact ⟨rows, rfl⟩
  | _ => cases h
theorem Has_rows {ts : List PTy} {rows : List (List PV)} (h : Has (.lst ts) (.lst rows)) : rows.length ≤ maxLen ∧ ∀ r ∈ rows, HasL ts r := h
theorem HasL_len : ∀ {ts : List PTy} {ps : List PV}, HasL ts ps → ps.length = ts.length
  | [], ps, h => by rw [HasL_nil h]; rfl
  | t :: ts, ps, h => by
    obtain ⟨p, r, rfl, _, h2⟩ := HasL_cons h
    simp [HasL_len h2]
theorem szRows_mem : ∀ {rows : List (List PV)} {r : List PV}, r ∈ rows → szL r ≤ szRows rows
  | a :: rows, r, h => by
    rcases List.mem_cons.1 h with rfl | h
    · simp only [szRows]; omega
    · have := szRows_mem h
      simp only [szRows]; omega
theorem sz_lst (rows : List (List PV)) : sz (.lst rows) = rows.length + szRows rows := by simp only [sz]
theorem row_le {rows : List (List PV)} {r : List PV} (m : r ∈ rows) (h : sz (.lst rows) ≤ 1048576) : szL r ≤ 1048576 := by
  have := szRows_mem m
  rw [sz_lst] at h
  omega
theorem singles {t : PTy} : ∀ {rows : List (List PV)}, (∀ r ∈ rows, HasL [t] r) → ∃ qs : List PV, rows = qs.map fun q => [q]
  | [], _ => ⟨[], rfl⟩
  | a :: rows, h => by
    obtain ⟨qs, rfl⟩ := singles (fun r m => h r (List.mem_cons_of_mem _ m))
    obtain ⟨p, r, rfl, _, h2⟩ := HasL_cons (h a (List.mem_cons_self))
    obtain rfl := HasL_nil h2
    exact ⟨p :: qs, rfl⟩
def PTy.easy : PTy → Bool
  | .int _ => true
  | .str => true
  | _ => false
theorem plains {t : PTy} {qs : List PV} (ht : t.easy = true) (h : ∀ r ∈ (qs.map fun q => [q]), HasL [t] r) : ∀ q ∈ qs, q.plain = true := by
  intro q m
  have := (h [q] (List.mem_map.2 ⟨q, m, rfl⟩)).1
  cases t with
  | int k => obtain ⟨n, rfl⟩ := Has_int this; rfl
  | str => obtain ⟨n, rfl⟩ := Has_str this; rfl
  | _ => cases ht
def PTy.small : PTy → Bool
  | .int _ => true
  | .bool => true
  | _ => false
theorem szL_zero : ∀ {ts : List PTy} {ps : List PV}, ts.all PTy.small = true → HasL ts ps → szL ps = 0
  | [], ps, _, h => by rw [HasL_nil h]; simp only [szL]
  | t :: ts, ps, ha, h => by
    simp only [List.all_cons, Bool.and_eq_true] at ha
    obtain ⟨p, r, rfl, h1, h2⟩ := HasL_cons h
    have := szL_zero ha.2 h2
    cases t with
    | int k => obtain ⟨n, rfl⟩ := Has_int h1; simp only [szL, sz, this]
    | bool => obtain ⟨n, rfl⟩ := Has_bool h1; simp only [szL, sz, this]
    | _ => cases ha.1
theorem szRows_zero {ts : List PTy} (ha : ts.all PTy.small = true) : ∀ {rows : List (List PV)}, (∀ r ∈ rows, HasL ts r) → szRows rows = 0
  | [], _ => by simp only [szRows]
  | r :: rows, h => by
    simp only [szRows, szL_zero ha (h r (List.mem_cons_self)), szRows_zero ha (fun r m => h r (List.mem_cons_of_mem _ m))]

theorem less_lt {left : Int} {n : Nat} (h : left < n) : less left n = -1 := by unfold less; rw [if_pos h]
theorem less_lt' {left l : Int} {n : Nat} (h0 : 0 ≤ left) (q : less left n = l) (hn : l < 0) : left < n := by
  unfold less at q
  split at q
  · assumption
  · omega
theorem less_pos {left l : Int} {n : Nat} (h0 : 0 ≤ left) (q : less left n = l) (hn : ¬ l < 0) : l = left - n ∧ (n : Int) ≤ left := by
  unfold less at q
  split at q
  · omega
  · omega
theorem less_ge' {left l : Int} {n : Nat} (h1 : (n : Int) ≤ left) (h2 : l = left - n) : less left n = l := by
  unfold less
  rw [if_neg (by omega)]
  exact h2.symm

end Gi
