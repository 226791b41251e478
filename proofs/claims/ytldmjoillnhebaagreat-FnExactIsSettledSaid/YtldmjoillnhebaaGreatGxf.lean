/- impl.PutItem computes putX. -/
import Derived.Test.YtldmjoillnhebaaGreatGxp
import Derived.Test.YtldmjoillnhebaaGreatGsq
namespace Gi
open Go Go.RowKit
set_option linter.unusedSimpArgs false
set_option linter.unusedVariables false
set_option maxHeartbeats 4000000
set_option maxRecDepth 4000

def putRes (x : XStore × Bool) : V := .tup [(true, [.pv (.str x.1.name), ownZ 4 (x.1.items.map XItem.e), .pv (.int .i64 x.1.auto)]), (false, [.pv (.bool x.2)])]
section
variable {B : Nat} {s : XStore} {k : XKey} {r : XRecord}
theorem setI_ok (hs : s.Ok B) (hk : k.Ok B) (hr : r.Ok B) (j : Nat) : XStore.Ok B ⟨s.name, s.items.set j ⟨k, r⟩, s.auto⟩ := by
  obtain ⟨h1, ⟨h2, h3⟩, h4⟩ := hs
  refine ⟨h1, ⟨by simpa using h2, fun x hx => ?_⟩, h4⟩
  rcases List.mem_or_eq_of_mem_set hx with hx | rfl
  · exact h3 x hx
  · exact ⟨hk, hr⟩
theorem insX_len (s : XStore) (k : XKey) (r : XRecord) : (insX s k r).length = s.items.length + 1 := by
  have := posI_le s.items k
  unfold insX; simp; omega
theorem autoN_in (ha : inI s.auto) (hk : inI k.n) : inI (autoN s k) := by
  unfold autoN
  split
  · exact hk
  · exact ha
theorem insX_ok (hs : s.Ok B) (hk : k.Ok B) (hr : r.Ok B) : XStore.Ok (B + 1) ⟨s.name, insX s k r, autoN s k⟩ := by
  obtain ⟨h1, ⟨h2, h3⟩, h4⟩ := hs
  refine ⟨by simp only; omega, ⟨by simp only [insX_len]; omega, fun x hx => ?_⟩, autoN_in h4 hk.2.1⟩
  unfold insX at hx
  rw [List.mem_append, List.mem_cons] at hx
  rcases hx with hx | rfl | hx
  · exact XItem.Ok.mono (by omega) (h3 x (List.mem_of_mem_take hx))
  · exact ⟨XKey.Ok.mono (by omega) hk, XRecord.Ok.mono (by omega) hr⟩
  · exact XItem.Ok.mono (by omega) (h3 x (List.mem_of_mem_drop hx))
theorem insI_map (k : XKey) (r : XRecord) (xs : List XItem) (p : Nat) : (xs.take p ++ ((⟨k, r⟩ : XItem) :: xs.drop p)).map XItem.e = (xs.map XItem.e).take p ++ ([.int .i64 k.kind, .int .i64 k.n, .str k.text, .lst (r.fs.map XField.e)] :: (xs.map XItem.e).drop p) := by simp [XItem.e]
theorem impl_FindItemX_ok (hB : B ≤ maxLen) (hs : s.Ok B) : callL Ph extF 188 [.agg [.pv (.str s.name), .pv (.lst (s.items.map XItem.e)), .pv (.int .i64 s.auto)], .agg [.pv (.int .i64 k.kind), .pv (.int .i64 k.n), .pv (.str k.text)]] = some (vint .i64 (fndX s k)) := impl_FindItem_ok (has_map (fun _ q => XItem.has hB q) hB hs.2.1) _ _ _
theorem spec_FindItemX_ok (hB : B ≤ maxLen) (hs : s.Ok B) : callL Ph extF 184 [.agg [.pv (.str s.name), .pv (.lst (s.items.map XItem.e)), .pv (.int .i64 s.auto)], .agg [.pv (.int .i64 k.kind), .pv (.int .i64 k.n), .pv (.str k.text)]] = some (vint .i64 (fndX s k)) := spec_FindItem_ok (has_map (fun _ q => XItem.has hB q) hB hs.2.1) _ _ _
theorem fndX_at (h : ¬ fndX s k < 0) : ∃ j, ∃ hj : j < s.items.length, fndX s k = (j : Int) ∧ s.items[j].key = k := by
  obtain ⟨j, hj, hf⟩ := findI_at h
  have hj' : j < s.items.length := by simpa using hj
  exact ⟨j, hj', hf, fndX_hit hf hj'⟩
theorem putX_bad (h : isStoreX s = false ∨ isKeyX k = false) : putX s k r = (s, false) := by
  unfold putX
  rw [if_neg]
  rcases h with h | h <;> simp [h]
theorem putX_set {j : Nat} (hs : isStoreX s = true) (hk : isKeyX k = true) (hf : fndX s k = (j : Int)) : putX s k r = cond (isRecX r) (⟨s.name, s.items.set j ⟨k, r⟩, s.auto⟩, true) (s, false) := by
  unfold putX
  cases hr : isRecX r with
  | true => rw [if_pos ⟨hs, hk, rfl⟩, if_pos (by omega), hf]; rfl
  | false => rw [if_neg (by simp)]; rfl
theorem putX_ins (hs : isStoreX s = true) (hk : isKeyX k = true) (hf : fndX s k < 0) : putX s k r = cond (isRecX r && decide (s.items.length + 1 ≤ 16)) (⟨s.name, insX s k r, autoN s k⟩, true) (s, false) := by
  unfold putX
  cases hr : isRecX r with
  | true =>
    rw [if_pos ⟨hs, hk, rfl⟩, if_neg (by omega)]
    by_cases q : 16 ≤ s.items.length
    · rw [if_pos q]
      have : decide (s.items.length + 1 ≤ 16) = false := by simp; omega
      rw [this]; rfl
    · rw [if_neg q]
      have : decide (s.items.length + 1 ≤ 16) = true := by simp; omega
      rw [this]; rfl
  | false => rw [if_neg (by simp)]; rfl
theorem isK_map {j : Nat} (hj : j < s.items.length) (hk : s.items[j].key = k) : (s.items.map XItem.e).set j [.int .i64 s.items[j].key.kind, .int .i64 s.items[j].key.n, .str s.items[j].key.text, .lst (r.fs.map XField.e)] = (s.items.set j ⟨k, r⟩).map XItem.e := by
  rw [List.map_set, hk]; rfl

end
end Gi
