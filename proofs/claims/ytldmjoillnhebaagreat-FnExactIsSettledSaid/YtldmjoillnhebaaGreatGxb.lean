/- A field set in a record: what it comes to. -/
import Derived.Test.YtldmjoillnhebaaGreatGxa
import Derived.Test.YtldmjoillnhebaaGreatGvg
namespace Gi
open Go Go.RowKit
set_option linter.unusedSimpArgs false
set_option linter.unusedVariables false
set_option maxHeartbeats 4000000
set_option maxRecDepth 4000

def pos (fs : List XField) (nm : List UInt8) : Nat := fs.findIdx fun f => !(Op.bytesLess f.name nm)
theorem pos_le (fs : List XField) (nm : List UInt8) : pos fs nm ≤ fs.length := List.findIdx_le_length
theorem pos_lt {fs : List XField} {nm : List UInt8} {k : Nat} (h : k < pos fs nm) (hk : k < fs.length) : Op.bytesLess fs[k].name nm = true := by
  have := List.not_of_lt_findIdx h
  simpa using this
theorem pos_at {fs : List XField} {nm : List UInt8} (h : pos fs nm < fs.length) : Op.bytesLess fs[pos fs nm].name nm = false := by
  have := List.findIdx_getElem (w := h)
  unfold pos
  simpa using this
def setF (fs : List XField) (nm : List UInt8) (n : Int) : List XField := match fs[pos fs nm]? with
  | some f => if f.name = nm then fs.set (pos fs nm) ⟨nm, n⟩ else fs.take (pos fs nm) ++ (⟨nm, n⟩ :: fs.drop (pos fs nm))
  | none => fs.take (pos fs nm) ++ (⟨nm, n⟩ :: fs.drop (pos fs nm))
def setR (r : XRecord) (nm : List UInt8) (n : Int) : XRecord × Bool := if isRecX r = true ∧ isRecX ⟨setF r.fs nm n⟩ = true then (⟨setF r.fs nm n⟩, true) else (r, false)
def recRes (x : XRecord × Bool) : V := .tup [(true, [.own 2 (x.1.fs.map XField.e)]), (false, [.pv (.bool x.2)])]
theorem setF_len (fs : List XField) (nm : List UInt8) (n : Int) : (setF fs nm n).length ≤ fs.length + 1 := by
  have := pos_le fs nm
  unfold setF
  split
  · split
    · simp
    · simp; omega
  · simp; omega
theorem setF_mem {fs : List XField} {nm : List UInt8} {n : Int} {f : XField} (h : f ∈ setF fs nm n) : f ∈ fs ∨ f = ⟨nm, n⟩ := by
  have key : f ∈ fs.take (pos fs nm) ++ (⟨nm, n⟩ :: fs.drop (pos fs nm)) → f ∈ fs ∨ f = ⟨nm, n⟩ := fun h => by
    rw [List.mem_append, List.mem_cons] at h
    rcases h with h | h | h
    · exact .inl (List.mem_of_mem_take h)
    · exact .inr h
    · exact .inl (List.mem_of_mem_drop h)
  unfold setF at h
  split at h
  · split at h
    · exact List.mem_or_eq_of_mem_set h
    · exact key h
  · exact key h
theorem setF_ok {B : Nat} {fs : List XField} (h : fs.length ≤ B ∧ ∀ f ∈ fs, f.Ok B) {nm : List UInt8} (hn : nm.length ≤ B) {n : Int} (hi : inI n) : (setF fs nm n).length ≤ B + 1 ∧ ∀ f ∈ setF fs nm n, f.Ok (B + 1) := by
  refine ⟨by have := setF_len fs nm n; omega, fun f hf => ?_⟩
  rcases setF_mem hf with h1 | rfl
  · exact XField.Ok.mono (by omega) (h.2 f h1)
  · exact ⟨by simp only; omega, hi⟩
theorem map_len {α : Type} {e : α → List PV} {z : Nat} (h : ∀ x, (e x).length = z) (xs : List α) : (xs.map e).all (fun r => r.length == z) = true := by
  rw [List.all_eq_true]
  intro r hr
  obtain ⟨x, _, rfl⟩ := List.mem_map.1 hr
  simp [h x]
theorem XField.len (x : XField) : x.e.length = 2 := rfl
theorem XItem.len (x : XItem) : x.e.length = 4 := rfl

theorem impl_copyRecX_ok {B : Nat} (hB : B ≤ 1048576) {r : XRecord} (h : r.Ok B) : callL Ph extF 242 [.agg [.pv (.lst (r.fs.map XField.e))]] = some (.agg [.own 2 (r.fs.map XField.e)]) :=
  impl_copyRecord_ok (has_map (fun _ q => XField.has (by unfold maxLen; omega) q) (by unfold maxLen; omega) h) (by rw [List.length_map]; have := h.1; omega)
theorem spec_copyRecX_ok {B : Nat} (hB : B ≤ 1048576) {r : XRecord} (h : r.Ok B) : callL Ph extF 239 [.agg [.pv (.lst (r.fs.map XField.e))]] = some (.agg [.own 2 (r.fs.map XField.e)]) :=
  spec_l5Copy_ok (has_map (fun _ q => XField.has (by unfold maxLen; omega) q) (by unfold maxLen; omega) h) (by rw [List.length_map]; have := h.1; omega)
/-- The limits of an append. -/
theorem lims {m z : Nat} (hm : m ≤ 4194304) (hz : z ≤ 4096) : m * z ≤ 140737488355328 ∧ m ≤ 9223372036854775807 ∧ m ≤ 9223372036854775806 ∧ m < 9223372036854775807 := by
  refine ⟨?_, by omega, by omega, by omega⟩
  calc m * z ≤ 4194304 * 4096 := Nat.mul_le_mul hm hz
    _ ≤ 140737488355328 := by decide

/-! ### Names in order -/
theorem less_trans : ∀ {a b c : List UInt8}, Op.bytesLess a b = true → Op.bytesLess b c = true → Op.bytesLess a c = true
  | [], [], _, h, _ => by cases h
  | [], _ :: _, [], _, h => by cases h
  | [], _ :: _, _ :: _, _, _ => rfl
  | _ :: _, [], _, h, _ => by cases h
  | _ :: _, _ :: _, [], _, h => by cases h
  | a :: x, b :: y, c :: z, h, k => by
    simp only [Op.bytesLess, Bool.or_eq_true, Bool.and_eq_true, decide_eq_true_eq, beq_iff_eq] at h k ⊢
    rcases h with h | ⟨rfl, h⟩
    · rcases k with k | ⟨rfl, k⟩
      · exact .inl (UInt8.lt_trans h k)
      · exact .inl h
    · rcases k with k | ⟨rfl, k⟩
      · exact .inl k
      · exact .inr ⟨rfl, less_trans h k⟩
theorem less_irr : ∀ (a : List UInt8), Op.bytesLess a a = false
  | [] => rfl
  | a :: x => by simp [Op.bytesLess, UInt8.lt_irrefl, less_irr x]
def srt : List XField → Prop
  | [] => True
  | f :: t => (∀ g ∈ t, Op.bytesLess f.name g.name = true) ∧ srt t
theorem srt_of : ∀ {fs : List XField}, (∀ j (h : j + 1 < fs.length), Op.bytesLess fs[j].name fs[j + 1].name = true) → srt fs
  | [], _ => trivial
  | [f], _ => ⟨by simp, trivial⟩
  | f :: g :: t, h => by
    have ih := srt_of (fs := g :: t) (fun j hj => by have := h (j + 1) (by simpa using hj); simpa using this)
    refine ⟨fun x hx => ?_, ih⟩
    have h0 := h 0 (by simp)
    simp at h0
    rcases List.mem_cons.1 hx with rfl | hx
    · exact h0
    · exact less_trans h0 (ih.1 x hx)
theorem anyK_false {p : Nat → Bool} : ∀ {m k : Nat}, anyK p m k = false → ∀ j, k ≤ j → j < k + m → p j = false
  | 0, k, _, j, h1, h2 => by omega
  | m + 1, k, h, j, h1, h2 => by
    simp only [anyK, Bool.or_eq_false_iff] at h
    by_cases q : j = k
    · subst q; exact h.1
    · exact anyK_false h.2 j (by omega) (by omega)
theorem fName_map (fs : List XField) {j : Nat} (hj : j < fs.length) : fName (fs.map XField.e)[j]? = fs[j].name := by simp [hj, XField.e, fName]
theorem rec_srt {r : XRecord} (h : isRecX r = true) : srt r.fs := by
  unfold isRecX isRec at h
  simp only [Bool.and_eq_true, Bool.not_eq_true', List.length_map] at h
  refine srt_of fun j hj => ?_
  have := anyK_false h.1 (j + 1) (by omega) (by simpa using hj)
  simp only [badR, Bool.or_eq_false_iff, Bool.not_eq_false', fName_map r.fs (show j < r.fs.length by omega), fName_map r.fs hj] at this
  exact this.2
theorem rec_len {r : XRecord} (h : isRecX r = true) : r.fs.length ≤ 6 := by
  unfold isRecX isRec at h
  simp only [Bool.and_eq_true, decide_eq_true_eq, List.length_map] at h
  omega
/-- In a valid record the field is found where it would be put. -/
theorem find_pos {nm : List UInt8} : ∀ {fs : List XField} (o : Nat), srt fs → findI (isFd nm) (fs.map XField.e) o = (match fs[pos fs nm]? with
    | some f => if f.name = nm then ((o + pos fs nm : Nat) : Int) else -1
    | none => -1)
  | [], o, _ => rfl
  | f :: t, o, h => by
    have ih := find_pos (nm := nm) (fs := t) (o + 1) h.2
    have hd : isFd nm (XField.e f) = (f.name == nm) := rfl
    simp only [List.map_cons, findI, hd]
    by_cases h1 : f.name = nm
    · have hl : Op.bytesLess f.name nm = false := by rw [h1]; exact less_irr nm
      have hp : pos (f :: t) nm = 0 := by simp [pos, List.findIdx_cons, hl]
      rw [hp]
      simp [h1]
    · have hb : (f.name == nm) = false := by simpa using h1
      rw [hb]
      simp only [cond_false]
      cases hl : Op.bytesLess f.name nm with
      | true =>
        have hp : pos (f :: t) nm = pos t nm + 1 := by simp [pos, List.findIdx_cons, hl]
        rw [hp, ih]
        simp only [List.getElem?_cons_succ]
        cases t[pos t nm]? with
        | none => rfl
        | some g =>
          simp only
          split
          · congr 1; omega
          · rfl
      | false =>
        have hp : pos (f :: t) nm = 0 := by simp [pos, List.findIdx_cons, hl]
        rw [hp]
        simp only [List.getElem?_cons_zero, h1, if_false]
        -- no later name is nm
        have hgt : Op.bytesLess nm f.name = true := by
          have := less_total f.name nm
          rw [hl, hb] at this
          simpa using this
        have : ∀ (l : List XField) (o : Nat), (∀ g ∈ l, Op.bytesLess f.name g.name = true) → findI (isFd nm) (l.map XField.e) o = -1 := by
          intro l
          induction l with
          | nil => intro o _; rfl
          | cons g l ihl =>
            intro o hg
            have hne : (g.name == nm) = false := by
              have h2 := less_trans hgt (hg g (by simp))
              rw [beq_eq_false_iff_ne]
              intro e
              rw [e, less_irr] at h2
              cases h2
            have hd : isFd nm (XField.e g) = (g.name == nm) := rfl
            simp only [List.map_cons, findI, hd, hne, cond_false]
            exact ihl (o + 1) fun x hx => hg x (by simp [hx])
        exact this t (o + 1) h.1
end Gi
