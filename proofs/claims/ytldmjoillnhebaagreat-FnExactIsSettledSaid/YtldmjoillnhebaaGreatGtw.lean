/- Looking for an element of a list: slices.IndexFunc and its kin; the buckets of a world. -/
import Derived.Test.YtldmjoillnhebaaGreatGtb
import Derived.Test.YtldmjoillnhebaaGreatGtd
namespace Gi
open Go Go.RowKit
set_option linter.unusedSimpArgs false
set_option linter.unusedVariables false
attribute [local simp] start execL exec execOps stepO wants fop eop Opd.ev put V.cells plain loadV cut isInt isStr isBool bin binInt binStr_neq binStr_eql un asList L.view viewArgs V.view viewL done finish resultsOf resultOf comps comp giveLs giveL arrsOf V.flat L.flat setV setL storeV putAt thaw thawL freezeVs freezeLs freezeL V.mut L.mut elemPtr viewRows

/-- The place of the first element of which p holds, from k on; or -1. -/
def findI (p : List PV → Bool) : List (List PV) → Nat → Int
  | [], _ => -1
  | r :: rs, k => cond (p r) (k : Int) (findI p rs (k + 1))
theorem findI_range (p : List PV → Bool) : ∀ (rs : List (List PV)) (k : Nat), findI p rs k = -1 ∨ ∃ j, j < rs.length ∧ findI p rs k = ((k + j : Nat) : Int)
  | [], k => .inl rfl
  | r :: rs, k => by
    unfold findI
    cases p r with
    | true => exact .inr ⟨0, by simp, by simp⟩
    | false =>
      simp only [cond_false]
      rcases findI_range p rs (k + 1) with h | ⟨j, h1, h2⟩
      · exact .inl h
      · exact .inr ⟨j + 1, by simp; omega, by rw [h2]; congr 1; omega⟩
/-- an index that was found -/
theorem findI_at {p : List PV → Bool} {rs : List (List PV)} (h : ¬ findI p rs 0 < 0) : ∃ j, ∃ hj : j < rs.length, findI p rs 0 = (j : Int) := by
  rcases findI_range p rs 0 with h1 | ⟨j, h1, h2⟩
  · omega
  · exact ⟨j, h1, by rw [h2]; simp⟩

section
variable {Φ : Nat → Option AFn} {ext : Nat → List V → Option V}
def ixBody (z : Nat) : ACode := (.seq (.region [⟨(some 9), (.bin .lss (.tmp 8) (.tmp 7)), none⟩]) (.seq (.cond (.tmp 9) .skip (.exit 0)) (.seq (.block 1 (.seq (.region [⟨(some 10), (.mv (.tmp 8)), none⟩, ⟨(some 5), (.mv (.tmp 10)), none⟩]) (.seq (.region [⟨(some 11), (.mv (.tmp 1)), none⟩, ⟨(some 12), (.mv (.tmp 0)), none⟩, ⟨(some 13), (.mv (.tmp 5)), none⟩, ⟨(some 14), (.indexA z (.tmp 12) (.tmp 13)), none⟩, ⟨(some 15), (.load true z (.tmp 14)), none⟩, ⟨(some 16), (.callV (.tmp 11) [(.tmp 15)]), none⟩]) (.cond (.tmp 16) (.seq (.region [⟨(some 17), (.mv (.tmp 5)), none⟩, ⟨(some 4), (.mv (.tmp 17)), none⟩]) .ret) .skip)))) (.region [⟨(some 18), (.bin .add (.tmp 8) (.pv (.int .i64 1))), none⟩, ⟨(some 8), (.mv (.tmp 18)), none⟩]))))
def ixF (z : Nat) : AFn := ⟨19, [(.tmp 4)], (.seq (.region [⟨(some 4), (.mv (.pv (.int .i64 0))), none⟩]) (.seq (.seq (.region [⟨(some 6), (.mv (.tmp 0)), none⟩, ⟨(some 7), (.len (.tmp 6)), none⟩, ⟨(some 8), (.mv (.pv (.int .i64 0))), none⟩]) (.block 0 (.loop (ixBody z)))) (.seq (.region [⟨(some 4), (.mv (.pv (.int .i64 (-1)))), none⟩]) .ret)))⟩
theorem ix_loop {z : Nat} {rows : List (List PV)} {kc : Nat} {caps : List (List PV)} {p : List PV → Bool} (hl : rows.length ≤ maxLen) (hz : ∀ r ∈ rows, r.length = z) (hp : ∀ r ∈ rows, callL Φ ext kc (.agg (r.map .pv) :: caps.map capV) = some (vbool (p r))) :
    ∀ (m k : Nat) (i : Int), i = k → k + m = rows.length → ∀ (x2 x3 x4 x5 x6 x9 x10 x11 x12 x13 x14 x15 x16 x17 x18 : V) (h : List AObj), Runs (loopL (exec (callL Φ ext) loopL (ixBody z)) ⟨(vlst rows :: .one (.fn kc caps) :: x2 :: x3 :: x4 :: x5 :: x6 :: vint .i64 rows.length :: vint .i64 i :: x9 :: x10 :: x11 :: x12 :: x13 :: x14 :: x15 :: x16 :: x17 :: x18 :: []), h⟩) fun e σ' =>
      σ'.h = h ∧ σ'.t.length = 19 ∧ ((e = .exit 0 ∧ findI p (rows.drop k) k = -1) ∨ (e = .ret ∧ σ'.t[4]? = some (vint .i64 (findI p (rows.drop k) k)))) := by
  generalize hF : exec (callL Φ ext) loopL (ixBody z) = F
  intro m
  induction m with
  | zero =>
    intro k i hi hk x2 x3 x4 x5 x6 x9 x10 x11 x12 x13 x14 x15 x16 x17 x18 h
    subst hi
    have hk' : k = rows.length := by omega
    subst hk'
    rw [loopL_go0 hF]
    simp [ixBody, findI, Runs_some]
  | succ m ih =>
    intro k i hi hk x2 x3 x4 x5 x6 x9 x10 x11 x12 x13 x14 x15 x16 x17 x18 h
    subst hi
    have hlt : k < rows.length := by omega
    have hw := wrap_small (k := k) (by unfold maxLen at hl; omega)
    have hrz : (rows[k]).length = z := hz _ (List.getElem_mem hlt)
    have hc := hp _ (List.getElem_mem hlt)
    have hcut : cut true z 0 ((rows[k]).map L.pv) = some (.agg ((rows[k]).map .pv)) := by
      simp [cut, hrz, List.take_of_length_le (show ((rows[k]).map L.pv).length ≤ z by simp [hrz])]
    have key := ih (k + 1) ((k : Int) + 1) (by omega) (by omega)
    clear ih
    rw [List.drop_eq_getElem_cons hlt]
    simp only [findI]
    rw [loopL_go0 hF]
    cases hq : p rows[k] with
    | true =>
      rw [hq] at hc
      simp [ixBody, -cut, hlt, hrz, hcut, viewL_pv, hc, hw, Runs_some]
    | false =>
      rw [hq] at hc
      simp [ixBody, -cut, hlt, hrz, hcut, viewL_pv, hc, hw]
      exact key _ _ _ _ _ _ _ _ _ _ _ _ _ _ _ _
theorem ixF_ok {k z : Nat} {rows : List (List PV)} {kc : Nat} {caps : List (List PV)} {p : List PV → Bool} (hk : Φ k = some (ixF z)) (hl : rows.length ≤ maxLen) (hz : ∀ r ∈ rows, r.length = z) (hp : ∀ r ∈ rows, callL Φ ext kc (.agg (r.map .pv) :: caps.map capV) = some (vbool (p r))) :
    callL Φ ext k [vlst rows, .one (.fn kc caps)] = some (vint .i64 (findI p rows 0)) := by
  refine callL_fn hk ?_
  obtain ⟨e, ⟨t', h'⟩, q1, q2, q5, q3⟩ := (ix_loop (Φ := Φ) (ext := ext) hl hz hp rows.length 0 0 rfl (by omega) (.tup []) (.tup []) (vint .i64 0) (.tup []) (vlst rows) (.tup []) (.tup []) (.tup []) (.tup []) (.tup []) (.tup []) (.tup []) (.tup []) (.tup []) (.tup []) []).get
  simp only [List.drop_zero] at q3
  simp at q5
  generalize hF : exec (callL Φ ext) loopL (ixBody z) = F at q1
  rcases q3 with ⟨rfl, q4⟩ | ⟨rfl, q4⟩
  · rw [q4]
    simp [ixF, hF, q1, q5]
  · obtain ⟨_, q7⟩ := List.getElem?_eq_some_iff.1 q4
    simp [ixF, hF, q1, q5, q7]
end

end Gi
