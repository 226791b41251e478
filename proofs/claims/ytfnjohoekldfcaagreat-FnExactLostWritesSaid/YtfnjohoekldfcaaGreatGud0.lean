/- Writes that are lost: the two loops. -/
import Derived.Test.YtfnjohoekldfcaaGreatGuc
namespace Gi
open Go Go.RowKit
set_option linter.unusedSimpArgs false
set_option linter.unusedVariables false
set_option maxHeartbeats 4000000
set_option maxRecDepth 4000

def isS (q : Int) : List PV → Bool
  | _ :: .int _ n :: _ => n == q
  | _ => false
theorem findI_any (p : List PV → Bool) : ∀ (rs : List (List PV)) (k : Nat), decide ((0 : Int) ≤ findI p rs k) = rs.any p
  | [], k => rfl
  | r :: rs, k => by
    unfold findI
    rw [List.any_cons]
    cases hq : p r with
    | true => simp
    | false => simpa using findI_any p rs (k + 1)
theorem write_row {r : List PV} (h : HasL t_WriteS r) : ∃ a b rest, r = .int .i64 a :: .int .i64 b :: rest ∧ rest.length = 5 := by
  obtain ⟨p0, r1, rfl, g0, k1⟩ := HasL_cons h
  obtain ⟨p1, r2, rfl, g1, k2⟩ := HasL_cons k1
  obtain ⟨c0, rfl⟩ := Has_int g0
  obtain ⟨c1, rfl⟩ := Has_int g1
  exact ⟨c0, c1, r2, rfl, HasL_len k2⟩
theorem impl_has {ws : List (List PV)} (h : Has (.lst t_WriteS) (.lst ws)) (q : Int) : callL Ph extF 155 [vlst ws, .one (.fn 156 [[.int .i64 q]])] = some (vbool (ws.any (isS q))) := by
  obtain ⟨hl, hr⟩ := Has_rows h
  have e1 : callL Ph extF 183 [vlst ws, .one (.fn 156 [[.int .i64 q]])] = some (vint .i64 (findI (isS q) ws 0)) :=
    ixF_ok (z := 7) rfl hl (fun r m => HasL_len (hr r m)) (fun r m => by
      obtain ⟨a, b, rest, rfl, hrl⟩ := write_row (hr r m)
      refine callL_fn (fn := f_impl_LostWrites_1) rfl ?_
      simp [f_impl_LostWrites_1, start, execL, exec, execOps, stepO, wants, fop, eop, Opd.ev, put, V.cells, plain, loadV, cut, isInt, isStr, isBool, bin, binInt, binStr_neq, binStr_eql, un, asList, L.view, viewArgs, V.view, viewL, done, finish, resultsOf, resultOf, comps, comp, giveLs, giveL, arrsOf, V.flat, L.flat, setV, setL, storeV, putAt, thaw, thawL, freezeVs, freezeLs, freezeL, V.mut, L.mut, elemPtr, viewRows, capV, isS])
  have e2 := findI_any (isS q) ws 0
  refine callL_fn (fn := f_slices_ContainsFunc_impl_Write_impl_Write) rfl ?_
  simp [f_slices_ContainsFunc_impl_Write_impl_Write, start, execL, exec, execOps, stepO, wants, fop, eop, Opd.ev, put, V.cells, plain, loadV, cut, isInt, isStr, isBool, bin, binInt, binStr_neq, binStr_eql, un, asList, L.view, viewArgs, V.view, viewL, done, finish, resultsOf, resultOf, comps, comp, giveLs, giveL, arrsOf, V.flat, L.flat, setV, setL, storeV, putAt, thaw, thawL, freezeVs, freezeLs, freezeL, V.mut, L.mut, elemPtr, viewRows, e1, e2]

def cntN (ws : List (List PV)) (q n : Int) : Int := cond (ws.any (isS q)) n (IntKind.i64.wrap (n + 1))
/-- what the program counts -/
def lostF (ws : List (List PV)) (last : Int) : Nat → Int → Int → Int
  | 0, _, n => n
  | f + 1, q, n => cond (decide (q ≤ 1000001) || q == last + 1) (lostF ws last f (q + 1) (cntN ws q n)) n
/-- what the reference counts -/
def lostS (ws : List (List PV)) : Nat → Int → Int → Int
  | 0, _, n => n
  | f + 1, q, n => cond (decide (1000000 < q)) (cntN ws q n) (lostS ws f (q + 1) (cntN ws q n))
theorem lost_eq (ws : List (List PV)) (last : Int) : ∀ (f : Nat) (q n : Int), last < q → (q ≤ 1000001 ∨ q = last + 1) → lostF ws last f q n = lostS ws f q n := by
  intro f
  induction f with
  | zero => intro q n _ _; rfl
  | succ f ih =>
    intro q n h1 h2
    unfold lostF lostS
    have hc : (decide (q ≤ 1000001) || q == last + 1) = true := by
      rcases h2 with h2 | h2
      · simp [h2]
      · simp [h2]
    rw [hc]
    simp only [cond_true]
    by_cases hq : 1000000 < q
    · simp only [hq, decide_true, cond_true]
      cases f with
      | zero => rfl
      | succ f =>
        unfold lostF
        have hc2 : (decide (q + 1 ≤ 1000001) || q + 1 == last + 1) = false := by
          simp; omega
        rw [hc2]
        rfl
    · simp only [hq, decide_false, cond_false]
      exact ih (q + 1) _ (by omega) (.inl (by omega))

end Gi
