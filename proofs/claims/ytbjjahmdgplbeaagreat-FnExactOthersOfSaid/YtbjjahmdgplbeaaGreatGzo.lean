/- impl.OthersOf and spec.OthersOf. -/
import Derived.Test.YtbjjahmdgplbeaaGreatGtb
namespace Gi
open Go Go.RowKit
set_option linter.unusedSimpArgs false
set_option linter.unusedVariables false
set_option maxHeartbeats 4000000
set_option maxRecDepth 4000
def othR (s t : List UInt8) : List PV → List (List PV)
  | .str a :: .str b :: _ => if a = s ∧ b = t then [] else [[.str (a ++ 47 :: b)]]
  | _ => []
def z24 : List L := [.pv (.str []), .pv (.str []), .pv (.str []), .pv (.int .i64 0), .pv (.int .i64 0), .pv (.int .i64 0), .nil, .pv (.str []), .pv (.int .i64 0), .nil, .nil, .nil, .pv (.int .i64 0), .pv (.str []), .nil, .pv (.int .i64 0), .pv (.int .i64 0), .pv (.int .i64 0), .pv (.int .i64 0), .nil, .pv (.int .i64 0), .pv (.int .i64 0), .pv (.int .i64 0), .pv (.bool false)]
theorem z24_eq : z24 = [.pv (.str []), .pv (.str []), .pv (.str []), .pv (.int .i64 0), .pv (.int .i64 0), .pv (.int .i64 0), .nil, .pv (.str []), .pv (.int .i64 0), .nil, .nil, .nil, .pv (.int .i64 0), .pv (.str []), .nil, .pv (.int .i64 0), .pv (.int .i64 0), .pv (.int .i64 0), .pv (.int .i64 0), .nil, .pv (.int .i64 0), .pv (.int .i64 0), .pv (.int .i64 0), .pv (.bool false)] := rfl
section
variable {ext : Nat → List V → Option V}
theorem ldA {h : List AObj} {A : List L} {rows : List (List PV)} {a : Nat} (h0 : h[0]? = some (.box A)) (hA : cut false 1 a A = some (vlst rows)) : loadV h false 1 (.one (.ptr 0 0 a)) = some (vlst rows) := by
  simp only [loadV, h0, if_true, hA]

theorem impl_oth_loop {rows : List (List PV)} {A : List L} {s tp : List UInt8} {a0 : V} (hrow : ∀ r ∈ rows, ∃ a b rest, r = .str a :: .str b :: rest ∧ rest.length = 22 ∧ a.length ≤ 1048576 ∧ b.length ≤ 1048576) (hl : rows.length ≤ 1048576) (hA : cut false 1 3 A = some (vlst rows)) : ∀ (m k : Nat) (i : Int), i = k → k + m = rows.length → ∀ (acc : List (List PV)) (o : Nat) (h : List AObj), h[0]? = some (.box A) → 0 < o → h[o]? = some (.arr 1 acc) → acc.length ≤ k → ∀ (x4 x5 x6 x8 x9 x10 x11 x12 x16 x17 x18 x19 x20 x21 x22 x23 x24 x25 x26 x27 x28 x29 x30 x31 x32 x33 x34 x35 x36 x37 x38 x39 : V),
    Runs (loopL (exec (callL Ph ext) loopL b_impl_OthersOf_0) ⟨(a0 :: vstr s :: vstr tp :: .one (.ptr 0 0 0) :: x4 :: x5 :: x6 :: .one (.arr o) :: x8 :: x9 :: x10 :: x11 :: x12 :: vlst rows :: vint .i64 (rows.length : Nat) :: vint .i64 i :: x16 :: x17 :: x18 :: x19 :: x20 :: x21 :: x22 :: x23 :: x24 :: x25 :: x26 :: x27 :: x28 :: x29 :: x30 :: x31 :: x32 :: x33 :: x34 :: x35 :: x36 :: x37 :: x38 :: x39 :: []), h⟩) fun e σ' => e = .exit 0 ∧ σ'.t.length = 40 ∧ ∃ o' : Nat, σ'.t[7]? = some (.one (.arr o')) ∧ σ'.h[o']? = some (.arr 1 (acc ++ (rows.drop k).flatMap (othR s tp))) := by
  generalize hF : exec (callL Ph ext) loopL b_impl_OthersOf_0 = F
  intro m
  induction m with
  | zero =>
    intro k i hi hk acc o h h0 ho hacc hle x4 x5 x6 x8 x9 x10 x11 x12 x16 x17 x18 x19 x20 x21 x22 x23 x24 x25 x26 x27 x28 x29 x30 x31 x32 x33 x34 x35 x36 x37 x38 x39
    subst hi
    have hk' : k = rows.length := by omega
    subst hk'
    have hlA := ldA (a := 3) h0 hA
    rw [loopL_go0 hF]
    simp [b_impl_OthersOf_0, exec, execOps, stepO, wants, fop, eop, Opd.ev, put, isInt, isStr, isBool, bin, binInt, binStr, asList, L.view, hlA, Runs_some, hacc]
  | succ m ih =>
    intro k i hi hk acc o h h0 ho hacc hle x4 x5 x6 x8 x9 x10 x11 x12 x16 x17 x18 x19 x20 x21 x22 x23 x24 x25 x26 x27 x28 x29 x30 x31 x32 x33 x34 x35 x36 x37 x38 x39
    subst hi
    have hlt : k < rows.length := by omega
    obtain ⟨a, b, rest, hr, hrest, ha, hb⟩ := hrow _ (List.getElem_mem hlt)
    have hlen : (rows[k]).length = 24 := by rw [hr]; simp [hrest]
    have hw := wrap_small (k := k) (by omega)
    have hlA := ldA (a := 3) h0 hA
    have hip : ∀ hh, elemPtr hh 24 (vlst rows) k = some (.one (.ip rows[k] 0)) := fun hh => by simp [elemPtr, hlt, hlen]
    have hol : o < h.length := (List.getElem?_eq_some_iff.1 hacc).1
    have hld : ∀ hh, loadV hh true 24 (.one (.ip rows[k] 0)) = some (.agg ((rows[k]).map .pv)) := fun hh => by
      simp [loadV, cut, hlen, List.take_of_length_le (show ((rows[k]).map L.pv).length ≤ 24 by simp [hlen])]
    have hst : storeV (h ++ [.box z24]) 24 (.one (.ptr h.length 0 0)) (.agg ((rows[k]).map .pv)) = some (h ++ [.box ((rows[k]).map .pv)]) := by
      have hp := putAt_full z24 ((rows[k]).map L.pv) (by simp [hlen, z24])
      simp [storeV, V.cells, hlen, hp, plain, show z24.length = 24 from rfl]
    have hl0 : ∀ x : List AObj, loadV (h ++ .box ((rows[k]).map .pv) :: x) false 1 (.one (.ptr h.length 0 0)) = some (vstr a) := fun x => by rw [hr]; simp [loadV, cut]
    have hl1 : ∀ x : List AObj, loadV (h ++ .box ((rows[k]).map .pv) :: x) false 1 (.one (.ptr h.length 0 1)) = some (vstr b) := fun x => by rw [hr]; simp [loadV, cut]
    have hd : rows.drop k = rows[k] :: rows.drop (k + 1) := List.drop_eq_getElem_cons hlt
    rw [hd, List.flatMap_cons]
    have hoth : othR s tp rows[k] = if a = s ∧ b = tp then [] else [[.str (a ++ 47 :: b)]] := by rw [hr]; rfl
    rw [hoth]
    generalize hC : AObj.box ((rows[k]).map L.pv) = C at hst hl0 hl1
    generalize rows[k] = rw at *
    by_cases hcond : a = s ∧ b = tp
    · obtain ⟨rfl, rfl⟩ := hcond
      have key := ih (k + 1) ((k : Int) + 1) (by omega) (by omega) acc
      clear ih
      simp only [and_self, if_true, List.nil_append]
      rw [loopL_go0 hF]
      simp [b_impl_OthersOf_0, exec, execOps, stepO, wants, fop, eop, Opd.ev, put, isInt, isStr, isBool, bin, binInt, binStr, asList, L.view, hlA, hlt, hw, hip, hld, ← z24_eq, hst, hl0, hl1]
      refine key _ _ ?_ ho ?_ (by omega) _ _ _ _ _ _ _ _ _ _ _ _ _ _ _ _ _ _ _ _ _ _ _ _ _ _ _ _ _ _ _ _
      · rw [List.getElem?_append_left (by omega)]; exact h0
      · rw [List.getElem?_append_left hol]; exact hacc
    · have key := ih (k + 1) ((k : Int) + 1) (by omega) (by omega) (acc ++ [[.str (a ++ 47 :: b)]])
      simp only [List.append_assoc, List.cons_append, List.nil_append] at key
      clear ih
      rw [if_neg hcond]
      have hal : asList (h ++ [C, .arr 1 [[.str (a ++ 47 :: b)]]]) (.one (.arr (h.length + 1))) = some [[.str (a ++ 47 :: b)]] := by
        simp [asList, L.view]
      have hgo : (h ++ [C, .arr 1 [[.str (a ++ 47 :: b)]]])[o]? = some (.arr 1 acc) := by rw [List.getElem?_append_left hol]; exact hacc
      have hs1 : a.length + 1 ≤ 9223372036854775807 := by omega
      have hs2 : a.length + 1 + b.length ≤ 9223372036854775807 := by omega
      have hb1 : (acc.length + 1) * 16 ≤ 140737488355328 := by omega
      have hb2 : acc.length ≤ 9223372036854775806 := by omega
      have hne : ¬ h.length + 1 = o := by omega
      have hc2 : (!(a == s)) = true ∨ ((!(a == s)) = false ∧ (!(b == tp)) = true) := by
        by_cases e : a = s
        · exact .inr ⟨by simp [e], by simp; exact fun e2 => hcond ⟨e, e2⟩⟩
        · exact .inl (by simp [e])
      rw [loopL_go0 hF]
      rcases hc2 with hc | ⟨hc, hc'⟩
      · simp [b_impl_OthersOf_0, exec, execOps, stepO, wants, fop, eop, Opd.ev, put, isInt, isStr, isBool, bin, binInt, binStr, asList, L.view, hlA, hlt, hw, hip, hld, ← z24_eq, hst, hl0, hl1, hc, hal, hgo, hs1, hs2, hb1, hb2, hne, viewRows, freezeVs, freezeLs, freezeL, viewL, L.view, V.cells, L.notArr]
        refine key _ _ ?_ ?_ ?_ (by simp; omega) _ _ _ _ _ _ _ _ _ _ _ _ _ _ _ _ _ _ _ _ _ _ _ _ _ _ _ _ _ _ _ _
        · rw [List.getElem?_append_left (by simp), List.getElem?_set_ne (by omega), List.getElem?_append_left (by omega)]; exact h0
        · omega
        · rw [List.getElem?_append_right (by simp)]; simp
      · simp [b_impl_OthersOf_0, exec, execOps, stepO, wants, fop, eop, Opd.ev, put, isInt, isStr, isBool, bin, binInt, binStr, asList, L.view, hlA, hlt, hw, hip, hld, ← z24_eq, hst, hl0, hl1, hc, hc', hal, hgo, hs1, hs2, hb1, hb2, hne, viewRows, freezeVs, freezeLs, freezeL, viewL, L.view, V.cells, L.notArr]
        refine key _ _ ?_ ?_ ?_ (by simp; omega) _ _ _ _ _ _ _ _ _ _ _ _ _ _ _ _ _ _ _ _ _ _ _ _ _ _ _ _ _ _ _ _
        · rw [List.getElem?_append_left (by simp), List.getElem?_set_ne (by omega), List.getElem?_append_left (by omega)]; exact h0
        · omega
        · rw [List.getElem?_append_right (by simp)]; simp

theorem spec_oth_loop {rows : List (List PV)} {A : List L} {s tp : List UInt8} {a0 : V} (hrow : ∀ r ∈ rows, ∃ a b rest, r = .str a :: .str b :: rest ∧ rest.length = 22 ∧ a.length ≤ 1048576 ∧ b.length ≤ 1048576) (hl : rows.length ≤ 1048576) (hA : cut false 1 3 A = some (vlst rows)) : ∀ (m k : Nat) (i : Int), i = k → k + m = rows.length → ∀ (acc : List (List PV)) (o : Nat) (h : List AObj), h[0]? = some (.box A) → 0 < o → h[o]? = some (.arr 1 acc) → acc.length ≤ k → ∀ (x4 x5 x6 x9 x10 x11 x12 x13 x14 x15 x16 x17 x18 x19 x20 x21 x22 x23 x24 x25 x26 x27 x28 x29 x30 x31 x32 x33 x34 x35 x36 x37 x38 x39 x40 x41 x42 x43 x44 : V),
    Runs (loopL (exec (callL Ph ext) loopL b_spec_OthersOf_0) ⟨(a0 :: vstr s :: vstr tp :: .one (.ptr 0 0 0) :: x4 :: x5 :: x6 :: .one (.arr o) :: vint .i64 i :: x9 :: x10 :: x11 :: x12 :: x13 :: x14 :: x15 :: x16 :: x17 :: x18 :: x19 :: x20 :: x21 :: x22 :: x23 :: x24 :: x25 :: x26 :: x27 :: x28 :: x29 :: x30 :: x31 :: x32 :: x33 :: x34 :: x35 :: x36 :: x37 :: x38 :: x39 :: x40 :: x41 :: x42 :: x43 :: x44 :: []), h⟩) fun e σ' => e = .exit 0 ∧ σ'.t.length = 45 ∧ ∃ o' : Nat, σ'.t[7]? = some (.one (.arr o')) ∧ σ'.h[o']? = some (.arr 1 (acc ++ (rows.drop k).flatMap (othR s tp))) := by
  generalize hF : exec (callL Ph ext) loopL b_spec_OthersOf_0 = F
  intro m
  induction m with
  | zero =>
    intro k i hi hk acc o h h0 ho hacc hle x4 x5 x6 x9 x10 x11 x12 x13 x14 x15 x16 x17 x18 x19 x20 x21 x22 x23 x24 x25 x26 x27 x28 x29 x30 x31 x32 x33 x34 x35 x36 x37 x38 x39 x40 x41 x42 x43 x44
    subst hi
    have hk' : k = rows.length := by omega
    subst hk'
    have hlA := ldA (a := 3) h0 hA
    rw [loopL_go0 hF]
    simp [b_spec_OthersOf_0, exec, execOps, stepO, wants, fop, eop, Opd.ev, put, isInt, isStr, isBool, bin, binInt, binStr, asList, L.view, hlA, Runs_some, hacc]
  | succ m ih =>
    intro k i hi hk acc o h h0 ho hacc hle x4 x5 x6 x9 x10 x11 x12 x13 x14 x15 x16 x17 x18 x19 x20 x21 x22 x23 x24 x25 x26 x27 x28 x29 x30 x31 x32 x33 x34 x35 x36 x37 x38 x39 x40 x41 x42 x43 x44
    subst hi
    have hlt : k < rows.length := by omega
    obtain ⟨a, b, rest, hr, hrest, ha, hb⟩ := hrow _ (List.getElem_mem hlt)
    have hlen : (rows[k]).length = 24 := by rw [hr]; simp [hrest]
    have hw := wrap_small (k := k) (by omega)
    have hlA := ldA (a := 3) h0 hA
    have hip : ∀ hh, elemPtr hh 24 (vlst rows) k = some (.one (.ip rows[k] 0)) := fun hh => by simp [elemPtr, hlt, hlen]
    have hol : o < h.length := (List.getElem?_eq_some_iff.1 hacc).1
    have hld : ∀ hh, loadV hh true 24 (.one (.ip rows[k] 0)) = some (.agg ((rows[k]).map .pv)) := fun hh => by
      simp [loadV, cut, hlen, List.take_of_length_le (show ((rows[k]).map L.pv).length ≤ 24 by simp [hlen])]
    have hst : storeV (h ++ [.box z24]) 24 (.one (.ptr h.length 0 0)) (.agg ((rows[k]).map .pv)) = some (h ++ [.box ((rows[k]).map .pv)]) := by
      have hp := putAt_full z24 ((rows[k]).map L.pv) (by simp [hlen, z24])
      simp [storeV, V.cells, hlen, hp, plain, show z24.length = 24 from rfl]
    have hl0 : ∀ x : List AObj, loadV (h ++ .box ((rows[k]).map .pv) :: x) false 1 (.one (.ptr h.length 0 0)) = some (vstr a) := fun x => by rw [hr]; simp [loadV, cut]
    have hl1 : ∀ x : List AObj, loadV (h ++ .box ((rows[k]).map .pv) :: x) false 1 (.one (.ptr h.length 0 1)) = some (vstr b) := fun x => by rw [hr]; simp [loadV, cut]
    have hd : rows.drop k = rows[k] :: rows.drop (k + 1) := List.drop_eq_getElem_cons hlt
    rw [hd, List.flatMap_cons]
    have hoth : othR s tp rows[k] = if a = s ∧ b = tp then [] else [[.str (a ++ 47 :: b)]] := by rw [hr]; rfl
    rw [hoth]
    generalize hC : AObj.box ((rows[k]).map L.pv) = C at hst hl0 hl1
    generalize rows[k] = rw at *
    by_cases hcond : a = s ∧ b = tp
    · obtain ⟨rfl, rfl⟩ := hcond
      have key := ih (k + 1) ((k : Int) + 1) (by omega) (by omega) acc
      clear ih
      simp only [and_self, if_true, List.nil_append]
      rw [loopL_go0 hF]
      simp [b_spec_OthersOf_0, exec, execOps, stepO, wants, fop, eop, Opd.ev, put, isInt, isStr, isBool, bin, binInt, binStr, asList, L.view, hlA, hlt, hw, hip, hld, ← z24_eq, hst, hl0, hl1]
      refine key _ _ ?_ ho ?_ (by omega) _ _ _ _ _ _ _ _ _ _ _ _ _ _ _ _ _ _ _ _ _ _ _ _ _ _ _ _ _ _ _ _ _ _ _ _ _ _ _
      · rw [List.getElem?_append_left (by omega)]; exact h0
      · rw [List.getElem?_append_left hol]; exact hacc
    · have key := ih (k + 1) ((k : Int) + 1) (by omega) (by omega) (acc ++ [[.str (a ++ 47 :: b)]])
      simp only [List.append_assoc, List.cons_append, List.nil_append] at key
      clear ih
      rw [if_neg hcond]
      have hal : asList (h ++ [C, .arr 1 [[.str (a ++ 47 :: b)]]]) (.one (.arr (h.length + 1))) = some [[.str (a ++ 47 :: b)]] := by
        simp [asList, L.view]
      have hgo : (h ++ [C, .arr 1 [[.str (a ++ 47 :: b)]]])[o]? = some (.arr 1 acc) := by rw [List.getElem?_append_left hol]; exact hacc
      have hs1 : a.length + 1 ≤ 9223372036854775807 := by omega
      have hs2 : a.length + 1 + b.length ≤ 9223372036854775807 := by omega
      have hb1 : (acc.length + 1) * 16 ≤ 140737488355328 := by omega
      have hb2 : acc.length ≤ 9223372036854775806 := by omega
      have hne : ¬ h.length + 1 = o := by omega
      have hc2 : (!(a == s)) = true ∨ ((!(a == s)) = false ∧ (!(b == tp)) = true) := by
        by_cases e : a = s
        · exact .inr ⟨by simp [e], by simp; exact fun e2 => hcond ⟨e, e2⟩⟩
        · exact .inl (by simp [e])
      rw [loopL_go0 hF]
      rcases hc2 with hc | ⟨hc, hc'⟩
      · simp [b_spec_OthersOf_0, exec, execOps, stepO, wants, fop, eop, Opd.ev, put, isInt, isStr, isBool, bin, binInt, binStr, asList, L.view, hlA, hlt, hw, hip, hld, ← z24_eq, hst, hl0, hl1, hc, hal, hgo, hs1, hs2, hb1, hb2, hne, viewRows, freezeVs, freezeLs, freezeL, viewL, L.view, V.cells, L.notArr]
        refine key _ _ ?_ ?_ ?_ (by simp; omega) _ _ _ _ _ _ _ _ _ _ _ _ _ _ _ _ _ _ _ _ _ _ _ _ _ _ _ _ _ _ _ _ _ _ _ _ _ _ _
        · rw [List.getElem?_append_left (by simp), List.getElem?_set_ne (by omega), List.getElem?_append_left (by omega)]; exact h0
        · omega
        · rw [List.getElem?_append_right (by simp)]; simp
      · simp [b_spec_OthersOf_0, exec, execOps, stepO, wants, fop, eop, Opd.ev, put, isInt, isStr, isBool, bin, binInt, binStr, asList, L.view, hlA, hlt, hw, hip, hld, ← z24_eq, hst, hl0, hl1, hc, hc', hal, hgo, hs1, hs2, hb1, hb2, hne, viewRows, freezeVs, freezeLs, freezeL, viewL, L.view, V.cells, L.notArr]
        refine key _ _ ?_ ?_ ?_ (by simp; omega) _ _ _ _ _ _ _ _ _ _ _ _ _ _ _ _ _ _ _ _ _ _ _ _ _ _ _ _ _ _ _ _ _ _ _ _ _ _ _
        · rw [List.getElem?_append_left (by simp), List.getElem?_set_ne (by omega), List.getElem?_append_left (by omega)]; exact h0
        · omega
        · rw [List.getElem?_append_right (by simp)]; simp

theorem impl_oth_all {rows : List (List PV)} {A : List L} {s tp : List UInt8} {a0 : V} (hrow : ∀ r ∈ rows, ∃ a b rest, r = .str a :: .str b :: rest ∧ rest.length = 22 ∧ a.length ≤ 1048576 ∧ b.length ≤ 1048576) (hl : rows.length ≤ 1048576) (hA : cut false 1 3 A = some (vlst rows)) (x4 x5 x6 x8 x9 x10 x11 x12 x16 x17 x18 x19 x20 x21 x22 x23 x24 x25 x26 x27 x28 x29 x30 x31 x32 x33 x34 x35 x36 x37 x38 x39 : V) (σ : St) (hσ : σ = ⟨(a0 :: vstr s :: vstr tp :: .one (.ptr 0 0 0) :: x4 :: x5 :: x6 :: .one (.arr 1) :: x8 :: x9 :: x10 :: x11 :: x12 :: vlst rows :: vint .i64 (rows.length : Nat) :: vint .i64 0 :: x16 :: x17 :: x18 :: x19 :: x20 :: x21 :: x22 :: x23 :: x24 :: x25 :: x26 :: x27 :: x28 :: x29 :: x30 :: x31 :: x32 :: x33 :: x34 :: x35 :: x36 :: x37 :: x38 :: x39 :: []), [.box A, .arr 1 []]⟩) :
    ∃ σ', loopL (exec (callL Ph ext) loopL b_impl_OthersOf_0) σ = some (.exit 0, σ') ∧ σ'.t.length = 40 ∧ ∃ o' : Nat, σ'.t[7]? = some (.one (.arr o')) ∧ σ'.h[o']? = some (.arr 1 (rows.flatMap (othR s tp))) := by
  subst hσ
  obtain ⟨e, σ', h1, rfl, h2, o', h3, h4⟩ := (impl_oth_loop (ext := ext) (a0 := a0) (A := A) (s := s) (tp := tp) hrow hl hA rows.length 0 0 rfl (by omega) [] 1 [.box A, .arr 1 []] rfl (by omega) rfl (by simp) x4 x5 x6 x8 x9 x10 x11 x12 x16 x17 x18 x19 x20 x21 x22 x23 x24 x25 x26 x27 x28 x29 x30 x31 x32 x33 x34 x35 x36 x37 x38 x39).get
  simp only [List.drop_zero, List.nil_append] at h4
  exact ⟨σ', h1, h2, o', h3, h4⟩
theorem impl_OthersOf_ok {rows : List (List PV)} {s tp : List UInt8} {r : List PV} (hrow : ∀ r ∈ rows, ∃ a b rest, r = .str a :: .str b :: rest ∧ rest.length = 22 ∧ a.length ≤ 1048576 ∧ b.length ≤ 1048576) (hl : rows.length ≤ 1048576) (hA : cut false 1 3 (r.map L.pv) = some (vlst rows)) : callL Ph ext 419 [.agg (r.map .pv), vstr s, vstr tp] = some (.one (.own 1 (rows.flatMap (othR s tp)))) := by
  refine callL_fn (fn := f_impl_OthersOf) rfl ?_
  have hp : (r.map L.pv).all Gi.plain = true := by simp [Gi.plain]
  have hlA := ldA (a := 3) (h := [.box (r.map L.pv), .arr 1 []]) rfl hA
  generalize hF : exec (callL Ph ext) loopL b_impl_OthersOf_0 = F
  simp [f_impl_OthersOf, start, execL, exec, execOps, stepO, wants, fop, eop, Opd.ev, put, isInt, isStr, isBool, bin, binInt, binStr, asList, L.view, V.cells, hp, viewRows, freezeVs, hlA, hF]
  generalize hσ : St.mk _ _ = σ0
  obtain ⟨σ', h1, h2, o', h3, h4⟩ := impl_oth_all (ext := ext) hrow hl hA _ _ _ _ _ _ _ _ _ _ _ _ _ _ _ _ _ _ _ _ _ _ _ _ _ _ _ _ _ _ _ _ σ0 hσ.symm
  rw [hF] at h1
  obtain ⟨t', h'⟩ := σ'
  simp only at h2 h3 h4
  have h6 : ∀ v : V, (t'.set 39 v)[39]? = some v := fun v => List.getElem?_set_self (by omega)
  have h7 : ∀ v w : V, ((t'.set 39 v).set 6 w)[6]? = some w := fun v w => List.getElem?_set_self (by simp; omega)
  simp [h1, h3, h6, h7, done, finish, resultsOf, resultOf, V.cells, comps, comp, giveLs, giveL, h4, arrsOf]

theorem spec_oth_all {rows : List (List PV)} {A : List L} {s tp : List UInt8} {a0 : V} (hrow : ∀ r ∈ rows, ∃ a b rest, r = .str a :: .str b :: rest ∧ rest.length = 22 ∧ a.length ≤ 1048576 ∧ b.length ≤ 1048576) (hl : rows.length ≤ 1048576) (hA : cut false 1 3 A = some (vlst rows)) (x4 x5 x6 x9 x10 x11 x12 x13 x14 x15 x16 x17 x18 x19 x20 x21 x22 x23 x24 x25 x26 x27 x28 x29 x30 x31 x32 x33 x34 x35 x36 x37 x38 x39 x40 x41 x42 x43 x44 : V) (σ : St) (hσ : σ = ⟨(a0 :: vstr s :: vstr tp :: .one (.ptr 0 0 0) :: x4 :: x5 :: x6 :: .one (.arr 1) :: vint .i64 0 :: x9 :: x10 :: x11 :: x12 :: x13 :: x14 :: x15 :: x16 :: x17 :: x18 :: x19 :: x20 :: x21 :: x22 :: x23 :: x24 :: x25 :: x26 :: x27 :: x28 :: x29 :: x30 :: x31 :: x32 :: x33 :: x34 :: x35 :: x36 :: x37 :: x38 :: x39 :: x40 :: x41 :: x42 :: x43 :: x44 :: []), [.box A, .arr 1 []]⟩) :
    ∃ σ', loopL (exec (callL Ph ext) loopL b_spec_OthersOf_0) σ = some (.exit 0, σ') ∧ σ'.t.length = 45 ∧ ∃ o' : Nat, σ'.t[7]? = some (.one (.arr o')) ∧ σ'.h[o']? = some (.arr 1 (rows.flatMap (othR s tp))) := by
  subst hσ
  obtain ⟨e, σ', h1, rfl, h2, o', h3, h4⟩ := (spec_oth_loop (ext := ext) (a0 := a0) (A := A) (s := s) (tp := tp) hrow hl hA rows.length 0 0 rfl (by omega) [] 1 [.box A, .arr 1 []] rfl (by omega) rfl (by simp) x4 x5 x6 x9 x10 x11 x12 x13 x14 x15 x16 x17 x18 x19 x20 x21 x22 x23 x24 x25 x26 x27 x28 x29 x30 x31 x32 x33 x34 x35 x36 x37 x38 x39 x40 x41 x42 x43 x44).get
  simp only [List.drop_zero, List.nil_append] at h4
  exact ⟨σ', h1, h2, o', h3, h4⟩
theorem spec_OthersOf_ok {rows : List (List PV)} {s tp : List UInt8} {r : List PV} (hrow : ∀ r ∈ rows, ∃ a b rest, r = .str a :: .str b :: rest ∧ rest.length = 22 ∧ a.length ≤ 1048576 ∧ b.length ≤ 1048576) (hl : rows.length ≤ 1048576) (hA : cut false 1 3 (r.map L.pv) = some (vlst rows)) : callL Ph ext 418 [.agg (r.map .pv), vstr s, vstr tp] = some (.one (.own 1 (rows.flatMap (othR s tp)))) := by
  refine callL_fn (fn := f_spec_OthersOf) rfl ?_
  have hp : (r.map L.pv).all Gi.plain = true := by simp [Gi.plain]
  have hlA := ldA (a := 3) (h := [.box (r.map L.pv), .arr 1 []]) rfl hA
  generalize hF : exec (callL Ph ext) loopL b_spec_OthersOf_0 = F
  simp [f_spec_OthersOf, start, execL, exec, execOps, stepO, wants, fop, eop, Opd.ev, put, isInt, isStr, isBool, bin, binInt, binStr, asList, L.view, V.cells, hp, viewRows, freezeVs, hlA, hF]
  generalize hσ : St.mk _ _ = σ0
  obtain ⟨σ', h1, h2, o', h3, h4⟩ := spec_oth_all (ext := ext) hrow hl hA _ _ _ _ _ _ _ _ _ _ _ _ _ _ _ _ _ _ _ _ _ _ _ _ _ _ _ _ _ _ _ _ _ _ _ _ _ _ _ σ0 hσ.symm
  rw [hF] at h1
  obtain ⟨t', h'⟩ := σ'
  simp only at h2 h3 h4
  have h6 : ∀ v : V, (t'.set 44 v)[44]? = some v := fun v => List.getElem?_set_self (by omega)
  have h7 : ∀ v w : V, ((t'.set 44 v).set 6 w)[6]? = some w := fun v w => List.getElem?_set_self (by simp; omega)
  simp [h1, h3, h6, h7, done, finish, resultsOf, resultOf, V.cells, comps, comp, giveLs, giveL, h4, arrsOf]
end
end Gi
