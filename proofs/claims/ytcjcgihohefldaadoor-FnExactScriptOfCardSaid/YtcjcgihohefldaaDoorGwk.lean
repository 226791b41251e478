/- The walks: impl.ParseInt at a number of two digits at most, impl.instrWord, impl.ParseInstr with its closure. -/
import Derived.Test.YtcjcgihohefldaaDoorShelf
import Derived.WalkKit
import Derived.RegionTactic
import Derived.LoopTactic
import Derived.FnLit
import Derived.Below
import Derived.OneCell
import Derived.Laws.Rows
import Derived.Laws.ResultCell
import Derived.Lib.AtoiErrMem
import Derived.Deep.RegionWith
namespace Go.Proofs.YtcjcgihohefldaaDoor
open Go Go.RowKit
set_option linter.unusedVariables false
set_option linter.unusedSimpArgs false
set_option maxHeartbeats 1600000
set_option maxRecDepth 1000000
theorem take_nil (b : Nat) (ad : Option Addr) (c : Nat) (w : World) (hb : w.cell? ⟨b, 0, none⟩ = some (.slice ad 0 c)) :
    Calls Tryd.prog 27 #[.pointer (some ⟨b, 0, none⟩)] w fun e w' => e = .returned (.string ⟨#[]⟩) ∧ w' = w := by
  go_enter Tryd.func27, Tryd.ntmps27
  go_wp2
  go_ret
  exact ⟨rfl, rfl⟩
theorem take_cons (b bw off len cap : Nat) (x : ByteArray) (w : World) (hb : w.cell? ⟨b, 0, none⟩ = some (.slice (some ⟨bw, off, none⟩) len cap)) (hf : w.frozen? ⟨b, 0, none⟩ = false)
    (hx : w.cell? ⟨bw, off, none⟩ = some (.string x)) (h0 : 0 < len) (h1 : len ≤ cap) :
    Calls Tryd.prog 27 #[.pointer (some ⟨b, 0, none⟩)] w fun e w' => e = .returned (.string x) ∧ ∃ ad, w' = w.setCell ⟨b, 0, none⟩ (.slice ad (len - 1) (cap - 1)) ∧ (1 < len → ad = some ⟨bw, off + 1, none⟩) := by
  go_enter Tryd.func27, Tryd.ntmps27
  go_wp2
  all_goals go_ret
  · exact ⟨rfl, _, rfl, fun h => by omega⟩
  · exact ⟨rfl, _, rfl, fun h => rfl⟩
theorem fmtInt (d : Nat) (hd : d < 100) (w : World) : Calls Tryd.prog 37 #[.int .i64 d] w fun e w' => e = .returned (.string ⟨(Lib.decDigits d).toArray⟩) ∧ w' = w := by
  have e45 : ∀ args w, (callFunc 45 args).run Tryd.prog w = .ok (.enter 45 args) w := enters_of Tryd.func45 (by kernel_rfl) rfl
  go_enter Tryd.func37, Tryd.ntmps37
  go_wp2_with (go_at_fn 45; refine (Tryd.strconv_Itoa_small d hd _).mono ?_; rintro e w' ⟨rfl, hw⟩; rw [hw])
  go_ret
  exact ⟨rfl, rfl⟩
theorem parseInt (d : Nat) (hd : d < 100) (s : ByteArray) (hs : s = ⟨(Lib.decDigits d).toArray⟩) (h18 : s.size ≤ 18) (ha : Lib.atoi s.data.toList = some (d : Int)) (w : World) :
    Calls Tryd.prog 28 #[.string s] w fun e w' => e = .returned (.tuple #[.int .i64 d, .bool true]) ∧ ∃ t, w' = Lib.bytesWorld w 5 t := by
  have e36 : ∀ args w, (callFunc 36 args).run Tryd.prog w = .ok (.enter 36 args) w := enters_of Tryd.func36 (by kernel_rfl) rfl
  have e37 : ∀ args w, (callFunc 37 args).run Tryd.prog w = .ok (.enter 37 args) w := enters_of Tryd.func37 (by kernel_rfl) rfl
  subst hs
  go_enter Tryd.func28, Tryd.ntmps28
  go_wp2_with (first | (go_at_fn 36; refine (Tryd.strconv_Atoi _ (d : Int) h18 ha _).mono ?_; rintro e w' ⟨rfl, t, hw⟩; rw [hw]) | (go_at_fn 37; refine (fmtInt d hd _).mono ?_; rintro e w' ⟨rfl, hw⟩; rw [hw]))
  go_ret2
  exact ⟨rfl, _, rfl⟩
def wd (k : Nat) : ByteArray := (([⟨#[]⟩, ⟨#[115, 101, 116]⟩, ⟨#[97, 100, 100]⟩, ⟨#[105, 102]⟩, ⟨#[103, 111, 116, 111]⟩, ⟨#[102, 101, 116, 99, 104]⟩, ⟨#[103, 101, 116]⟩, ⟨#[112, 117, 116]⟩, ⟨#[115, 101, 110, 100]⟩, ⟨#[101, 110, 100]⟩] : List ByteArray).getD k ⟨#[]⟩)
theorem instrWord (k : Nat) (h1 : 1 ≤ k) (h9 : k ≤ 9) (w : World) : Calls Tryd.prog 26 #[.int .i64 k] w fun e w' => e = .returned (.string (wd k)) ∧ Below w.heap.size w w' := by
  rcases (show k = 1 ∨ k = 2 ∨ k = 3 ∨ k = 4 ∨ k = 5 ∨ k = 6 ∨ k = 7 ∨ k = 8 ∨ k = 9 by omega) with rfl | rfl | rfl | rfl | rfl | rfl | rfl | rfl | rfl
  all_goals
    go_enter Tryd.func26, Tryd.ntmps26
    go_wp2
    go_ret
    exact ⟨rfl, (Below.refl _ _).alloc (Nat.le_refl _) _⟩
/-- What the cells of an Instr hold. -/
abbrev XC (k r n : Int) (t : ByteArray) : Array Value := #[.int .i64 k, .int .i64 r, .int .i64 n, .string t]
/-- The result's variable, the words and the Instr lie in three new blocks. -/
structure LP (w : World) (ws : List ByteArray) (k r n : Int) (t : ByteArray) (wr : World) : Prop where
  below : Below w.heap.size w wr
  r0 : wr.heap[w.heap.size]? = some (.cells (XC 0 0 0 ⟨#[]⟩) 33 (0, 0))
  l : wr.heap[w.heap.size + 1]? = some (.cells (ws.map Value.string).toArray 9 (0, 0))
  x : wr.heap[w.heap.size + 1 + 1]? = some (.cells (XC k r n t) 33 (0, 0))
section
variable {w wr w' : World} {ws : List ByteArray} {k r n : Int} {t : ByteArray}
theorem LP.lt (h : LP w ws k r n t wr) : w.heap.size + 1 + 1 < wr.heap.size := lt_of_block h.x
theorem LP.word (h : LP w ws k r n t wr) (j : Nat) : wr.cell? ⟨w.heap.size + 1, j, none⟩ = (ws.map Value.string)[j]? := by
  unfold World.cell?
  rw [h.l]
  simp
theorem LP.cell (h : LP w ws k r n t wr) (j : Nat) : wr.cell? ⟨w.heap.size + 1 + 1, j, none⟩ = (XC k r n t)[j]? := by
  unfold World.cell?
  rw [h.x]
  rfl
theorem LP.free (h : LP w ws k r n t wr) (j : Nat) : wr.frozen? ⟨w.heap.size + 1 + 1, j, none⟩ = false := by
  unfold World.frozen?
  rw [h.x]
  simp
theorem LP.rcell (h : LP w ws k r n t wr) (j : Nat) : wr.cell? ⟨w.heap.size, j, none⟩ = (XC 0 0 0 ⟨#[]⟩)[j]? := by
  unfold World.cell?
  rw [h.r0]
  rfl
theorem LP.rfree (h : LP w ws k r n t wr) (j : Nat) : wr.frozen? ⟨w.heap.size, j, none⟩ = false := by
  unfold World.frozen?
  rw [h.r0]
  simp
theorem LP.go (h : LP w ws k r n t wr) (hb : Below wr.heap.size wr w') : LP w ws k r n t w' :=
  ⟨h.below.trans (hb.mono h.below.size), (hb.block _ (lt_of_block h.r0)).trans h.r0, (hb.block _ (lt_of_block h.l)).trans h.l, (hb.block _ (lt_of_block h.x)).trans h.x⟩
theorem LP.alloc (h : LP w ws k r n t wr) (o : Obj) : LP w ws k r n t (wr.alloc o) := h.go ((Below.refl _ _).alloc (Nat.le_refl _) o)
theorem LP.set (h : LP w ws k r n t wr) {j : Nat} {v : Value} {k' r' n' : Int} {t' : ByteArray} (e : (XC k r n t).set! j v = XC k' r' n' t') : LP w ws k' r' n' t' (wr.setCell ⟨w.heap.size + 1 + 1, j, none⟩ v) :=
  ⟨h.below.setCell (by show w.heap.size ≤ w.heap.size + 1 + 1; omega) v, (Below.heap_setCell _ _ _ _ (by show w.heap.size ≠ w.heap.size + 1 + 1; omega)).trans h.r0, (Below.heap_setCell _ _ _ _ (by show w.heap.size + 1 ≠ w.heap.size + 1 + 1; omega)).trans h.l,
    (heap_setCell_same wr _ j _ 33 v h.x).trans (by rw [← e]; rfl)⟩
theorem LP.other (h : LP w ws k r n t wr) {b : Nat} (hb : w.heap.size + 1 + 1 < b) (v : Value) : LP w ws k r n t (wr.setCell ⟨b, 0, none⟩ v) :=
  ⟨h.below.setCell (by show w.heap.size ≤ b; omega) v, (Below.heap_setCell _ _ _ _ (by show w.heap.size ≠ b; omega)).trans h.r0, (Below.heap_setCell _ _ _ _ (by show w.heap.size + 1 ≠ b; omega)).trans h.l,
    (Below.heap_setCell _ _ _ _ (by show w.heap.size + 1 + 1 ≠ b; omega)).trans h.x⟩
/-- .. and the variable that the closure writes. -/
structure LQ (w : World) (ws : List ByteArray) (k r n : Int) (t : ByteArray) (b : Nat) (u : Value) (wr : World) : Prop extends LP w ws k r n t wr where
  u : wr.heap[b]? = some (.cells #[u] 27 (0, 0))
  lt' : w.heap.size + 1 + 1 < b
variable {b : Nat} {u u' : Value}
theorem LQ.go (h : LQ w ws k r n t b u wr) (hb : Below wr.heap.size wr w') : LQ w ws k r n t b u w' := ⟨h.toLP.go hb, (hb.block _ (lt_of_block h.u)).trans h.u, h.lt'⟩
theorem LQ.set (h : LQ w ws k r n t b u wr) {j : Nat} {v : Value} {k' r' n' : Int} {t' : ByteArray} (e : (XC k r n t).set! j v = XC k' r' n' t') : LQ w ws k' r' n' t' b u (wr.setCell ⟨w.heap.size + 1 + 1, j, none⟩ v) :=
  ⟨h.toLP.set e, (Below.heap_setCell _ _ _ _ (by have := h.lt'; show b ≠ w.heap.size + 1 + 1; omega)).trans h.u, h.lt'⟩
theorem LQ.setu (h : LQ w ws k r n t b u wr) (v : Value) : LQ w ws k r n t b v (wr.setCell ⟨b, 0, none⟩ v) := ⟨h.toLP.other h.lt' v, one_setCell h.u, h.lt'⟩
theorem below_bytes (w : World) (t : ByteArray) : Below w.heap.size w (Lib.bytesWorld w 5 t) := Lib.bytesWorld_below _ _ _
end
theorem lp_start (w : World) (ws : List ByteArray) : LP w ws 0 0 0 ⟨#[]⟩ (((w.alloc (.cells (XC 0 0 0 ⟨#[]⟩) 33)).alloc (.cells (ws.map Value.string).toArray 9)).alloc (.cells (XC 0 0 0 ⟨#[]⟩) 33)) := by
  have n1 : (w.alloc (.cells (XC 0 0 0 ⟨#[]⟩) 33)).heap[w.heap.size]? = some (.cells (XC 0 0 0 ⟨#[]⟩) 33 (0, 0)) := heap_alloc_new _ _
  refine ⟨(((Below.refl _ _).alloc (Nat.le_refl _) _).alloc (by simp) _).alloc (by simp; omega) _, ?_, ?_, ?_⟩
  · rw [Below.heap_alloc _ _ _ (by simp; omega), Below.heap_alloc _ _ _ (by simp)]
    exact n1
  · rw [Below.heap_alloc _ _ _ (by simp)]
    have := heap_alloc_new (w.alloc (.cells (XC 0 0 0 ⟨#[]⟩) 33)) (.cells (ws.map Value.string).toArray 9)
    simpa using this
  · have := heap_alloc_new ((w.alloc (.cells (XC 0 0 0 ⟨#[]⟩) 33)).alloc (.cells (ws.map Value.string).toArray 9)) (.cells (XC 0 0 0 ⟨#[]⟩) 33)
    simpa using this
theorem pA (s w0 a b : ByteArray) (m : Int) (w : World) (hs : s.size < 1000) (hm : w.cell? ⟨0, 0, none⟩ = some (.int .i64 m))
    (hsp : Lib.splitB ⟨#[32]⟩ 0 (Lib.countB s ⟨#[32]⟩) s = [w0, a, b]) (hc : Lib.countB s ⟨#[32]⟩ = 2) (kd : Nat) (hk : 1 ≤ kd ∧ kd ≤ 9) (hkd : ∀ k, 1 ≤ k → k ≤ 9 → ((wd k).toList == w0.toList) = decide (k = kd))
    (h4 : kd ≠ 4) (h9 : kd ≠ 9) (h5 : kd ≠ 5) (da : Nat) (ha : ∀ W : World, Calls Tryd.prog 28 #[.string a] W fun e w' => e = .returned (.tuple #[.int .i64 da, .bool true]) ∧ Below W.heap.size W w') (db : Nat) (hb : ∀ W : World, Calls Tryd.prog 28 #[.string b] W fun e w' => e = .returned (.tuple #[.int .i64 db, .bool true]) ∧ Below W.heap.size W w') 
    (hF : ∀ W : World, (∃ m, W.cell? ⟨0, 0, none⟩ = some (.int .i64 m)) → Calls Tryd.prog 29 #[.agg (XC kd (da : Int) (db : Int) ⟨#[]⟩)] W fun e w' => e = .returned (.string s) ∧ Below W.heap.size W w') :
    Calls Tryd.prog 19 #[.string s] w fun e w' => e = .returned (.tuple #[.agg (XC kd (da : Int) (db : Int) ⟨#[]⟩), .bool true]) ∧ Below w.heap.size w w' := by
  have hmf : ∀ (fn : Fn) (first cap : Array Value) (w : World), (Instr.makeFunc fn first cap).run Tryd.prog w = .ok (.func fn first cap) w := fun _ _ _ _ => rfl
  have e18 : ∀ args w, (callFunc 18 args).run Tryd.prog w = .ok (.enter 18 args) w := enters_of Tryd.func18 (by kernel_rfl) rfl
  have e26 : ∀ args w, (callFunc 26 args).run Tryd.prog w = .ok (.enter 26 args) w := enters_of Tryd.func26 (by kernel_rfl) rfl
  have e27 : ∀ args w, (callFunc 27 args).run Tryd.prog w = .ok (.enter 27 args) w := enters_of Tryd.func27 (by kernel_rfl) rfl
  have e28 : ∀ args w, (callFunc 28 args).run Tryd.prog w = .ok (.enter 28 args) w := enters_of Tryd.func28 (by kernel_rfl) rfl
  have e29 : ∀ args w, (callFunc 29 args).run Tryd.prog w = .ok (.enter 29 args) w := enters_of Tryd.func29 (by kernel_rfl) rfl
  have hb0 : 0 < w.heap.size := World.block_lt_of_cell? _ _ hm
  go_enter Tryd.func19, Tryd.ntmps19
  go_wp2_with (go_at_fn 18; refine (Tryd.strings_Split s ⟨#[32]⟩ m _ (by omega) (by rw [World.cell?_alloc_past _ _ _ hb0]; exact hm) (by decide)).mono ?_; rintro e w' ⟨rfl, hw⟩; rw [hw, hsp, hc])
  go_loopw [6] (fun i wr => ∃ k : Nat, 1 ≤ k ∧ k ≤ 10 ∧ i = .int .i64 k ∧ LP w [w0, a, b] (if kd < k then (kd : Int) else 0) 0 0 ⟨#[]⟩ wr) (fun i _ => 10 - (intOf i).toNat)
  case atStart =>
    refine ⟨1, by omega, by omega, rfl, ?_⟩
    rw [if_neg (by omega)]
    exact lp_start w _
  case round =>
    obtain ⟨k, hk1, hk2, rfl, hlp⟩ := hrel
    have c1 : wr.cell? ⟨w.heap.size + 1, 0, none⟩ = some (.string w0) := hlp.word 0
    have hsz := hlp.lt
    by_cases hk9 : k ≤ 9
    · have hlp' := hlp
      go_wp2
      go_region_with (go_at_fn 26; refine (instrWord k (by omega) (by omega) _).mono ?_; rintro e w' ⟨rfl, hb⟩; have cc := (hb.cell (p := ⟨w.heap.size + 1, 0, none⟩) (show w.heap.size + 1 < wr.heap.size from by omega)).trans c1)
      all_goals
        have hlp2 := LP.go hlp (show Below wr.heap.size wr w' from (Below.refl _ _).drew.trans hb)
        have hd := hkd k hk1 hk9
        have c2 : w'.cell? ⟨w.heap.size + 1 + 1, 0, none⟩ = _ := hlp2.cell 0
        have f2 := hlp2.free 0
        by_cases hkk : k = kd
        · rw [decide_eq_true hkk] at hd
          go_wp2
          go_roundw
          case rel => exact ⟨k + 1, by omega, by omega, by go_num, by rw [if_pos (by omega)]; subst hkk; exact hlp2.set rfl⟩
          case measure => simp [intOf]; omega
        · rw [decide_eq_false hkk] at hd
          go_wp2
          go_roundw
          case rel => exact ⟨k + 1, by omega, by omega, by go_num, by rw [show (if kd < k + 1 then (kd : Int) else 0) = if kd < k then (kd : Int) else 0 from by split <;> split <;> omega]; exact hlp2⟩
          case measure => simp [intOf]; omega
    · obtain rfl : k = 10 := by omega
      rw [if_pos (by omega)] at hlp
      have n0 : ¬ (kd : Int) = 0 := by omega
      have b0 : ((kd : Int) == 0) = false := by simpa using n0
      have b4 : ((kd : Int) != 4) = true := by simp; omega
      have b9 : ((kd : Int) != 9) = true := by simp; omega
      have b5 : ((kd : Int) != 5) = true := by simp; omega
      have c20 : wr.cell? ⟨w.heap.size + 1 + 1, 0, none⟩ = some (.int .i64 (kd : Int)) := hlp.cell 0
      have c2 : ∀ o, (wr.alloc o).cell? ⟨w.heap.size + 1 + 1, 0, none⟩ = some (.int .i64 (kd : Int)) := fun o => (hlp.alloc o).cell 0
      have q0 : ∀ u, LQ w [w0, a, b] ((kd : Int)) 0 0 ⟨#[]⟩ wr.heap.size u (wr.alloc (.cells #[u] 27)) := fun u => ⟨hlp.alloc _, heap_alloc_new _ _, hlp.lt⟩
      go_wp2_with fail
      refine (take_cons wr.heap.size (w.heap.size + 1) 1 2 2 a _ (cell_of_one (q0 (.slice (some ⟨w.heap.size + 1, 1, none⟩) 2 2)).u) (free_of_one (q0 (.slice (some ⟨w.heap.size + 1, 1, none⟩) 2 2)).u) ((q0 (.slice (some ⟨w.heap.size + 1, 1, none⟩) 2 2)).word 1) (by omega) (by omega)).mono ?_
      rintro e w1 ⟨rfl, ad1, hw1, had1⟩
      obtain rfl := had1 (by omega)
      have q1 := (q0 (.slice (some ⟨w.heap.size + 1, 1, none⟩) 2 2)).setu (.slice (some ⟨w.heap.size + 1, 2, none⟩) 1 1)
      rw [← hw1] at q1
      clear hw1
      go_wp2_with fail
      refine (ha _).mono ?_
      rintro e w2 ⟨rfl, hb2⟩
      have q2 := q1.go hb2
      have c2_0 := q2.cell 0
      have f2_0 := q2.free 0
      have c2_1 := q2.cell 1
      have f2_1 := q2.free 1
      simp only [XC] at c2_0 c2_1
      have q2s := q2.set (j := 1) (v := .int .i64 (da : Int)) (k' := (kd : Int)) (r' := (da : Int)) (n' := 0) (t' := ⟨#[]⟩) rfl
      go_wp2_with fail
      refine (take_cons wr.heap.size (w.heap.size + 1) 2 1 1 b _ (cell_of_one q2s.u) (free_of_one q2s.u) (q2s.word 2) (by omega) (by omega)).mono ?_
      rintro e w3 ⟨rfl, ad3, hw3, had3⟩
      have q3 := q2s.setu (.slice ad3 0 0)
      rw [← hw3] at q3
      clear hw3
      go_wp2_with fail
      refine (hb _).mono ?_
      rintro e w4 ⟨rfl, hb4⟩
      have q4 := q3.go hb4
      have c4_0 := q4.cell 0
      have f4_0 := q4.free 0
      have c4_2 := q4.cell 2
      have f4_2 := q4.free 2
      simp only [XC] at c4_0 c4_2
      have q4s := q4.set (j := 2) (v := .int .i64 (db : Int)) (k' := (kd : Int)) (r' := (da : Int)) (n' := (db : Int)) (t' := ⟨#[]⟩) rfl
      go_wp2_with fail
      refine (take_nil wr.heap.size _ _ _ (cell_of_one q4s.u)).mono ?_
      rintro e w5 ⟨rfl, hw5⟩
      have q5 := q4s
      rw [← hw5] at q5
      clear hw5
      have c5_0 := q5.cell 0
      have f5_0 := q5.free 0
      have c5_1 := q5.cell 1
      have f5_1 := q5.free 1
      have c5_2 := q5.cell 2
      have f5_2 := q5.free 2
      have c5_3 := q5.cell 3
      have f5_3 := q5.free 3
      simp only [XC] at c5_0 c5_1 c5_2 c5_3
      have q5s := q5.set (j := 3) (v := .string ⟨#[]⟩) (k' := (kd : Int)) (r' := (da : Int)) (n' := (db : Int)) (t' := ⟨#[]⟩) rfl
      go_wp2_with fail
      refine (hF _ ⟨m, (q5s.below.cell (p := ⟨0, 0, none⟩) hb0).trans hm⟩).mono ?_
      rintro e w6 ⟨rfl, hb6⟩
      have q6 := q5s.go hb6
      have c6_0 := q6.cell 0
      have f6_0 := q6.free 0
      have c6_1 := q6.cell 1
      have f6_1 := q6.free 1
      have c6_2 := q6.cell 2
      have f6_2 := q6.free 2
      have c6_3 := q6.cell 3
      have f6_3 := q6.free 3
      simp only [XC] at c6_0 c6_1 c6_2 c6_3
      have r0 := q6.rcell 0
      have g0 := q6.rfree 0
      have r1 := q6.rcell 1
      have g1 := q6.rfree 1
      have r2 := q6.rcell 2
      have g2 := q6.rfree 2
      have r3 := q6.rcell 3
      have g3 := q6.rfree 3
      simp only [XC] at r0 r1 r2 r3
      go_wp2
      (try simp only [Exit.inBlock, Exit.then])
      refine bodyPost_ret (v := .tuple #[.agg (XC (kd : Int) (da : Int) (db : Int) ⟨#[]⟩), .bool true]) ?_ rfl ⟨rfl, ?_⟩
      · rw [results_cell_tmp rfl]
        go_simp
      · exact (((q6.below.setCell (Nat.le_refl _) _).setCell (Nat.le_refl _) _).setCell (Nat.le_refl _) _).setCell (Nat.le_refl _) _
theorem pB (s w0 a b c : ByteArray) (m : Int) (w : World) (hs : s.size < 1000) (hm : w.cell? ⟨0, 0, none⟩ = some (.int .i64 m))
    (hsp : Lib.splitB ⟨#[32]⟩ 0 (Lib.countB s ⟨#[32]⟩) s = [w0, a, b, c]) (hc : Lib.countB s ⟨#[32]⟩ = 3) (kd : Nat) (hk : 1 ≤ kd ∧ kd ≤ 9) (hkd : ∀ k, 1 ≤ k → k ≤ 9 → ((wd k).toList == w0.toList) = decide (k = kd))
    (h4 : kd ≠ 4) (h9 : kd ≠ 9) (h5 : kd ≠ 5) (da : Nat) (ha : ∀ W : World, Calls Tryd.prog 28 #[.string a] W fun e w' => e = .returned (.tuple #[.int .i64 da, .bool true]) ∧ Below W.heap.size W w') (db : Nat) (hb : ∀ W : World, Calls Tryd.prog 28 #[.string b] W fun e w' => e = .returned (.tuple #[.int .i64 db, .bool true]) ∧ Below W.heap.size W w') 
    (hF : ∀ W : World, (∃ m, W.cell? ⟨0, 0, none⟩ = some (.int .i64 m)) → Calls Tryd.prog 29 #[.agg (XC kd (da : Int) (db : Int) c)] W fun e w' => e = .returned (.string s) ∧ Below W.heap.size W w') :
    Calls Tryd.prog 19 #[.string s] w fun e w' => e = .returned (.tuple #[.agg (XC kd (da : Int) (db : Int) c), .bool true]) ∧ Below w.heap.size w w' := by
  have hmf : ∀ (fn : Fn) (first cap : Array Value) (w : World), (Instr.makeFunc fn first cap).run Tryd.prog w = .ok (.func fn first cap) w := fun _ _ _ _ => rfl
  have e18 : ∀ args w, (callFunc 18 args).run Tryd.prog w = .ok (.enter 18 args) w := enters_of Tryd.func18 (by kernel_rfl) rfl
  have e26 : ∀ args w, (callFunc 26 args).run Tryd.prog w = .ok (.enter 26 args) w := enters_of Tryd.func26 (by kernel_rfl) rfl
  have e27 : ∀ args w, (callFunc 27 args).run Tryd.prog w = .ok (.enter 27 args) w := enters_of Tryd.func27 (by kernel_rfl) rfl
  have e28 : ∀ args w, (callFunc 28 args).run Tryd.prog w = .ok (.enter 28 args) w := enters_of Tryd.func28 (by kernel_rfl) rfl
  have e29 : ∀ args w, (callFunc 29 args).run Tryd.prog w = .ok (.enter 29 args) w := enters_of Tryd.func29 (by kernel_rfl) rfl
  have hb0 : 0 < w.heap.size := World.block_lt_of_cell? _ _ hm
  go_enter Tryd.func19, Tryd.ntmps19
  go_wp2_with (go_at_fn 18; refine (Tryd.strings_Split s ⟨#[32]⟩ m _ (by omega) (by rw [World.cell?_alloc_past _ _ _ hb0]; exact hm) (by decide)).mono ?_; rintro e w' ⟨rfl, hw⟩; rw [hw, hsp, hc])
  go_loopw [6] (fun i wr => ∃ k : Nat, 1 ≤ k ∧ k ≤ 10 ∧ i = .int .i64 k ∧ LP w [w0, a, b, c] (if kd < k then (kd : Int) else 0) 0 0 ⟨#[]⟩ wr) (fun i _ => 10 - (intOf i).toNat)
  case atStart =>
    refine ⟨1, by omega, by omega, rfl, ?_⟩
    rw [if_neg (by omega)]
    exact lp_start w _
  case round =>
    obtain ⟨k, hk1, hk2, rfl, hlp⟩ := hrel
    have c1 : wr.cell? ⟨w.heap.size + 1, 0, none⟩ = some (.string w0) := hlp.word 0
    have hsz := hlp.lt
    by_cases hk9 : k ≤ 9
    · have hlp' := hlp
      go_wp2
      go_region_with (go_at_fn 26; refine (instrWord k (by omega) (by omega) _).mono ?_; rintro e w' ⟨rfl, hb⟩; have cc := (hb.cell (p := ⟨w.heap.size + 1, 0, none⟩) (show w.heap.size + 1 < wr.heap.size from by omega)).trans c1)
      all_goals
        have hlp2 := LP.go hlp (show Below wr.heap.size wr w' from (Below.refl _ _).drew.trans hb)
        have hd := hkd k hk1 hk9
        have c2 : w'.cell? ⟨w.heap.size + 1 + 1, 0, none⟩ = _ := hlp2.cell 0
        have f2 := hlp2.free 0
        by_cases hkk : k = kd
        · rw [decide_eq_true hkk] at hd
          go_wp2
          go_roundw
          case rel => exact ⟨k + 1, by omega, by omega, by go_num, by rw [if_pos (by omega)]; subst hkk; exact hlp2.set rfl⟩
          case measure => simp [intOf]; omega
        · rw [decide_eq_false hkk] at hd
          go_wp2
          go_roundw
          case rel => exact ⟨k + 1, by omega, by omega, by go_num, by rw [show (if kd < k + 1 then (kd : Int) else 0) = if kd < k then (kd : Int) else 0 from by split <;> split <;> omega]; exact hlp2⟩
          case measure => simp [intOf]; omega
    · obtain rfl : k = 10 := by omega
      rw [if_pos (by omega)] at hlp
      have n0 : ¬ (kd : Int) = 0 := by omega
      have b0 : ((kd : Int) == 0) = false := by simpa using n0
      have b4 : ((kd : Int) != 4) = true := by simp; omega
      have b9 : ((kd : Int) != 9) = true := by simp; omega
      have b5 : ((kd : Int) != 5) = true := by simp; omega
      have c20 : wr.cell? ⟨w.heap.size + 1 + 1, 0, none⟩ = some (.int .i64 (kd : Int)) := hlp.cell 0
      have c2 : ∀ o, (wr.alloc o).cell? ⟨w.heap.size + 1 + 1, 0, none⟩ = some (.int .i64 (kd : Int)) := fun o => (hlp.alloc o).cell 0
      have q0 : ∀ u, LQ w [w0, a, b, c] ((kd : Int)) 0 0 ⟨#[]⟩ wr.heap.size u (wr.alloc (.cells #[u] 27)) := fun u => ⟨hlp.alloc _, heap_alloc_new _ _, hlp.lt⟩
      go_wp2_with fail
      refine (take_cons wr.heap.size (w.heap.size + 1) 1 3 3 a _ (cell_of_one (q0 (.slice (some ⟨w.heap.size + 1, 1, none⟩) 3 3)).u) (free_of_one (q0 (.slice (some ⟨w.heap.size + 1, 1, none⟩) 3 3)).u) ((q0 (.slice (some ⟨w.heap.size + 1, 1, none⟩) 3 3)).word 1) (by omega) (by omega)).mono ?_
      rintro e w1 ⟨rfl, ad1, hw1, had1⟩
      obtain rfl := had1 (by omega)
      have q1 := (q0 (.slice (some ⟨w.heap.size + 1, 1, none⟩) 3 3)).setu (.slice (some ⟨w.heap.size + 1, 2, none⟩) 2 2)
      rw [← hw1] at q1
      clear hw1
      go_wp2_with fail
      refine (ha _).mono ?_
      rintro e w2 ⟨rfl, hb2⟩
      have q2 := q1.go hb2
      have c2_0 := q2.cell 0
      have f2_0 := q2.free 0
      have c2_1 := q2.cell 1
      have f2_1 := q2.free 1
      simp only [XC] at c2_0 c2_1
      have q2s := q2.set (j := 1) (v := .int .i64 (da : Int)) (k' := (kd : Int)) (r' := (da : Int)) (n' := 0) (t' := ⟨#[]⟩) rfl
      go_wp2_with fail
      refine (take_cons wr.heap.size (w.heap.size + 1) 2 2 2 b _ (cell_of_one q2s.u) (free_of_one q2s.u) (q2s.word 2) (by omega) (by omega)).mono ?_
      rintro e w3 ⟨rfl, ad3, hw3, had3⟩
      obtain rfl := had3 (by omega)
      have q3 := q2s.setu (.slice (some ⟨w.heap.size + 1, 3, none⟩) 1 1)
      rw [← hw3] at q3
      clear hw3
      go_wp2_with fail
      refine (hb _).mono ?_
      rintro e w4 ⟨rfl, hb4⟩
      have q4 := q3.go hb4
      have c4_0 := q4.cell 0
      have f4_0 := q4.free 0
      have c4_2 := q4.cell 2
      have f4_2 := q4.free 2
      simp only [XC] at c4_0 c4_2
      have q4s := q4.set (j := 2) (v := .int .i64 (db : Int)) (k' := (kd : Int)) (r' := (da : Int)) (n' := (db : Int)) (t' := ⟨#[]⟩) rfl
      go_wp2_with fail
      refine (take_cons wr.heap.size (w.heap.size + 1) 3 1 1 c _ (cell_of_one q4s.u) (free_of_one q4s.u) (q4s.word 3) (by omega) (by omega)).mono ?_
      rintro e w5 ⟨rfl, ad5, hw5, had5⟩
      have q5 := q4s.setu (.slice ad5 0 0)
      rw [← hw5] at q5
      clear hw5
      have c5_0 := q5.cell 0
      have f5_0 := q5.free 0
      have c5_1 := q5.cell 1
      have f5_1 := q5.free 1
      have c5_2 := q5.cell 2
      have f5_2 := q5.free 2
      have c5_3 := q5.cell 3
      have f5_3 := q5.free 3
      simp only [XC] at c5_0 c5_1 c5_2 c5_3
      have q5s := q5.set (j := 3) (v := .string c) (k' := (kd : Int)) (r' := (da : Int)) (n' := (db : Int)) (t' := c) rfl
      go_wp2_with fail
      refine (hF _ ⟨m, (q5s.below.cell (p := ⟨0, 0, none⟩) hb0).trans hm⟩).mono ?_
      rintro e w6 ⟨rfl, hb6⟩
      have q6 := q5s.go hb6
      have c6_0 := q6.cell 0
      have f6_0 := q6.free 0
      have c6_1 := q6.cell 1
      have f6_1 := q6.free 1
      have c6_2 := q6.cell 2
      have f6_2 := q6.free 2
      have c6_3 := q6.cell 3
      have f6_3 := q6.free 3
      simp only [XC] at c6_0 c6_1 c6_2 c6_3
      have r0 := q6.rcell 0
      have g0 := q6.rfree 0
      have r1 := q6.rcell 1
      have g1 := q6.rfree 1
      have r2 := q6.rcell 2
      have g2 := q6.rfree 2
      have r3 := q6.rcell 3
      have g3 := q6.rfree 3
      simp only [XC] at r0 r1 r2 r3
      go_wp2
      (try simp only [Exit.inBlock, Exit.then])
      refine bodyPost_ret (v := .tuple #[.agg (XC (kd : Int) (da : Int) (db : Int) c), .bool true]) ?_ rfl ⟨rfl, ?_⟩
      · rw [results_cell_tmp rfl]
        go_simp
      · exact (((q6.below.setCell (Nat.le_refl _) _).setCell (Nat.le_refl _) _).setCell (Nat.le_refl _) _).setCell (Nat.le_refl _) _
theorem pG (s w0 a : ByteArray) (m : Int) (w : World) (hs : s.size < 1000) (hm : w.cell? ⟨0, 0, none⟩ = some (.int .i64 m))
    (hsp : Lib.splitB ⟨#[32]⟩ 0 (Lib.countB s ⟨#[32]⟩) s = [w0, a]) (hc : Lib.countB s ⟨#[32]⟩ = 1) (h4 : ∀ k, 1 ≤ k → k ≤ 9 → ((wd k).toList == w0.toList) = decide (k = 4))
    (da : Nat) (ha : ∀ W : World, Calls Tryd.prog 28 #[.string a] W fun e w' => e = .returned (.tuple #[.int .i64 da, .bool true]) ∧ Below W.heap.size W w') 
    (hF : ∀ W : World, (∃ m, W.cell? ⟨0, 0, none⟩ = some (.int .i64 m)) → Calls Tryd.prog 29 #[.agg (XC 4 0 (da : Int) ⟨#[]⟩)] W fun e w' => e = .returned (.string s) ∧ Below W.heap.size W w') :
    Calls Tryd.prog 19 #[.string s] w fun e w' => e = .returned (.tuple #[.agg (XC 4 0 (da : Int) ⟨#[]⟩), .bool true]) ∧ Below w.heap.size w w' := by
  have hmf : ∀ (fn : Fn) (first cap : Array Value) (w : World), (Instr.makeFunc fn first cap).run Tryd.prog w = .ok (.func fn first cap) w := fun _ _ _ _ => rfl
  have e18 : ∀ args w, (callFunc 18 args).run Tryd.prog w = .ok (.enter 18 args) w := enters_of Tryd.func18 (by kernel_rfl) rfl
  have e26 : ∀ args w, (callFunc 26 args).run Tryd.prog w = .ok (.enter 26 args) w := enters_of Tryd.func26 (by kernel_rfl) rfl
  have e27 : ∀ args w, (callFunc 27 args).run Tryd.prog w = .ok (.enter 27 args) w := enters_of Tryd.func27 (by kernel_rfl) rfl
  have e28 : ∀ args w, (callFunc 28 args).run Tryd.prog w = .ok (.enter 28 args) w := enters_of Tryd.func28 (by kernel_rfl) rfl
  have e29 : ∀ args w, (callFunc 29 args).run Tryd.prog w = .ok (.enter 29 args) w := enters_of Tryd.func29 (by kernel_rfl) rfl
  have hb0 : 0 < w.heap.size := World.block_lt_of_cell? _ _ hm
  go_enter Tryd.func19, Tryd.ntmps19
  go_wp2_with (go_at_fn 18; refine (Tryd.strings_Split s ⟨#[32]⟩ m _ (by omega) (by rw [World.cell?_alloc_past _ _ _ hb0]; exact hm) (by decide)).mono ?_; rintro e w' ⟨rfl, hw⟩; rw [hw, hsp, hc])
  go_loopw [6] (fun i wr => ∃ k : Nat, 1 ≤ k ∧ k ≤ 10 ∧ i = .int .i64 k ∧ LP w [w0, a] (if 4 < k then (4 : Int) else 0) 0 0 ⟨#[]⟩ wr) (fun i _ => 10 - (intOf i).toNat)
  case atStart =>
    refine ⟨1, by omega, by omega, rfl, ?_⟩
    rw [if_neg (by omega)]
    exact lp_start w _
  case round =>
    obtain ⟨k, hk1, hk2, rfl, hlp⟩ := hrel
    have c1 : wr.cell? ⟨w.heap.size + 1, 0, none⟩ = some (.string w0) := hlp.word 0
    have hsz := hlp.lt
    by_cases hk9 : k ≤ 9
    · have hlp' := hlp
      go_wp2
      go_region_with (go_at_fn 26; refine (instrWord k (by omega) (by omega) _).mono ?_; rintro e w' ⟨rfl, hb⟩; have cc := (hb.cell (p := ⟨w.heap.size + 1, 0, none⟩) (show w.heap.size + 1 < wr.heap.size from by omega)).trans c1)
      all_goals
        have hlp2 := LP.go hlp (show Below wr.heap.size wr w' from (Below.refl _ _).drew.trans hb)
        have hd := h4 k hk1 hk9
        have c2 : w'.cell? ⟨w.heap.size + 1 + 1, 0, none⟩ = _ := hlp2.cell 0
        have f2 := hlp2.free 0
        by_cases hkk : k = 4
        · rw [decide_eq_true hkk] at hd
          go_wp2
          go_roundw
          case rel => exact ⟨k + 1, by omega, by omega, by go_num, by rw [if_pos (by omega)]; subst hkk; exact hlp2.set rfl⟩
          case measure => simp [intOf]; omega
        · rw [decide_eq_false hkk] at hd
          go_wp2
          go_roundw
          case rel => exact ⟨k + 1, by omega, by omega, by go_num, by rw [show (if 4 < k + 1 then (4 : Int) else 0) = if 4 < k then (4 : Int) else 0 from by split <;> split <;> omega]; exact hlp2⟩
          case measure => simp [intOf]; omega
    · obtain rfl : k = 10 := by omega
      rw [if_pos (by omega)] at hlp
      have c20 : wr.cell? ⟨w.heap.size + 1 + 1, 0, none⟩ = some (.int .i64 4) := hlp.cell 0
      have c2 : ∀ o, (wr.alloc o).cell? ⟨w.heap.size + 1 + 1, 0, none⟩ = some (.int .i64 4) := fun o => (hlp.alloc o).cell 0
      have q0 : ∀ u, LQ w [w0, a] (4) 0 0 ⟨#[]⟩ wr.heap.size u (wr.alloc (.cells #[u] 27)) := fun u => ⟨hlp.alloc _, heap_alloc_new _ _, hlp.lt⟩
      go_wp2_with fail
      refine (take_cons wr.heap.size (w.heap.size + 1) 1 1 1 a _ (cell_of_one (q0 (.slice (some ⟨w.heap.size + 1, 1, none⟩) 1 1)).u) (free_of_one (q0 (.slice (some ⟨w.heap.size + 1, 1, none⟩) 1 1)).u) ((q0 (.slice (some ⟨w.heap.size + 1, 1, none⟩) 1 1)).word 1) (by omega) (by omega)).mono ?_
      rintro e w1 ⟨rfl, ad1, hw1, had1⟩
      have q1 := (q0 (.slice (some ⟨w.heap.size + 1, 1, none⟩) 1 1)).setu (.slice ad1 0 0)
      rw [← hw1] at q1
      clear hw1
      go_wp2_with fail
      refine (ha _).mono ?_
      rintro e w2 ⟨rfl, hb2⟩
      have q2 := q1.go hb2
      have c2_0 := q2.cell 0
      have f2_0 := q2.free 0
      have c2_2 := q2.cell 2
      have f2_2 := q2.free 2
      simp only [XC] at c2_0 c2_2
      have q2s := q2.set (j := 2) (v := .int .i64 (da : Int)) (k' := 4) (r' := 0) (n' := (da : Int)) (t' := ⟨#[]⟩) rfl
      go_wp2_with fail
      refine (take_nil wr.heap.size _ _ _ (cell_of_one q2s.u)).mono ?_
      rintro e w3 ⟨rfl, hw3⟩
      have q3 := q2s
      rw [← hw3] at q3
      clear hw3
      have c3_0 := q3.cell 0
      have f3_0 := q3.free 0
      have c3_1 := q3.cell 1
      have f3_1 := q3.free 1
      have c3_2 := q3.cell 2
      have f3_2 := q3.free 2
      have c3_3 := q3.cell 3
      have f3_3 := q3.free 3
      simp only [XC] at c3_0 c3_1 c3_2 c3_3
      have q3s := q3.set (j := 3) (v := .string ⟨#[]⟩) (k' := 4) (r' := 0) (n' := (da : Int)) (t' := ⟨#[]⟩) rfl
      go_wp2_with fail
      refine (hF _ ⟨m, (q3s.below.cell (p := ⟨0, 0, none⟩) hb0).trans hm⟩).mono ?_
      rintro e w4 ⟨rfl, hb4⟩
      have q4 := q3s.go hb4
      have c4_0 := q4.cell 0
      have f4_0 := q4.free 0
      have c4_1 := q4.cell 1
      have f4_1 := q4.free 1
      have c4_2 := q4.cell 2
      have f4_2 := q4.free 2
      have c4_3 := q4.cell 3
      have f4_3 := q4.free 3
      simp only [XC] at c4_0 c4_1 c4_2 c4_3
      have r0 := q4.rcell 0
      have g0 := q4.rfree 0
      have r1 := q4.rcell 1
      have g1 := q4.rfree 1
      have r2 := q4.rcell 2
      have g2 := q4.rfree 2
      have r3 := q4.rcell 3
      have g3 := q4.rfree 3
      simp only [XC] at r0 r1 r2 r3
      go_wp2
      (try simp only [Exit.inBlock, Exit.then])
      refine bodyPost_ret (v := .tuple #[.agg (XC 4 0 (da : Int) ⟨#[]⟩), .bool true]) ?_ rfl ⟨rfl, ?_⟩
      · rw [results_cell_tmp rfl]
        go_simp
      · exact (((q4.below.setCell (Nat.le_refl _) _).setCell (Nat.le_refl _) _).setCell (Nat.le_refl _) _).setCell (Nat.le_refl _) _
theorem pF (s w0 a b : ByteArray) (m : Int) (w : World) (hs : s.size < 1000) (hm : w.cell? ⟨0, 0, none⟩ = some (.int .i64 m))
    (hsp : Lib.splitB ⟨#[32]⟩ 0 (Lib.countB s ⟨#[32]⟩) s = [w0, a, b]) (hc : Lib.countB s ⟨#[32]⟩ = 2) (h5 : ∀ k, 1 ≤ k → k ≤ 9 → ((wd k).toList == w0.toList) = decide (k = 5))
    (da : Nat) (ha : ∀ W : World, Calls Tryd.prog 28 #[.string a] W fun e w' => e = .returned (.tuple #[.int .i64 da, .bool true]) ∧ Below W.heap.size W w') 
    (hF : ∀ W : World, (∃ m, W.cell? ⟨0, 0, none⟩ = some (.int .i64 m)) → Calls Tryd.prog 29 #[.agg (XC 5 (da : Int) 0 b)] W fun e w' => e = .returned (.string s) ∧ Below W.heap.size W w') :
    Calls Tryd.prog 19 #[.string s] w fun e w' => e = .returned (.tuple #[.agg (XC 5 (da : Int) 0 b), .bool true]) ∧ Below w.heap.size w w' := by
  have hmf : ∀ (fn : Fn) (first cap : Array Value) (w : World), (Instr.makeFunc fn first cap).run Tryd.prog w = .ok (.func fn first cap) w := fun _ _ _ _ => rfl
  have e18 : ∀ args w, (callFunc 18 args).run Tryd.prog w = .ok (.enter 18 args) w := enters_of Tryd.func18 (by kernel_rfl) rfl
  have e26 : ∀ args w, (callFunc 26 args).run Tryd.prog w = .ok (.enter 26 args) w := enters_of Tryd.func26 (by kernel_rfl) rfl
  have e27 : ∀ args w, (callFunc 27 args).run Tryd.prog w = .ok (.enter 27 args) w := enters_of Tryd.func27 (by kernel_rfl) rfl
  have e28 : ∀ args w, (callFunc 28 args).run Tryd.prog w = .ok (.enter 28 args) w := enters_of Tryd.func28 (by kernel_rfl) rfl
  have e29 : ∀ args w, (callFunc 29 args).run Tryd.prog w = .ok (.enter 29 args) w := enters_of Tryd.func29 (by kernel_rfl) rfl
  have hb0 : 0 < w.heap.size := World.block_lt_of_cell? _ _ hm
  go_enter Tryd.func19, Tryd.ntmps19
  go_wp2_with (go_at_fn 18; refine (Tryd.strings_Split s ⟨#[32]⟩ m _ (by omega) (by rw [World.cell?_alloc_past _ _ _ hb0]; exact hm) (by decide)).mono ?_; rintro e w' ⟨rfl, hw⟩; rw [hw, hsp, hc])
  go_loopw [6] (fun i wr => ∃ k : Nat, 1 ≤ k ∧ k ≤ 10 ∧ i = .int .i64 k ∧ LP w [w0, a, b] (if 5 < k then (5 : Int) else 0) 0 0 ⟨#[]⟩ wr) (fun i _ => 10 - (intOf i).toNat)
  case atStart =>
    refine ⟨1, by omega, by omega, rfl, ?_⟩
    rw [if_neg (by omega)]
    exact lp_start w _
  case round =>
    obtain ⟨k, hk1, hk2, rfl, hlp⟩ := hrel
    have c1 : wr.cell? ⟨w.heap.size + 1, 0, none⟩ = some (.string w0) := hlp.word 0
    have hsz := hlp.lt
    by_cases hk9 : k ≤ 9
    · have hlp' := hlp
      go_wp2
      go_region_with (go_at_fn 26; refine (instrWord k (by omega) (by omega) _).mono ?_; rintro e w' ⟨rfl, hb⟩; have cc := (hb.cell (p := ⟨w.heap.size + 1, 0, none⟩) (show w.heap.size + 1 < wr.heap.size from by omega)).trans c1)
      all_goals
        have hlp2 := LP.go hlp (show Below wr.heap.size wr w' from (Below.refl _ _).drew.trans hb)
        have hd := h5 k hk1 hk9
        have c2 : w'.cell? ⟨w.heap.size + 1 + 1, 0, none⟩ = _ := hlp2.cell 0
        have f2 := hlp2.free 0
        by_cases hkk : k = 5
        · rw [decide_eq_true hkk] at hd
          go_wp2
          go_roundw
          case rel => exact ⟨k + 1, by omega, by omega, by go_num, by rw [if_pos (by omega)]; subst hkk; exact hlp2.set rfl⟩
          case measure => simp [intOf]; omega
        · rw [decide_eq_false hkk] at hd
          go_wp2
          go_roundw
          case rel => exact ⟨k + 1, by omega, by omega, by go_num, by rw [show (if 5 < k + 1 then (5 : Int) else 0) = if 5 < k then (5 : Int) else 0 from by split <;> split <;> omega]; exact hlp2⟩
          case measure => simp [intOf]; omega
    · obtain rfl : k = 10 := by omega
      rw [if_pos (by omega)] at hlp
      have c20 : wr.cell? ⟨w.heap.size + 1 + 1, 0, none⟩ = some (.int .i64 5) := hlp.cell 0
      have c2 : ∀ o, (wr.alloc o).cell? ⟨w.heap.size + 1 + 1, 0, none⟩ = some (.int .i64 5) := fun o => (hlp.alloc o).cell 0
      have q0 : ∀ u, LQ w [w0, a, b] (5) 0 0 ⟨#[]⟩ wr.heap.size u (wr.alloc (.cells #[u] 27)) := fun u => ⟨hlp.alloc _, heap_alloc_new _ _, hlp.lt⟩
      go_wp2_with fail
      refine (take_cons wr.heap.size (w.heap.size + 1) 1 2 2 a _ (cell_of_one (q0 (.slice (some ⟨w.heap.size + 1, 1, none⟩) 2 2)).u) (free_of_one (q0 (.slice (some ⟨w.heap.size + 1, 1, none⟩) 2 2)).u) ((q0 (.slice (some ⟨w.heap.size + 1, 1, none⟩) 2 2)).word 1) (by omega) (by omega)).mono ?_
      rintro e w1 ⟨rfl, ad1, hw1, had1⟩
      obtain rfl := had1 (by omega)
      have q1 := (q0 (.slice (some ⟨w.heap.size + 1, 1, none⟩) 2 2)).setu (.slice (some ⟨w.heap.size + 1, 2, none⟩) 1 1)
      rw [← hw1] at q1
      clear hw1
      go_wp2_with fail
      refine (ha _).mono ?_
      rintro e w2 ⟨rfl, hb2⟩
      have q2 := q1.go hb2
      have c2_0 := q2.cell 0
      have f2_0 := q2.free 0
      have c2_1 := q2.cell 1
      have f2_1 := q2.free 1
      simp only [XC] at c2_0 c2_1
      have q2s := q2.set (j := 1) (v := .int .i64 (da : Int)) (k' := 5) (r' := (da : Int)) (n' := 0) (t' := ⟨#[]⟩) rfl
      go_wp2_with fail
      refine (take_cons wr.heap.size (w.heap.size + 1) 2 1 1 b _ (cell_of_one q2s.u) (free_of_one q2s.u) (q2s.word 2) (by omega) (by omega)).mono ?_
      rintro e w3 ⟨rfl, ad3, hw3, had3⟩
      have q3 := q2s.setu (.slice ad3 0 0)
      rw [← hw3] at q3
      clear hw3
      have c3_0 := q3.cell 0
      have f3_0 := q3.free 0
      have c3_1 := q3.cell 1
      have f3_1 := q3.free 1
      have c3_2 := q3.cell 2
      have f3_2 := q3.free 2
      have c3_3 := q3.cell 3
      have f3_3 := q3.free 3
      simp only [XC] at c3_0 c3_1 c3_2 c3_3
      have q3s := q3.set (j := 3) (v := .string b) (k' := 5) (r' := (da : Int)) (n' := 0) (t' := b) rfl
      go_wp2_with fail
      refine (hF _ ⟨m, (q3s.below.cell (p := ⟨0, 0, none⟩) hb0).trans hm⟩).mono ?_
      rintro e w4 ⟨rfl, hb4⟩
      have q4 := q3s.go hb4
      have c4_0 := q4.cell 0
      have f4_0 := q4.free 0
      have c4_1 := q4.cell 1
      have f4_1 := q4.free 1
      have c4_2 := q4.cell 2
      have f4_2 := q4.free 2
      have c4_3 := q4.cell 3
      have f4_3 := q4.free 3
      simp only [XC] at c4_0 c4_1 c4_2 c4_3
      have r0 := q4.rcell 0
      have g0 := q4.rfree 0
      have r1 := q4.rcell 1
      have g1 := q4.rfree 1
      have r2 := q4.rcell 2
      have g2 := q4.rfree 2
      have r3 := q4.rcell 3
      have g3 := q4.rfree 3
      simp only [XC] at r0 r1 r2 r3
      go_wp2
      (try simp only [Exit.inBlock, Exit.then])
      refine bodyPost_ret (v := .tuple #[.agg (XC 5 (da : Int) 0 b), .bool true]) ?_ rfl ⟨rfl, ?_⟩
      · rw [results_cell_tmp rfl]
        go_simp
      · exact (((q4.below.setCell (Nat.le_refl _) _).setCell (Nat.le_refl _) _).setCell (Nat.le_refl _) _).setCell (Nat.le_refl _) _
theorem pE (s w0 : ByteArray) (m : Int) (w : World) (hs : s.size < 1000) (hm : w.cell? ⟨0, 0, none⟩ = some (.int .i64 m))
    (hsp : Lib.splitB ⟨#[32]⟩ 0 (Lib.countB s ⟨#[32]⟩) s = [w0]) (hc : Lib.countB s ⟨#[32]⟩ = 0) (h9 : ∀ k, 1 ≤ k → k ≤ 9 → ((wd k).toList == w0.toList) = decide (k = 9))
    (hF : ∀ W : World, (∃ m, W.cell? ⟨0, 0, none⟩ = some (.int .i64 m)) → Calls Tryd.prog 29 #[.agg (XC 9 0 0 ⟨#[]⟩)] W fun e w' => e = .returned (.string s) ∧ Below W.heap.size W w') :
    Calls Tryd.prog 19 #[.string s] w fun e w' => e = .returned (.tuple #[.agg (XC 9 0 0 ⟨#[]⟩), .bool true]) ∧ Below w.heap.size w w' := by
  have hmf : ∀ (fn : Fn) (first cap : Array Value) (w : World), (Instr.makeFunc fn first cap).run Tryd.prog w = .ok (.func fn first cap) w := fun _ _ _ _ => rfl
  have e18 : ∀ args w, (callFunc 18 args).run Tryd.prog w = .ok (.enter 18 args) w := enters_of Tryd.func18 (by kernel_rfl) rfl
  have e26 : ∀ args w, (callFunc 26 args).run Tryd.prog w = .ok (.enter 26 args) w := enters_of Tryd.func26 (by kernel_rfl) rfl
  have e27 : ∀ args w, (callFunc 27 args).run Tryd.prog w = .ok (.enter 27 args) w := enters_of Tryd.func27 (by kernel_rfl) rfl
  have e28 : ∀ args w, (callFunc 28 args).run Tryd.prog w = .ok (.enter 28 args) w := enters_of Tryd.func28 (by kernel_rfl) rfl
  have e29 : ∀ args w, (callFunc 29 args).run Tryd.prog w = .ok (.enter 29 args) w := enters_of Tryd.func29 (by kernel_rfl) rfl
  have hb0 : 0 < w.heap.size := World.block_lt_of_cell? _ _ hm
  go_enter Tryd.func19, Tryd.ntmps19
  go_wp2_with (go_at_fn 18; refine (Tryd.strings_Split s ⟨#[32]⟩ m _ (by omega) (by rw [World.cell?_alloc_past _ _ _ hb0]; exact hm) (by decide)).mono ?_; rintro e w' ⟨rfl, hw⟩; rw [hw, hsp, hc])
  go_loopw [6] (fun i wr => ∃ k : Nat, 1 ≤ k ∧ k ≤ 10 ∧ i = .int .i64 k ∧ LP w [w0] (if 9 < k then (9 : Int) else 0) 0 0 ⟨#[]⟩ wr) (fun i _ => 10 - (intOf i).toNat)
  case atStart =>
    refine ⟨1, by omega, by omega, rfl, ?_⟩
    rw [if_neg (by omega)]
    exact lp_start w _
  case round =>
    obtain ⟨k, hk1, hk2, rfl, hlp⟩ := hrel
    have c1 : wr.cell? ⟨w.heap.size + 1, 0, none⟩ = some (.string w0) := hlp.word 0
    have hsz := hlp.lt
    by_cases hk9 : k ≤ 9
    · have hlp' := hlp
      go_wp2
      go_region_with (go_at_fn 26; refine (instrWord k (by omega) (by omega) _).mono ?_; rintro e w' ⟨rfl, hb⟩; have cc := (hb.cell (p := ⟨w.heap.size + 1, 0, none⟩) (show w.heap.size + 1 < wr.heap.size from by omega)).trans c1)
      all_goals
        have hlp2 := LP.go hlp (show Below wr.heap.size wr w' from (Below.refl _ _).drew.trans hb)
        have hd := h9 k hk1 hk9
        have c2 : w'.cell? ⟨w.heap.size + 1 + 1, 0, none⟩ = _ := hlp2.cell 0
        have f2 := hlp2.free 0
        by_cases hkk : k = 9
        · rw [decide_eq_true hkk] at hd
          go_wp2
          go_roundw
          case rel => exact ⟨k + 1, by omega, by omega, by go_num, by rw [if_pos (by omega)]; subst hkk; exact hlp2.set rfl⟩
          case measure => simp [intOf]; omega
        · rw [decide_eq_false hkk] at hd
          go_wp2
          go_roundw
          case rel => exact ⟨k + 1, by omega, by omega, by go_num, by rw [show (if 9 < k + 1 then (9 : Int) else 0) = if 9 < k then (9 : Int) else 0 from by split <;> split <;> omega]; exact hlp2⟩
          case measure => simp [intOf]; omega
    · obtain rfl : k = 10 := by omega
      rw [if_pos (by omega)] at hlp
      have c20 : wr.cell? ⟨w.heap.size + 1 + 1, 0, none⟩ = some (.int .i64 9) := hlp.cell 0
      have c2 : ∀ o, (wr.alloc o).cell? ⟨w.heap.size + 1 + 1, 0, none⟩ = some (.int .i64 9) := fun o => (hlp.alloc o).cell 0
      have q0 : ∀ u, LQ w [w0] (9) 0 0 ⟨#[]⟩ wr.heap.size u (wr.alloc (.cells #[u] 27)) := fun u => ⟨hlp.alloc _, heap_alloc_new _ _, hlp.lt⟩
      go_wp2_with fail
      refine (take_nil wr.heap.size _ _ _ (cell_of_one (q0 (.slice (some ⟨w.heap.size + 1, 0, none⟩) 0 0)).u)).mono ?_
      rintro e w1 ⟨rfl, hw1⟩
      have q1 := (q0 (.slice (some ⟨w.heap.size + 1, 0, none⟩) 0 0))
      rw [← hw1] at q1
      clear hw1
      have c1_0 := q1.cell 0
      have f1_0 := q1.free 0
      have c1_1 := q1.cell 1
      have f1_1 := q1.free 1
      have c1_2 := q1.cell 2
      have f1_2 := q1.free 2
      have c1_3 := q1.cell 3
      have f1_3 := q1.free 3
      simp only [XC] at c1_0 c1_1 c1_2 c1_3
      have q1s := q1.set (j := 3) (v := .string ⟨#[]⟩) (k' := 9) (r' := 0) (n' := 0) (t' := ⟨#[]⟩) rfl
      go_wp2_with fail
      refine (hF _ ⟨m, (q1s.below.cell (p := ⟨0, 0, none⟩) hb0).trans hm⟩).mono ?_
      rintro e w2 ⟨rfl, hb2⟩
      have q2 := q1s.go hb2
      have c2_0 := q2.cell 0
      have f2_0 := q2.free 0
      have c2_1 := q2.cell 1
      have f2_1 := q2.free 1
      have c2_2 := q2.cell 2
      have f2_2 := q2.free 2
      have c2_3 := q2.cell 3
      have f2_3 := q2.free 3
      simp only [XC] at c2_0 c2_1 c2_2 c2_3
      have r0 := q2.rcell 0
      have g0 := q2.rfree 0
      have r1 := q2.rcell 1
      have g1 := q2.rfree 1
      have r2 := q2.rcell 2
      have g2 := q2.rfree 2
      have r3 := q2.rcell 3
      have g3 := q2.rfree 3
      simp only [XC] at r0 r1 r2 r3
      go_wp2
      (try simp only [Exit.inBlock, Exit.then])
      refine bodyPost_ret (v := .tuple #[.agg (XC 9 0 0 ⟨#[]⟩), .bool true]) ?_ rfl ⟨rfl, ?_⟩
      · rw [results_cell_tmp rfl]
        go_simp
      · exact (((q2.below.setCell (Nat.le_refl _) _).setCell (Nat.le_refl _) _).setCell (Nat.le_refl _) _).setCell (Nat.le_refl _) _
end Go.Proofs.YtcjcgihohefldaaDoor
