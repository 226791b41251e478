/- Of this proof. -/
import Derived.Test.YthklhahdgbbbhaaGreatGyh
import Derived.Test.YthklhahdgbbbhaaGreatGye
set_option linter.unusedSimpArgs false
namespace Gi
open Go Go.RowKit
set_option maxHeartbeats 8000000
set_option maxRecDepth 4000
attribute [local simp] bW am bg bt cF dN Opd.ev put V.cells plain bz hJ isInt isStr isBool bin bf aS aR un asList L.view aB V.view viewL bC aC aT cj comp bq bZ bK a9 aK aI aJ aQ aE ba ar aM aA av aO aN aL aP thawT bB bw cd bG bA bz V.flat L.flat dX dJ bS putAt thaw thawL freezeVs freezeLs freezeL V.mut L.mut bm aZ wp_seq wp_block bE wp_cond wp_skip wp_exit wp_ret cN cE cK cH cS cT cR cq bj L.notArr aY aW aX bH bI
section
variable {B : Nat}
theorem xe (hB1 : B ≤ 1048576) {bs : List XBucket} (h : bs.length ≤ B ∧ ∀ x ∈ bs, x.Ok B) : aa Ph al 379 [.agg [.pv (.lst (bs.map XBucket.e))]] = some (aj (lP bs)) := by
 have hB : B ≤ maxLen := by unfold maxLen; omega
 have eB : ∀ k (hk : k < bs.length), _ := fun k hk => yV hB1 (h.2 _ (List.getElem_mem hk))
 have hlm : bs.length ≤ maxLen := Nat.le_trans h.1 hB
 refine aw (fn := np) rfl ?_
 simp [np]
 refine bU bh Cl.fin [.f,.t,.f,.f,.f,.f,.t,.t,.t,.f,.f,.f,.f,.f,.f,.f,.f,.f,.f,.f,.f,.f,.f,.f,.f,.f,.f,.f,.f,.f,.f,.f,.f,.f,.f,.f] (fun k => [(8, ae .i64 k)]) bs.length (II bs) rfl ?_ ?_ ?_ ?_
 ·exact Kn.q [0]
 ·intro k hk hp
  unfold II at hp
  cases k with
  | zero =>
   have f1 := eB (0) hk
   have hx := XBucket.e.eq_1 bs[0]
   rw [iB hk] at hp
   generalize nF bs[0] = b1 at hp f1
   cases b1
   ·simp [hk, bP, f1, hx] at hp
   simp [fy, hk, bP, f1, hx]
   exact Kn.q [0]
  | succ j =>
   have hj : j < bs.length := by omega
   obtain ⟨i1, i2, i3, i4, i5, i6⟩ := kJ hlm hk
   have f1 := eB (j + 1) hk
   have hx := XBucket.e.eq_1 bs[j + 1]
   have f2 := nX bs[j] bs[j + 1]
   have hy := XBucket.e.eq_1 bs[j]
   rw [iC hk] at hp
   generalize nF bs[j + 1] = b1 at hp f1
   generalize xk bs[j] bs[j + 1] = b2 at hp f2
   cases b1
   ·simp [hk, hj, i1, i2, i3, i4, i5, i6, f1, hx, f2, hy] at hp
   cases b2
   ·simp [hk, hj, i1, i2, i3, i4, i5, i6, f1, hx, f2, hy] at hp
   simp [fy, hk, hj, i1, i2, i3, i4, i5, i6, f1, hx, f2, hy]
   exact Kn.q [0]
 ·intro k hk hp _
  have hF : lP bs = false := by unfold lP; rw [cI hk hp]; rfl
  rw [hF]
  clear hF
  unfold II at hp
  cases k with
  | zero =>
   have f1 := eB (0) hk
   have hx := XBucket.e.eq_1 bs[0]
   rw [iB hk] at hp
   generalize nF bs[0] = b1 at hp f1
   cases b1
   ·simp [fy, hk, bP, f1, hx]
   simp [hk, bP, f1, hx] at hp
  | succ j =>
   have hj : j < bs.length := by omega
   obtain ⟨i1, i2, i3, i4, i5, i6⟩ := kJ hlm hk
   have f1 := eB (j + 1) hk
   have hx := XBucket.e.eq_1 bs[j + 1]
   have f2 := nX bs[j] bs[j + 1]
   have hy := XBucket.e.eq_1 bs[j]
   rw [iC hk] at hp
   generalize nF bs[j + 1] = b1 at hp f1
   generalize xk bs[j] bs[j + 1] = b2 at hp f2
   cases b1
   ·simp [fy, hk, hj, i1, i2, i3, i4, i5, i6, f1, hx, f2, hy]
   cases b2
   ·simp [fy, hk, hj, i1, i2, i3, i4, i5, i6, f1, hx, f2, hy]
   simp [hk, hj, i1, i2, i3, i4, i5, i6, f1, hx, f2, hy] at hp
 ·intro hp
  have hT : lP bs = decide ((bs.length : Int) ≤ 9) := by unfold lP; rw [dM hp]; rfl
  rw [hT]
  simp [fy]
theorem xH (hB1 : B ≤ 1048576) {bs : List XBucket} (h : bs.length ≤ B ∧ ∀ x ∈ bs, x.Ok B) : aa Ph al 377 [.agg [.pv (.lst (bs.map XBucket.e))]] = some (aj (lP bs)) := by
 have hB : B ≤ maxLen := by unfold maxLen; omega
 have eB : ∀ k (hk : k < bs.length), _ := fun k hk => zt hB1 (h.2 _ (List.getElem_mem hk))
 have hlm : bs.length ≤ maxLen := Nat.le_trans h.1 hB
 refine aw (fn := nB) rfl ?_
 simp [nB]
 refine bU bh Cl.fin [.f,.t,.f,.t,.f,.f,.f,.f,.f,.f,.f,.f,.f,.f,.f,.f,.f,.f,.f,.f,.f,.f,.f,.f,.f,.f,.f,.f,.f,.f,.f,.f,.f,.f,.f,.f,.f,.f,.f,.f,.f,.f,.f,.f,.f,.f,.f,.f] (fun k => [(3, ae .i64 k)]) bs.length (II bs) rfl ?_ ?_ ?_ ?_
 ·exact Kn.q [0]
 ·intro k hk hp
  unfold II at hp
  cases k with
  | zero =>
   have f1 := eB (0) hk
   have hx := XBucket.e.eq_1 bs[0]
   rw [iB hk] at hp
   generalize nF bs[0] = b1 at hp f1
   cases b1
   ·simp [hk, bP, f1, hx] at hp
   simp [fD, hk, bP, f1, hx]
   exact Kn.q [0]
  | succ j =>
   have hj : j < bs.length := by omega
   obtain ⟨i1, i2, i3, i4, i5, i6⟩ := kJ hlm hk
   have f1 := eB (j + 1) hk
   have hx := XBucket.e.eq_1 bs[j + 1]
   have f2 := (show aa _ _ _ _ = some (aj (xk bs[j] bs[j + 1])) from sY bs[j] bs[j + 1].site bs[j + 1].top)
   have hy := XBucket.e.eq_1 bs[j]
   rw [iC hk] at hp
   generalize nF bs[j + 1] = b1 at hp f1
   generalize xk bs[j] bs[j + 1] = b2 at hp f2
   cases b1
   ·simp [hk, hj, i1, i2, i3, i4, i5, i6, f1, hx, f2, hy] at hp
   cases b2
   ·simp [hk, hj, i1, i2, i3, i4, i5, i6, f1, hx, f2, hy] at hp
   simp [fD, hk, hj, i1, i2, i3, i4, i5, i6, f1, hx, f2, hy]
   exact Kn.q [0]
 ·intro k hk hp _
  have hF : lP bs = false := by unfold lP; rw [cI hk hp]; rfl
  rw [hF]
  clear hF
  unfold II at hp
  cases k with
  | zero =>
   have f1 := eB (0) hk
   have hx := XBucket.e.eq_1 bs[0]
   rw [iB hk] at hp
   generalize nF bs[0] = b1 at hp f1
   cases b1
   ·simp [fD, hk, bP, f1, hx]
   simp [hk, bP, f1, hx] at hp
  | succ j =>
   have hj : j < bs.length := by omega
   obtain ⟨i1, i2, i3, i4, i5, i6⟩ := kJ hlm hk
   have f1 := eB (j + 1) hk
   have hx := XBucket.e.eq_1 bs[j + 1]
   have f2 := (show aa _ _ _ _ = some (aj (xk bs[j] bs[j + 1])) from sY bs[j] bs[j + 1].site bs[j + 1].top)
   have hy := XBucket.e.eq_1 bs[j]
   rw [iC hk] at hp
   generalize nF bs[j + 1] = b1 at hp f1
   generalize xk bs[j] bs[j + 1] = b2 at hp f2
   cases b1
   ·simp [fD, hk, hj, i1, i2, i3, i4, i5, i6, f1, hx, f2, hy]
   cases b2
   ·simp [fD, hk, hj, i1, i2, i3, i4, i5, i6, f1, hx, f2, hy]
   simp [hk, hj, i1, i2, i3, i4, i5, i6, f1, hx, f2, hy] at hp
 ·intro hp
  have hT : lP bs = decide ((bs.length : Int) ≤ 9) := by unfold lP; rw [dM hp]; rfl
  rw [hT]
  simp [fD]
end
section
variable {B : Nat}
theorem uM (hB : B ≤ maxLen) {xs : List XLock} (h : xs.length ≤ B ∧ ∀ x ∈ xs, x.Ok B) : aa Ph al 380 [.agg [.pv (.lst (xs.map XLock.e))]] = some (aj (iI xs)) := by
 have hlm : xs.length ≤ maxLen := Nat.le_trans h.1 hB
 have eN : ∀ k (hk : k < xs.length), _ := fun k hk => vJ (s := xs[k].name) (Nat.le_trans (h.2 _ (List.getElem_mem hk)).1 hB)
 have eP : ∀ k (hk : k < xs.length), _ := fun k hk => gG xs[k].page 1 1000000000000
 refine aw (fn := lF) rfl ?_
 simp [lF]
 refine bU bh Cl.fin [.f,.t,.f,.f,.f,.f,.f,.f,.t,.t,.t,.f,.f,.f,.f,.f,.f,.f,.f,.f,.f,.f,.f,.f,.f,.f,.f,.f,.f,.f,.f,.f,.f,.f,.f,.f,.f,.f,.f,.f,.f,.f,.f,.f,.f,.f,.f,.f,.f,.f,.f,.f,.f,.f,.f,.f,.f,.f,.f,.f,.f,.f,.f,.f] (fun k => [(10, ae .i64 k)]) xs.length (He xs) rfl ?_ ?_ ?_ ?_
 ·exact Kn.q [0]
 ·intro k hk hp
  have hw := ag (k := k) (by unfold maxLen at hlm; omega)
  have f1 := eN k hk
  have f2 := eP k hk
  have hx := XLock.e.eq_1 xs[k]
  have hmin : min k xs.length = k := Nat.min_eq_left (by omega)
  have hkl : k ≤ xs.length := by omega
  have hlen : ∀ x : XLock, x.e.length = 4 := fun _ => rfl
  rw [xm hk] at hp
  generalize tM xs[k].name = b1 at hp f1
  generalize rg xs[k].page 1 1000000000000 = b2 at hp f2
  cases b1
  ·simp at hp
  cases b2
  ·simp at hp
  simp only [Bool.not_true, Bool.false_or] at hp
  simp [fx, f1, f2, hk, hw, hx, hmin, hkl, hlen]
  refine bU bh Cl.kn [.f,.t,.f,.f,.t,.f,.f,.f,.t,.t,.t,.f,.f,.f,.f,.f,.f,.f,.f,.f,.f,.f,.f,.f,.f,.f,.f,.f,.t,.t,.t,.f,.f,.f,.f,.f,.f,.f,.f,.f,.f,.f,.f,.f,.f,.f,.f,.f,.f,.f,.f,.f,.f,.f,.f,.f,.f,.f,.f,.f,.f,.f,.f,.f] (fun j => [(30, ae .i64 j)]) k (p9 sN xs k) rfl ?_ ?_ ?_ ?_
  ·exact Kn.q [0, 1]
  ·intro j hj hq
   have hjl : j < xs.length := by omega
   have hwj := ag (k := j) (by unfold maxLen at hlm; omega)
   have hy := XLock.e.eq_1 xs[j]
   have hj0 := Nat.not_le.2 hj
   rw [iz hk hjl] at hq
   unfold sN at hq
   generalize hN : (xs[j].name == xs[k].name) = N at hq
   generalize hxh : xs[k].held = xh at hq ⊢
   generalize hyh : xs[j].held = yh at hq hy
   generalize hxs : xs[k].shared = xs' at hq ⊢
   generalize hys : xs[j].shared = ys at hq hy
   clear hxh hyh hxs hys
   cases N
   ·first | (exfalso; simp at hq; done) | (simp [bo, hj, hj0, hjl, hwj, hy, hN, hmin, hk]; exact Kn.q [0, 1])
   cases xh
   ·first | (exfalso; simp at hq; done) | (simp [bo, hj, hj0, hjl, hwj, hy, hN, hmin, hk]; exact Kn.q [0, 1])
   cases yh
   ·first | (exfalso; simp at hq; done) | (simp [bo, hj, hj0, hjl, hwj, hy, hN, hmin, hk]; exact Kn.q [0, 1])
   cases xs'
   ·first | (exfalso; simp at hq; done) | (simp [bo, hj, hj0, hjl, hwj, hy, hN, hmin, hk]; exact Kn.q [0, 1])
   cases ys
   ·first | (exfalso; simp at hq; done) | (simp [bo, hj, hj0, hjl, hwj, hy, hN, hmin, hk]; exact Kn.q [0, 1])
   first | (exfalso; simp at hq; done) | (simp [bo, hj, hj0, hjl, hwj, hy, hN, hmin, hk]; exact Kn.q [0, 1])
  ·intro j hj hq _
   rw [EO hj hq] at hp
   cases hp
  ·intro hq
   simp [bo, hmin, hw]
   exact Kn.q [0]
 ·intro k hk hp _
  have hF : iI xs = false := by unfold iI; rw [cI hk hp]; rfl
  rw [hF]
  clear hF
  have hw := ag (k := k) (by unfold maxLen at hlm; omega)
  have f1 := eN k hk
  have f2 := eP k hk
  have hx := XLock.e.eq_1 xs[k]
  have hmin : min k xs.length = k := Nat.min_eq_left (by omega)
  have hkl : k ≤ xs.length := by omega
  have hlen : ∀ x : XLock, x.e.length = 4 := fun _ => rfl
  rw [xm hk] at hp
  generalize tM xs[k].name = b1 at hp f1
  generalize rg xs[k].page 1 1000000000000 = b2 at hp f2
  cases b1
  ·simp [fx, f1, f2, hk, hw, hx, hmin, hkl, hlen]
  cases b2
  ·simp [fx, f1, f2, hk, hw, hx, hmin, hkl, hlen]
  simp only [Bool.not_true, Bool.false_or] at hp
  simp [fx, f1, f2, hk, hw, hx, hmin, hkl, hlen]
  refine bU bh Cl.fin [.f,.t,.f,.f,.t,.f,.f,.f,.t,.t,.t,.f,.f,.f,.f,.f,.f,.f,.f,.f,.f,.f,.f,.f,.f,.f,.f,.f,.t,.t,.t,.f,.f,.f,.f,.f,.f,.f,.f,.f,.f,.f,.f,.f,.f,.f,.f,.f,.f,.f,.f,.f,.f,.f,.f,.f,.f,.f,.f,.f,.f,.f,.f,.f] (fun j => [(30, ae .i64 j)]) k (p9 sN xs k) rfl ?_ ?_ ?_ ?_
  ·exact Kn.q [0, 1]
  ·intro j hj hq
   have hjl : j < xs.length := by omega
   have hwj := ag (k := j) (by unfold maxLen at hlm; omega)
   have hy := XLock.e.eq_1 xs[j]
   have hj0 := Nat.not_le.2 hj
   rw [iz hk hjl] at hq
   unfold sN at hq
   generalize hN : (xs[j].name == xs[k].name) = N at hq
   generalize hxh : xs[k].held = xh at hq ⊢
   generalize hyh : xs[j].held = yh at hq hy
   generalize hxs : xs[k].shared = xs' at hq ⊢
   generalize hys : xs[j].shared = ys at hq hy
   clear hxh hyh hxs hys
   cases N
   ·first | (exfalso; simp at hq; done) | (simp [bo, hj, hj0, hjl, hwj, hy, hN, hmin, hk]; exact Kn.q [0, 1])
   cases xh
   ·first | (exfalso; simp at hq; done) | (simp [bo, hj, hj0, hjl, hwj, hy, hN, hmin, hk]; exact Kn.q [0, 1])
   cases yh
   ·first | (exfalso; simp at hq; done) | (simp [bo, hj, hj0, hjl, hwj, hy, hN, hmin, hk]; exact Kn.q [0, 1])
   cases xs'
   ·first | (exfalso; simp at hq; done) | (simp [bo, hj, hj0, hjl, hwj, hy, hN, hmin, hk]; exact Kn.q [0, 1])
   cases ys
   ·first | (exfalso; simp at hq; done) | (simp [bo, hj, hj0, hjl, hwj, hy, hN, hmin, hk]; exact Kn.q [0, 1])
   first | (exfalso; simp at hq; done) | (simp [bo, hj, hj0, hjl, hwj, hy, hN, hmin, hk]; exact Kn.q [0, 1])
  ·intro j hj hq _
   have hjl : j < xs.length := by omega
   have hwj := ag (k := j) (by unfold maxLen at hlm; omega)
   have hy := XLock.e.eq_1 xs[j]
   have hj0 := Nat.not_le.2 hj
   rw [iz hk hjl] at hq
   unfold sN at hq
   generalize hN : (xs[j].name == xs[k].name) = N at hq
   generalize hxh : xs[k].held = xh at hq ⊢
   generalize hyh : xs[j].held = yh at hq hy
   generalize hxs : xs[k].shared = xs' at hq ⊢
   generalize hys : xs[j].shared = ys at hq hy
   clear hxh hyh hxs hys
   cases N
   ·first | (exfalso; simp at hq; done) | (simp [bo, hj, hj0, hjl, hwj, hy, hN, hmin, hk])
   cases xh
   ·first | (exfalso; simp at hq; done) | (simp [bo, hj, hj0, hjl, hwj, hy, hN, hmin, hk])
   cases yh
   ·first | (exfalso; simp at hq; done) | (simp [bo, hj, hj0, hjl, hwj, hy, hN, hmin, hk])
   cases xs'
   ·first | (exfalso; simp at hq; done) | (simp [bo, hj, hj0, hjl, hwj, hy, hN, hmin, hk])
   cases ys
   ·first | (exfalso; simp at hq; done) | (simp [bo, hj, hj0, hjl, hwj, hy, hN, hmin, hk])
   first | (exfalso; simp at hq; done) | (simp [bo, hj, hj0, hjl, hwj, hy, hN, hmin, hk])
  ·intro hq
   rw [A7 hq] at hp
   cases hp
 ·intro hp
  have hT : iI xs = decide ((xs.length : Int) ≤ 12) := by unfold iI; rw [dM hp]; rfl
  rw [hT]
  simp [fx]
theorem uS (hB : B ≤ maxLen) {xs : List XLock} (h : xs.length ≤ B ∧ ∀ x ∈ xs, x.Ok B) : aa Ph al 378 [.agg [.pv (.lst (xs.map XLock.e))]] = some (aj (iI xs)) := by
 have hlm : xs.length ≤ maxLen := Nat.le_trans h.1 hB
 have eN : ∀ k (hk : k < xs.length), _ := fun k hk => wb (s := xs[k].name) (Nat.le_trans (h.2 _ (List.getElem_mem hk)).1 hB)
 have eP : ∀ k (hk : k < xs.length), _ := fun k hk => gH xs[k].page 1 1000000000000
 refine aw (fn := lK) rfl ?_
 simp [lK]
 refine bU bh Cl.fin [.f,.t,.f,.t,.f,.f,.f,.f,.f,.f,.f,.f,.f,.f,.f,.f,.f,.f,.f,.f,.f,.f,.f,.f,.f,.f,.f,.f,.f,.f,.f,.f,.f,.f,.f,.f,.f,.f,.f,.f,.f,.f,.f,.f,.f,.f,.f,.f,.f,.f,.f,.f,.f,.f,.f,.f,.f,.f,.f,.f,.f,.f,.f,.f,.f,.f,.f] (fun k => [(3, ae .i64 k)]) xs.length (He xs) rfl ?_ ?_ ?_ ?_
 ·exact Kn.q [0]
 ·intro k hk hp
  have hw := ag (k := k) (by unfold maxLen at hlm; omega)
  have f1 := eN k hk
  have f2 := eP k hk
  have hx := XLock.e.eq_1 xs[k]
  have hmin : min k xs.length = k := Nat.min_eq_left (by omega)
  have hkl : k ≤ xs.length := by omega
  have hlen : ∀ x : XLock, x.e.length = 4 := fun _ => rfl
  rw [xm hk] at hp
  generalize tM xs[k].name = b1 at hp f1
  generalize rg xs[k].page 1 1000000000000 = b2 at hp f2
  cases b1
  ·simp at hp
  cases b2
  ·simp at hp
  simp only [Bool.not_true, Bool.false_or] at hp
  simp [fC, f1, f2, hk, hw, hx, hmin, hkl, hlen]
  refine bU bh Cl.kn [.f,.t,.f,.t,.t,.t,.f,.f,.f,.f,.f,.f,.f,.f,.f,.f,.f,.f,.f,.f,.f,.f,.f,.f,.f,.f,.f,.f,.f,.f,.f,.f,.f,.f,.f,.f,.f,.f,.f,.f,.f,.f,.f,.f,.f,.f,.f,.f,.f,.f,.f,.f,.f,.f,.f,.f,.f,.f,.f,.f,.f,.f,.f,.f,.f,.f,.f] (fun j => [(5, ae .i64 j)]) k (p9 sN xs k) rfl ?_ ?_ ?_ ?_
  ·exact Kn.q [0, 1]
  ·intro j hj hq
   have hjl : j < xs.length := by omega
   have hwj := ag (k := j) (by unfold maxLen at hlm; omega)
   have hy := XLock.e.eq_1 xs[j]
   have hj0 := Nat.not_le.2 hj
   rw [iz hk hjl] at hq
   unfold sN at hq
   generalize hN : (xs[j].name == xs[k].name) = N at hq
   generalize hxh : xs[k].held = xh at hq ⊢
   generalize hyh : xs[j].held = yh at hq hy
   generalize hxs : xs[k].shared = xs' at hq ⊢
   generalize hys : xs[j].shared = ys at hq hy
   clear hxh hyh hxs hys
   cases xh
   ·first | (exfalso; simp at hq; done) | (simp [bp, hj, hj0, hjl, hwj, hy, hN, hmin, hk]; exact Kn.q [0, 1])
   cases N
   ·first | (exfalso; simp at hq; done) | (simp [bp, hj, hj0, hjl, hwj, hy, hN, hmin, hk]; exact Kn.q [0, 1])
   cases yh
   ·first | (exfalso; simp at hq; done) | (simp [bp, hj, hj0, hjl, hwj, hy, hN, hmin, hk]; exact Kn.q [0, 1])
   cases xs'
   ·first | (exfalso; simp at hq; done) | (simp [bp, hj, hj0, hjl, hwj, hy, hN, hmin, hk]; exact Kn.q [0, 1])
   cases ys
   ·first | (exfalso; simp at hq; done) | (simp [bp, hj, hj0, hjl, hwj, hy, hN, hmin, hk]; exact Kn.q [0, 1])
   first | (exfalso; simp at hq; done) | (simp [bp, hj, hj0, hjl, hwj, hy, hN, hmin, hk]; exact Kn.q [0, 1])
  ·intro j hj hq _
   rw [EO hj hq] at hp
   cases hp
  ·intro hq
   simp [bp, hmin, hw]
   exact Kn.q [0]
 ·intro k hk hp _
  have hF : iI xs = false := by unfold iI; rw [cI hk hp]; rfl
  rw [hF]
  clear hF
  have hw := ag (k := k) (by unfold maxLen at hlm; omega)
  have f1 := eN k hk
  have f2 := eP k hk
  have hx := XLock.e.eq_1 xs[k]
  have hmin : min k xs.length = k := Nat.min_eq_left (by omega)
  have hkl : k ≤ xs.length := by omega
  have hlen : ∀ x : XLock, x.e.length = 4 := fun _ => rfl
  rw [xm hk] at hp
  generalize tM xs[k].name = b1 at hp f1
  generalize rg xs[k].page 1 1000000000000 = b2 at hp f2
  cases b1
  ·simp [fC, f1, f2, hk, hw, hx, hmin, hkl, hlen]
  cases b2
  ·simp [fC, f1, f2, hk, hw, hx, hmin, hkl, hlen]
  simp only [Bool.not_true, Bool.false_or] at hp
  simp [fC, f1, f2, hk, hw, hx, hmin, hkl, hlen]
  refine bU bh Cl.fin [.f,.t,.f,.t,.t,.t,.f,.f,.f,.f,.f,.f,.f,.f,.f,.f,.f,.f,.f,.f,.f,.f,.f,.f,.f,.f,.f,.f,.f,.f,.f,.f,.f,.f,.f,.f,.f,.f,.f,.f,.f,.f,.f,.f,.f,.f,.f,.f,.f,.f,.f,.f,.f,.f,.f,.f,.f,.f,.f,.f,.f,.f,.f,.f,.f,.f,.f] (fun j => [(5, ae .i64 j)]) k (p9 sN xs k) rfl ?_ ?_ ?_ ?_
  ·exact Kn.q [0, 1]
  ·intro j hj hq
   have hjl : j < xs.length := by omega
   have hwj := ag (k := j) (by unfold maxLen at hlm; omega)
   have hy := XLock.e.eq_1 xs[j]
   have hj0 := Nat.not_le.2 hj
   rw [iz hk hjl] at hq
   unfold sN at hq
   generalize hN : (xs[j].name == xs[k].name) = N at hq
   generalize hxh : xs[k].held = xh at hq ⊢
   generalize hyh : xs[j].held = yh at hq hy
   generalize hxs : xs[k].shared = xs' at hq ⊢
   generalize hys : xs[j].shared = ys at hq hy
   clear hxh hyh hxs hys
   cases xh
   ·first | (exfalso; simp at hq; done) | (simp [bp, hj, hj0, hjl, hwj, hy, hN, hmin, hk]; exact Kn.q [0, 1])
   cases N
   ·first | (exfalso; simp at hq; done) | (simp [bp, hj, hj0, hjl, hwj, hy, hN, hmin, hk]; exact Kn.q [0, 1])
   cases yh
   ·first | (exfalso; simp at hq; done) | (simp [bp, hj, hj0, hjl, hwj, hy, hN, hmin, hk]; exact Kn.q [0, 1])
   cases xs'
   ·first | (exfalso; simp at hq; done) | (simp [bp, hj, hj0, hjl, hwj, hy, hN, hmin, hk]; exact Kn.q [0, 1])
   cases ys
   ·first | (exfalso; simp at hq; done) | (simp [bp, hj, hj0, hjl, hwj, hy, hN, hmin, hk]; exact Kn.q [0, 1])
   first | (exfalso; simp at hq; done) | (simp [bp, hj, hj0, hjl, hwj, hy, hN, hmin, hk]; exact Kn.q [0, 1])
  ·intro j hj hq _
   have hjl : j < xs.length := by omega
   have hwj := ag (k := j) (by unfold maxLen at hlm; omega)
   have hy := XLock.e.eq_1 xs[j]
   have hj0 := Nat.not_le.2 hj
   rw [iz hk hjl] at hq
   unfold sN at hq
   generalize hN : (xs[j].name == xs[k].name) = N at hq
   generalize hxh : xs[k].held = xh at hq ⊢
   generalize hyh : xs[j].held = yh at hq hy
   generalize hxs : xs[k].shared = xs' at hq ⊢
   generalize hys : xs[j].shared = ys at hq hy
   clear hxh hyh hxs hys
   cases xh
   ·first | (exfalso; simp at hq; done) | (simp [bp, hj, hj0, hjl, hwj, hy, hN, hmin, hk])
   cases N
   ·first | (exfalso; simp at hq; done) | (simp [bp, hj, hj0, hjl, hwj, hy, hN, hmin, hk])
   cases yh
   ·first | (exfalso; simp at hq; done) | (simp [bp, hj, hj0, hjl, hwj, hy, hN, hmin, hk])
   cases xs'
   ·first | (exfalso; simp at hq; done) | (simp [bp, hj, hj0, hjl, hwj, hy, hN, hmin, hk])
   cases ys
   ·first | (exfalso; simp at hq; done) | (simp [bp, hj, hj0, hjl, hwj, hy, hN, hmin, hk])
   first | (exfalso; simp at hq; done) | (simp [bp, hj, hj0, hjl, hwj, hy, hN, hmin, hk])
  ·intro hq
   rw [A7 hq] at hp
   cases hp
 ·intro hp
  have hT : iI xs = decide ((xs.length : Int) ≤ 12) := by unfold iI; rw [dM hp]; rfl
  rw [hT]
  simp [fC]
end
end Gi
