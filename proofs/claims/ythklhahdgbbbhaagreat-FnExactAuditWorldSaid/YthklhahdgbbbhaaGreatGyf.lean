/- Of this proof. -/
import Derived.Test.YthklhahdgbbbhaaGreatGyb
set_option linter.unusedSimpArgs false
namespace Gi
open Go Go.RowKit
set_option maxHeartbeats 8000000
set_option maxRecDepth 4000
attribute [local simp] bW am bg bt cF dN Opd.ev put V.cells plain bz hJ isInt isStr isBool bin bf aS aR un asList L.view aB V.view viewL bC aC aT cj comp bq bZ bK a9 aK aI aJ aQ aE ba ar aM aA av aO aN aL aP thawT bB bw cd bG bA bz V.flat L.flat dX dJ bS putAt thaw thawL freezeVs freezeLs freezeL V.mut L.mut bm aZ wp_seq wp_block bE wp_cond wp_skip wp_exit wp_ret cN cE cK cH cS cT cR cq bj L.notArr aY aW aX bH bI
def zX (a b : XCached) : Bool := (a.site == b.site) && (a.path == b.path)
def xZ (es : List XCached) (k : Nat) : Bool := wu (fun x y => zX y x) es k
def De (es : List XCached) (k : Nat) : Bool := match es[k]? with
 | none => false
 | some e => !(bF e.site) || (!(bF e.path) || (xZ es k || !(j6 e.resp)))
theorem pX {es : List XCached} {k : Nat} (hk : k < es.length) : De es k = (!(bF es[k].site) || (!(bF es[k].path) || (xZ es k || !(j6 es[k].resp)))) := by simp [De, hk]
def sP (es : List XCached) : Bool := (List.range es.length).any (De es)
theorem E8 {es : List XCached} {k : Nat} (hk : k < es.length) (h : De es k = true) : sP es = true := cI hk h
theorem E7 {es : List XCached} (h : ∀ k, k < es.length → De es k = false) : sP es = false := dM h
def vo : List XCache → Nat → Bool := Da (fun c => !(rg c.version 1 1000000000000) || (!(decide ((c.entries.length : Int) ≤ 12)) || sP c.entries)) (fun y x => decide (x.version ≤ y.version))
def qY (s : XCacheSet) : Bool := !((List.range s.caches.length).any (vo s.caches)) && decide ((s.caches.length : Int) ≤ 4)
theorem wX {p : List PV → Bool} : ∀ {rs : List (List PV)} {o j : Nat}, bN p rs o = ((o + j : Nat) : Int) → ∀ i (hi : i < rs.length), i < j → p rs[i] = false
 | [], _, _, _, _, hi, _ => by simp at hi
 | r :: rs, o, j, h, i, hi, hij => by
  unfold bN at h
  cases q : p r with
  | true => rw [q, cond_true] at h; omega
  | false =>
   rw [q, cond_false] at h
   cases i with
   | zero => exact q
   | succ i =>
    cases j with
    | zero => omega
    | succ j => exact wX (o := o + 1) (j := j) (by rw [h]; congr 1; omega) i (by simpa using hi) (by omega)
theorem L9 (a e : XCached) : FA e.site e.path a.e = zX a e := rfl
theorem ya {es : List XCached} {k : Nat} (hk : k < es.length) : (bN (FA es[k].site es[k].path) (es.map XCached.e) 0 != (k : Int)) = xZ es k := by
 cases hd : xZ es k with
 | false =>
  have : bN (FA es[k].site es[k].path) (es.map XCached.e) 0 = ((0 + k : Nat) : Int) := nW (by simpa using hk) (by simp [L9, zX]) (fun i hi => by
   have h := Oq hd hi
   rw [iz hk (by omega)] at h
   simp only [List.getElem_map, L9]
   exact h)
  rw [this]
  simp
 | true =>
  unfold xZ wu at hd
  rw [List.any_eq_true] at hd
  obtain ⟨j, hj, hs⟩ := hd
  have hj' := List.mem_range.1 hj
  have hj2 : j < es.length := by omega
  rw [iz hk hj2] at hs
  have : bN (FA es[k].site es[k].path) (es.map XCached.e) 0 ≠ (k : Int) := fun e => by
   have := wX (o := 0) (j := k) (by simpa using e) j (by simpa using hj2) hj'
   simp only [List.getElem_map, L9] at this
   rw [hs] at this
   cases this
  simpa using this
section
variable {B : Nat}
theorem wh (hB : B ≤ maxLen) {es : List XCached} (h : es.length ≤ B ∧ ∀ x ∈ es, x.Ok B) : aa Ph al 399 [bJ (es.map XCached.e)] = some (aj (!(sP es) && decide ((es.length : Int) ≤ 12))) := by
 have hlm : es.length ≤ maxLen := Nat.le_trans h.1 hB
 have e1 : ∀ k (hk : k < es.length), _ := fun k hk => di (s := es[k].site) (Nat.le_trans (h.2 _ (List.getElem_mem hk)).1 hB)
 have e2 : ∀ k (hk : k < es.length), _ := fun k hk => di (s := es[k].path) (Nat.le_trans (h.2 _ (List.getElem_mem hk)).2.1 hB)
 have e4 : ∀ k (hk : k < es.length), _ := fun k hk => wc es[k].resp
 refine aw (fn := mQ) rfl ?_
 simp [mQ]
 refine bU bh Cl.fin [.t,.f,.f,.t,.f,.f,.f,.f,.f,.f,.f,.f,.f,.f,.f,.f,.f,.f,.f,.f,.f,.f,.f,.f,.f,.f,.f,.f,.f,.f,.f,.f,.f,.f,.f,.f,.f,.f,.f,.f,.f,.f,.f,.f,.f,.f,.f,.f,.f,.f,.f,.f,.f,.f,.f,.f,.f,.f,.f,.f,.f,.f,.f,.f,.f,.f,.f,.f] (fun k => [(3, ae .i64 k)]) es.length (De es) rfl ?_ ?_ ?_ ?_
 ·exact Kn.q []
 ·intro k hk hp
  have hw := ag (k := k) (by unfold maxLen at hlm; omega)
  have f1 := e1 k hk
  have f2 := e2 k hk
  have f4 := e4 k hk
  have hx := XCached.e.eq_1 es[k]
  rw [pX hk] at hp
  generalize bF es[k].site = b1 at hp f1
  generalize bF es[k].path = b2 at hp f2
  generalize j6 es[k].resp = b4 at hp f4
  cases b1
  ·simp at hp
  cases b2
  ·simp at hp
  cases b4
  ·simp at hp
  simp only [Bool.not_true, Bool.false_or, Bool.or_false] at hp
  simp [fe, f1, f2, f4, hk, hw, hx]
  refine bU bh Cl.kn [.t,.f,.f,.t,.t,.f,.f,.f,.f,.f,.f,.f,.f,.f,.f,.f,.f,.f,.f,.f,.f,.f,.f,.f,.f,.f,.f,.f,.f,.f,.f,.f,.f,.f,.f,.f,.f,.f,.f,.f,.f,.f,.f,.f,.f,.f,.f,.f,.f,.f,.f,.f,.f,.f,.f,.f,.f,.f,.f,.f,.f,.f,.f,.f,.f,.f,.f,.f] (fun j => [(4, ae .i64 j)]) k (p9 (fun x y => zX y x) es k) rfl ?_ ?_ ?_ ?_
  ·exact Kn.q []
  ·intro j hj hq
   have hjl : j < es.length := by omega
   have hwj := ag (k := j) (by unfold maxLen at hlm; omega)
   have hy := XCached.e.eq_1 es[j]
   have hj0 : (j : Int) < (k : Int) := by omega
   rw [iz hk hjl] at hq
   unfold zX at hq
   generalize h1 : (es[j].site == es[k].site) = N at hq
   generalize h2 : (es[j].path == es[k].path) = M at hq
   cases N
   ·first | (exfalso; simp at hq; done) | (simp [cD, hj, hj0, hjl, hk, hwj, hx, hy, h1, h2]; exact Kn.q [])
   cases M
   ·first | (exfalso; simp at hq; done) | (simp [cD, hj, hj0, hjl, hk, hwj, hx, hy, h1, h2]; exact Kn.q [])
   first | (exfalso; simp at hq; done) | (simp [cD, hj, hj0, hjl, hk, hwj, hx, hy, h1, h2]; exact Kn.q [])
  ·intro j hj hq _
   have hd : xZ es k = true := EO hj hq
   rw [hd] at hp
   simp at hp
  ·intro hq
   simp [cD, hw]
   exact Kn.q []
 ·intro k hk hp _
  rw [E8 hk hp]
  have hw := ag (k := k) (by unfold maxLen at hlm; omega)
  have f1 := e1 k hk
  have f2 := e2 k hk
  have f4 := e4 k hk
  have hx := XCached.e.eq_1 es[k]
  rw [pX hk] at hp
  generalize bF es[k].site = b1 at hp f1
  generalize bF es[k].path = b2 at hp f2
  generalize j6 es[k].resp = b4 at hp f4
  cases b1
  ·simp [fe, f1, f2, f4, hk, hw, hx]
  cases b2
  ·simp [fe, f1, f2, f4, hk, hw, hx]
  cases b4
  ·simp [fe, f1, f2, f4, hk, hw, hx]
  simp only [Bool.not_true, Bool.false_or, Bool.or_false] at hp
  simp [fe, f1, f2, f4, hk, hw, hx]
  refine bU bh Cl.fin [.t,.f,.f,.t,.t,.f,.f,.f,.f,.f,.f,.f,.f,.f,.f,.f,.f,.f,.f,.f,.f,.f,.f,.f,.f,.f,.f,.f,.f,.f,.f,.f,.f,.f,.f,.f,.f,.f,.f,.f,.f,.f,.f,.f,.f,.f,.f,.f,.f,.f,.f,.f,.f,.f,.f,.f,.f,.f,.f,.f,.f,.f,.f,.f,.f,.f,.f,.f] (fun j => [(4, ae .i64 j)]) k (p9 (fun x y => zX y x) es k) rfl ?_ ?_ ?_ ?_
  ·exact Kn.q []
  ·intro j hj hq
   have hjl : j < es.length := by omega
   have hwj := ag (k := j) (by unfold maxLen at hlm; omega)
   have hy := XCached.e.eq_1 es[j]
   have hj0 : (j : Int) < (k : Int) := by omega
   rw [iz hk hjl] at hq
   unfold zX at hq
   generalize h1 : (es[j].site == es[k].site) = N at hq
   generalize h2 : (es[j].path == es[k].path) = M at hq
   cases N
   ·first | (exfalso; simp at hq; done) | (simp [cD, hj, hj0, hjl, hk, hwj, hx, hy, h1, h2]; exact Kn.q [])
   cases M
   ·first | (exfalso; simp at hq; done) | (simp [cD, hj, hj0, hjl, hk, hwj, hx, hy, h1, h2]; exact Kn.q [])
   first | (exfalso; simp at hq; done) | (simp [cD, hj, hj0, hjl, hk, hwj, hx, hy, h1, h2]; exact Kn.q [])
  ·intro j hj hq _
   have hjl : j < es.length := by omega
   have hwj := ag (k := j) (by unfold maxLen at hlm; omega)
   have hy := XCached.e.eq_1 es[j]
   have hj0 : (j : Int) < (k : Int) := by omega
   rw [iz hk hjl] at hq
   unfold zX at hq
   generalize h1 : (es[j].site == es[k].site) = N at hq
   generalize h2 : (es[j].path == es[k].path) = M at hq
   cases N
   ·first | (exfalso; simp at hq; done) | (simp [cD, hj, hj0, hjl, hk, hwj, hx, hy, h1, h2])
   cases M
   ·first | (exfalso; simp at hq; done) | (simp [cD, hj, hj0, hjl, hk, hwj, hx, hy, h1, h2])
   first | (exfalso; simp at hq; done) | (simp [cD, hj, hj0, hjl, hk, hwj, hx, hy, h1, h2])
  ·intro hq
   have hd : xZ es k = false := A7 hq
   rw [hd] at hp
   simp at hp
 ·intro hp
  rw [E7 hp]
  simp [fe]
theorem v9 (hB : B ≤ maxLen) {s : XCacheSet} (h : s.Ok B) : aa Ph al 392 [.agg [.pv (.lst (s.caches.map XCache.e))]] = some (aj (qY s)) := by
 obtain ⟨cs⟩ := s
 have hlm : cs.length ≤ maxLen := Nat.le_trans h.1 hB
 have e1 : ∀ k (hk : k < cs.length), _ := fun k hk => gH cs[k].version 1 1000000000000
 have e2 : ∀ k (hk : k < cs.length), _ := fun k hk => wh (es := cs[k].entries) hB (h.2 _ (List.getElem_mem hk)).2
 simp only
 refine aw (fn := mJ) rfl ?_
 simp [mJ]
 refine bU bh Cl.fin [.f,.t,.f,.t,.f,.f,.f,.f,.f,.f,.f,.f,.f,.f,.f,.f,.f,.f,.f,.f,.f,.f,.f,.f,.f,.f,.f,.f,.f,.f,.f,.f,.f,.f,.f,.f,.f,.f,.f,.f,.f,.f,.f,.f,.f,.f,.f,.f,.f,.f,.f,.f,.f] (fun k => [(3, ae .i64 k)]) cs.length (vo cs) rfl ?_ ?_ ?_ ?_
 ·exact Kn.q [0]
 ·intro k hk hp
  unfold vo at hp
  cases k with
  | zero =>
   have f1 := e1 (0) hk
   have f2 := e2 (0) hk
   rw [iB hk] at hp
   generalize rg cs[0].version 1 1000000000000 = b1 at hp f1
   generalize sP cs[0].entries = b3 at hp f2
   cases b1
   ·simp [hk, bP, f1, f2, XCache.e] at hp
   cases b3
   rotate_left
   ·simp [hk, bP, f1, f2, XCache.e] at hp
   by_cases q2 : (cs[0].entries.length : Int) ≤ 12
   rotate_left
   ·simp [hk, bP, f1, f2, XCache.e, q2] at hp
   simp [cM, hk, bP, f1, f2, XCache.e, q2]
   exact Kn.q [0]
  | succ j =>
   have hj : j < cs.length := by omega
   obtain ⟨i1, i2, i3, i4, i5, i6⟩ := kJ hlm hk
   have f1 := e1 (j + 1) hk
   have f2 := e2 (j + 1) hk
   rw [iC hk] at hp
   generalize rg cs[j + 1].version 1 1000000000000 = b1 at hp f1
   generalize sP cs[j + 1].entries = b3 at hp f2
   cases b1
   ·simp [hk, hj, i1, i2, i3, i4, i5, i6, f1, f2, XCache.e] at hp
   by_cases q1 : cs[j + 1].version ≤ cs[j].version
   ·simp [hk, hj, i1, i2, i3, i4, i5, i6, f1, f2, XCache.e, q1] at hp
   cases b3
   rotate_left
   ·simp [hk, hj, i1, i2, i3, i4, i5, i6, f1, f2, XCache.e, q1] at hp
   by_cases q2 : (cs[j + 1].entries.length : Int) ≤ 12
   rotate_left
   ·simp [hk, hj, i1, i2, i3, i4, i5, i6, f1, f2, XCache.e, q1, q2] at hp
   simp [cM, hk, hj, i1, i2, i3, i4, i5, i6, f1, f2, XCache.e, q1, q2]
   exact Kn.q [0]
 ·intro k hk hp _
  have hF : qY ⟨cs⟩ = false := by unfold qY; rw [cI hk hp]; rfl
  rw [hF]
  clear hF
  unfold vo at hp
  cases k with
  | zero =>
   have f1 := e1 (0) hk
   have f2 := e2 (0) hk
   rw [iB hk] at hp
   generalize rg cs[0].version 1 1000000000000 = b1 at hp f1
   generalize sP cs[0].entries = b3 at hp f2
   cases b1
   ·simp [cM, hk, bP, f1, f2, XCache.e]
   cases b3
   rotate_left
   ·simp [cM, hk, bP, f1, f2, XCache.e]
   by_cases q2 : (cs[0].entries.length : Int) ≤ 12
   rotate_left
   ·simp [cM, hk, bP, f1, f2, XCache.e, q2]
   simp [hk, bP, f1, f2, XCache.e, q2] at hp
  | succ j =>
   have hj : j < cs.length := by omega
   obtain ⟨i1, i2, i3, i4, i5, i6⟩ := kJ hlm hk
   have f1 := e1 (j + 1) hk
   have f2 := e2 (j + 1) hk
   rw [iC hk] at hp
   generalize rg cs[j + 1].version 1 1000000000000 = b1 at hp f1
   generalize sP cs[j + 1].entries = b3 at hp f2
   cases b1
   ·simp [cM, hk, hj, i1, i2, i3, i4, i5, i6, f1, f2, XCache.e]
   by_cases q1 : cs[j + 1].version ≤ cs[j].version
   ·simp [cM, hk, hj, i1, i2, i3, i4, i5, i6, f1, f2, XCache.e, q1]
   cases b3
   rotate_left
   ·simp [cM, hk, hj, i1, i2, i3, i4, i5, i6, f1, f2, XCache.e, q1]
   by_cases q2 : (cs[j + 1].entries.length : Int) ≤ 12
   rotate_left
   ·simp [cM, hk, hj, i1, i2, i3, i4, i5, i6, f1, f2, XCache.e, q1, q2]
   simp [hk, hj, i1, i2, i3, i4, i5, i6, f1, f2, XCache.e, q1, q2] at hp
 ·intro hp
  have hT : qY ⟨cs⟩ = decide ((cs.length : Int) ≤ 4) := by unfold qY; rw [dM hp]; rfl
  rw [hT]
  simp [cM]
theorem vH (hB : B ≤ maxLen) {s : XCacheSet} (h : s.Ok B) : aa Ph al 396 [.agg [.pv (.lst (s.caches.map XCache.e))]] = some (aj (qY s)) := by
 obtain ⟨cs⟩ := s
 have hlm : cs.length ≤ maxLen := Nat.le_trans h.1 hB
 have e1 : ∀ k (hk : k < cs.length), _ := fun k hk => gG cs[k].version 1 1000000000000
 simp only
 refine aw (fn := mt) rfl ?_
 simp [mt]
 refine bU bh Cl.fin [.f,.t,.f,.f,.f,.f,.f,.f,.t,.t,.t,.f,.f,.f,.f,.f,.f,.f,.f,.f,.f,.f,.f,.f,.f,.f,.f,.f,.f,.f,.f,.f,.f,.f,.f,.f,.f,.f,.f,.f,.f,.f,.f,.f,.f,.f,.f,.f,.f,.f,.f,.f,.f,.f,.f,.f,.f,.f,.f,.f,.f,.f,.f,.f,.f,.f,.f,.f,.f,.f,.f,.f,.f,.f,.f,.f,.f,.f,.f,.f,.f] (fun k => [(10, ae .i64 k)]) cs.length (vo cs) rfl ?_ ?_ ?_ ?_
 ·exact Kn.q [0]
 ·intro k hk hp
  have hc := (h.2 _ (List.getElem_mem hk)).2
  have helm : cs[k].entries.length ≤ maxLen := Nat.le_trans hc.1 hB
  have g1 : ∀ j (hj : j < cs[k].entries.length), _ := fun j hj => cQ (s := cs[k].entries[j].site) (Nat.le_trans (hc.2 _ (List.getElem_mem hj)).1 hB)
  have g2 : ∀ j (hj : j < cs[k].entries.length), _ := fun j hj => cQ (s := cs[k].entries[j].path) (Nat.le_trans (hc.2 _ (List.getElem_mem hj)).2.1 hB)
  have g3 : ∀ j (hj : j < cs[k].entries.length), _ := fun j hj => oE (n := cs[k].version) (es := cs[k].entries.map XCached.e) (bY (fun _ q => XCached.has hB q) hB hc) cs[k].entries[j].site cs[k].entries[j].path
  have g4 : ∀ j (hj : j < cs[k].entries.length), _ := fun j hj => pB cs[k].entries[j].resp
  have f1 := e1 k hk
  have hx := XCache.e.eq_1 cs[k]
  have hw := ag (k := k) (by unfold maxLen at hlm; omega)
  unfold vo at hp
  clear hc
  cases k with
  | zero =>
   rw [iB hk] at hp
   generalize rg cs[0].version 1 1000000000000 = b1 at hp f1
   cases b1
   ·simp [hk, f1, hx, bP] at hp
   by_cases q2 : (12 : Int) < (cs[0].entries.length : Int)
   ·have q3 : 12 < cs[0].entries.length := by omega
    have q4 : ¬ (cs[0].entries.length : Int) ≤ 12 := by omega
    simp [hk, f1, hx, bP, q2, q3, q4] at hp
   have q3 : ¬ 12 < cs[0].entries.length := by omega
   have q4 : (cs[0].entries.length : Int) ≤ 12 := by omega
   have q5 : cs[0].entries.length ≤ 12 := by omega
   have hp : sP cs[0].entries = false := by simpa [q2, q3, q4, q5] using hp
   simp [cL, hk, f1, hx, bP, q2, q3, q4, q5]
   generalize cs[0].entries = es at g1 g2 g3 g4 helm hp q2 q3 q4 q5 ⊢
   refine bU bh Cl.kn [.f,.t,.f,.f,.t,.f,.f,.f,.t,.t,.t,.f,.f,.f,.f,.f,.f,.f,.f,.f,.f,.f,.f,.f,.f,.f,.f,.f,.f,.f,.f,.f,.f,.f,.f,.f,.f,.f,.f,.f,.f,.f,.t,.t,.t,.f,.f,.f,.f,.f,.f,.f,.f,.f,.f,.f,.f,.f,.f,.f,.f,.f,.f,.f,.f,.f,.f,.f,.f,.f,.f,.f,.f,.f,.f,.f,.f,.f,.f,.f,.f] (fun j => [(44, ae .i64 j)]) es.length (De es) rfl ?_ ?_ ?_ ?_
   ·exact Kn.q [0, 1]
   ·intro j hj hq
    have hwj := ag (k := j) (by unfold maxLen at helm; omega)
    have hy := XCached.e.eq_1 es[j]
    have k1 := g1 j hj
    have k2 := g2 j hj
    have k3 := g3 j hj
    have k4 := g4 j hj
    have n3 := ya hj
    rw [pX hj] at hq
    generalize bN (FA es[j].site es[j].path) (es.map XCached.e) 0 = I at k3 n3
    generalize bF es[j].site = c1 at hq k1
    generalize bF es[j].path = c2 at hq k2
    generalize xZ es j = c3 at hq n3
    generalize j6 es[j].resp = c4 at hq k4
    cases c1
    ·first | (exfalso; simp at hq; done) | (simp [aF, hj, hwj, hy, k1, k2, k3, n3, k4]; exact Kn.q [0, 1])
    cases c2
    ·first | (exfalso; simp at hq; done) | (simp [aF, hj, hwj, hy, k1, k2, k3, n3, k4]; exact Kn.q [0, 1])
    cases c3
    rotate_left
    ·first | (exfalso; simp at hq; done) | (simp [aF, hj, hwj, hy, k1, k2, k3, n3, k4]; exact Kn.q [0, 1])
    cases c4
    ·first | (exfalso; simp at hq; done) | (simp [aF, hj, hwj, hy, k1, k2, k3, n3, k4]; exact Kn.q [0, 1])
    first | (exfalso; simp at hq; done) | (simp [aF, hj, hwj, hy, k1, k2, k3, n3, k4]; exact Kn.q [0, 1])
   ·intro j hj hq _
    rw [E8 hj hq] at hp
    simp at hp
   ·intro hq
    simp [aF, bP]
    exact Kn.q [0]
  | succ j0 =>
   have hj : j0 < cs.length := by omega
   obtain ⟨i1, i2, i3, i4, i5, i6⟩ := kJ hlm hk
   have hx0 := XCache.e.eq_1 cs[j0]
   rw [iC hk] at hp
   generalize rg cs[j0 + 1].version 1 1000000000000 = b1 at hp f1
   cases b1
   ·simp [hk, f1, hx, hj, i1, i2, i3, i4, i5, i6, hx0] at hp
   by_cases q1 : cs[j0 + 1].version ≤ cs[j0].version
   ·simp [hk, f1, hx, hj, i1, i2, i3, i4, i5, i6, hx0, q1] at hp
   by_cases q2 : (12 : Int) < (cs[j0 + 1].entries.length : Int)
   ·have q3 : 12 < cs[j0 + 1].entries.length := by omega
    have q4 : ¬ (cs[j0 + 1].entries.length : Int) ≤ 12 := by omega
    simp [hk, f1, hx, hj, i1, i2, i3, i4, i5, i6, hx0, q1, q2, q3, q4] at hp
   have q3 : ¬ 12 < cs[j0 + 1].entries.length := by omega
   have q4 : (cs[j0 + 1].entries.length : Int) ≤ 12 := by omega
   have q5 : cs[j0 + 1].entries.length ≤ 12 := by omega
   have hp : sP cs[j0 + 1].entries = false := by simpa [q1, q2, q3, q4, q5] using hp
   simp [cL, hk, f1, hx, hj, i1, i2, i3, i4, i5, i6, hx0, q1, q2, q3, q4, q5]
   generalize cs[j0 + 1].entries = es at g1 g2 g3 g4 helm hp q2 q3 q4 q5 ⊢
   refine bU bh Cl.kn [.f,.t,.f,.f,.t,.f,.f,.f,.t,.t,.t,.f,.f,.f,.f,.f,.f,.f,.f,.f,.f,.f,.f,.f,.f,.f,.f,.f,.f,.f,.f,.f,.f,.f,.f,.f,.f,.f,.f,.f,.f,.f,.t,.t,.t,.f,.f,.f,.f,.f,.f,.f,.f,.f,.f,.f,.f,.f,.f,.f,.f,.f,.f,.f,.f,.f,.f,.f,.f,.f,.f,.f,.f,.f,.f,.f,.f,.f,.f,.f,.f] (fun j => [(44, ae .i64 j)]) es.length (De es) rfl ?_ ?_ ?_ ?_
   ·exact Kn.q [0, 1]
   ·intro j hj hq
    have hwj := ag (k := j) (by unfold maxLen at helm; omega)
    have hy := XCached.e.eq_1 es[j]
    have k1 := g1 j hj
    have k2 := g2 j hj
    have k3 := g3 j hj
    have k4 := g4 j hj
    have n3 := ya hj
    rw [pX hj] at hq
    generalize bN (FA es[j].site es[j].path) (es.map XCached.e) 0 = I at k3 n3
    generalize bF es[j].site = c1 at hq k1
    generalize bF es[j].path = c2 at hq k2
    generalize xZ es j = c3 at hq n3
    generalize j6 es[j].resp = c4 at hq k4
    cases c1
    ·first | (exfalso; simp at hq; done) | (simp [aF, hj, hwj, hy, k1, k2, k3, n3, k4]; exact Kn.q [0, 1])
    cases c2
    ·first | (exfalso; simp at hq; done) | (simp [aF, hj, hwj, hy, k1, k2, k3, n3, k4]; exact Kn.q [0, 1])
    cases c3
    rotate_left
    ·first | (exfalso; simp at hq; done) | (simp [aF, hj, hwj, hy, k1, k2, k3, n3, k4]; exact Kn.q [0, 1])
    cases c4
    ·first | (exfalso; simp at hq; done) | (simp [aF, hj, hwj, hy, k1, k2, k3, n3, k4]; exact Kn.q [0, 1])
    first | (exfalso; simp at hq; done) | (simp [aF, hj, hwj, hy, k1, k2, k3, n3, k4]; exact Kn.q [0, 1])
   ·intro j hj hq _
    rw [E8 hj hq] at hp
    simp at hp
   ·intro hq
    simp [aF, i1, i2, i3, i4, i5, i6]
    exact Kn.q [0]
 ·intro k hk hp _
  have hF : qY ⟨cs⟩ = false := by unfold qY; rw [cI hk hp]; rfl
  rw [hF]
  clear hF
  have hc := (h.2 _ (List.getElem_mem hk)).2
  have helm : cs[k].entries.length ≤ maxLen := Nat.le_trans hc.1 hB
  have g1 : ∀ j (hj : j < cs[k].entries.length), _ := fun j hj => cQ (s := cs[k].entries[j].site) (Nat.le_trans (hc.2 _ (List.getElem_mem hj)).1 hB)
  have g2 : ∀ j (hj : j < cs[k].entries.length), _ := fun j hj => cQ (s := cs[k].entries[j].path) (Nat.le_trans (hc.2 _ (List.getElem_mem hj)).2.1 hB)
  have g3 : ∀ j (hj : j < cs[k].entries.length), _ := fun j hj => oE (n := cs[k].version) (es := cs[k].entries.map XCached.e) (bY (fun _ q => XCached.has hB q) hB hc) cs[k].entries[j].site cs[k].entries[j].path
  have g4 : ∀ j (hj : j < cs[k].entries.length), _ := fun j hj => pB cs[k].entries[j].resp
  have f1 := e1 k hk
  have hx := XCache.e.eq_1 cs[k]
  have hw := ag (k := k) (by unfold maxLen at hlm; omega)
  unfold vo at hp
  clear hc
  cases k with
  | zero =>
   rw [iB hk] at hp
   generalize rg cs[0].version 1 1000000000000 = b1 at hp f1
   cases b1
   ·simp [cL, hk, f1, hx, bP]
   by_cases q2 : (12 : Int) < (cs[0].entries.length : Int)
   ·have q3 : 12 < cs[0].entries.length := by omega
    have q4 : ¬ (cs[0].entries.length : Int) ≤ 12 := by omega
    simp [cL, hk, f1, hx, bP, q2, q3, q4]
   have q3 : ¬ 12 < cs[0].entries.length := by omega
   have q4 : (cs[0].entries.length : Int) ≤ 12 := by omega
   have q5 : cs[0].entries.length ≤ 12 := by omega
   have hp : sP cs[0].entries = true := by simpa [q2, q3, q4, q5] using hp
   simp [cL, hk, f1, hx, bP, q2, q3, q4, q5]
   generalize cs[0].entries = es at g1 g2 g3 g4 helm hp q2 q3 q4 q5 ⊢
   refine bU bh Cl.fin [.f,.t,.f,.f,.t,.f,.f,.f,.t,.t,.t,.f,.f,.f,.f,.f,.f,.f,.f,.f,.f,.f,.f,.f,.f,.f,.f,.f,.f,.f,.f,.f,.f,.f,.f,.f,.f,.f,.f,.f,.f,.f,.t,.t,.t,.f,.f,.f,.f,.f,.f,.f,.f,.f,.f,.f,.f,.f,.f,.f,.f,.f,.f,.f,.f,.f,.f,.f,.f,.f,.f,.f,.f,.f,.f,.f,.f,.f,.f,.f,.f] (fun j => [(44, ae .i64 j)]) es.length (De es) rfl ?_ ?_ ?_ ?_
   ·exact Kn.q [0, 1]
   ·intro j hj hq
    have hwj := ag (k := j) (by unfold maxLen at helm; omega)
    have hy := XCached.e.eq_1 es[j]
    have k1 := g1 j hj
    have k2 := g2 j hj
    have k3 := g3 j hj
    have k4 := g4 j hj
    have n3 := ya hj
    rw [pX hj] at hq
    generalize bN (FA es[j].site es[j].path) (es.map XCached.e) 0 = I at k3 n3
    generalize bF es[j].site = c1 at hq k1
    generalize bF es[j].path = c2 at hq k2
    generalize xZ es j = c3 at hq n3
    generalize j6 es[j].resp = c4 at hq k4
    cases c1
    ·first | (exfalso; simp at hq; done) | (simp [aF, hj, hwj, hy, k1, k2, k3, n3, k4]; exact Kn.q [0, 1])
    cases c2
    ·first | (exfalso; simp at hq; done) | (simp [aF, hj, hwj, hy, k1, k2, k3, n3, k4]; exact Kn.q [0, 1])
    cases c3
    rotate_left
    ·first | (exfalso; simp at hq; done) | (simp [aF, hj, hwj, hy, k1, k2, k3, n3, k4]; exact Kn.q [0, 1])
    cases c4
    ·first | (exfalso; simp at hq; done) | (simp [aF, hj, hwj, hy, k1, k2, k3, n3, k4]; exact Kn.q [0, 1])
    first | (exfalso; simp at hq; done) | (simp [aF, hj, hwj, hy, k1, k2, k3, n3, k4]; exact Kn.q [0, 1])
   ·intro j hj hq _
    have hwj := ag (k := j) (by unfold maxLen at helm; omega)
    have hy := XCached.e.eq_1 es[j]
    have k1 := g1 j hj
    have k2 := g2 j hj
    have k3 := g3 j hj
    have k4 := g4 j hj
    have n3 := ya hj
    rw [pX hj] at hq
    generalize bN (FA es[j].site es[j].path) (es.map XCached.e) 0 = I at k3 n3
    generalize bF es[j].site = c1 at hq k1
    generalize bF es[j].path = c2 at hq k2
    generalize xZ es j = c3 at hq n3
    generalize j6 es[j].resp = c4 at hq k4
    cases c1
    ·first | (exfalso; simp at hq; done) | (simp [aF, hj, hwj, hy, k1, k2, k3, n3, k4])
    cases c2
    ·first | (exfalso; simp at hq; done) | (simp [aF, hj, hwj, hy, k1, k2, k3, n3, k4])
    cases c3
    rotate_left
    ·first | (exfalso; simp at hq; done) | (simp [aF, hj, hwj, hy, k1, k2, k3, n3, k4])
    cases c4
    ·first | (exfalso; simp at hq; done) | (simp [aF, hj, hwj, hy, k1, k2, k3, n3, k4])
    first | (exfalso; simp at hq; done) | (simp [aF, hj, hwj, hy, k1, k2, k3, n3, k4])
   ·intro hq
    rw [E7 hq] at hp
    simp at hp
  | succ j0 =>
   have hj : j0 < cs.length := by omega
   obtain ⟨i1, i2, i3, i4, i5, i6⟩ := kJ hlm hk
   have hx0 := XCache.e.eq_1 cs[j0]
   rw [iC hk] at hp
   generalize rg cs[j0 + 1].version 1 1000000000000 = b1 at hp f1
   cases b1
   ·simp [cL, hk, f1, hx, hj, i1, i2, i3, i4, i5, i6, hx0]
   by_cases q1 : cs[j0 + 1].version ≤ cs[j0].version
   ·simp [cL, hk, f1, hx, hj, i1, i2, i3, i4, i5, i6, hx0, q1]
   by_cases q2 : (12 : Int) < (cs[j0 + 1].entries.length : Int)
   ·have q3 : 12 < cs[j0 + 1].entries.length := by omega
    have q4 : ¬ (cs[j0 + 1].entries.length : Int) ≤ 12 := by omega
    simp [cL, hk, f1, hx, hj, i1, i2, i3, i4, i5, i6, hx0, q1, q2, q3, q4]
   have q3 : ¬ 12 < cs[j0 + 1].entries.length := by omega
   have q4 : (cs[j0 + 1].entries.length : Int) ≤ 12 := by omega
   have q5 : cs[j0 + 1].entries.length ≤ 12 := by omega
   have hp : sP cs[j0 + 1].entries = true := by simpa [q1, q2, q3, q4, q5] using hp
   simp [cL, hk, f1, hx, hj, i1, i2, i3, i4, i5, i6, hx0, q1, q2, q3, q4, q5]
   generalize cs[j0 + 1].entries = es at g1 g2 g3 g4 helm hp q2 q3 q4 q5 ⊢
   refine bU bh Cl.fin [.f,.t,.f,.f,.t,.f,.f,.f,.t,.t,.t,.f,.f,.f,.f,.f,.f,.f,.f,.f,.f,.f,.f,.f,.f,.f,.f,.f,.f,.f,.f,.f,.f,.f,.f,.f,.f,.f,.f,.f,.f,.f,.t,.t,.t,.f,.f,.f,.f,.f,.f,.f,.f,.f,.f,.f,.f,.f,.f,.f,.f,.f,.f,.f,.f,.f,.f,.f,.f,.f,.f,.f,.f,.f,.f,.f,.f,.f,.f,.f,.f] (fun j => [(44, ae .i64 j)]) es.length (De es) rfl ?_ ?_ ?_ ?_
   ·exact Kn.q [0, 1]
   ·intro j hj hq
    have hwj := ag (k := j) (by unfold maxLen at helm; omega)
    have hy := XCached.e.eq_1 es[j]
    have k1 := g1 j hj
    have k2 := g2 j hj
    have k3 := g3 j hj
    have k4 := g4 j hj
    have n3 := ya hj
    rw [pX hj] at hq
    generalize bN (FA es[j].site es[j].path) (es.map XCached.e) 0 = I at k3 n3
    generalize bF es[j].site = c1 at hq k1
    generalize bF es[j].path = c2 at hq k2
    generalize xZ es j = c3 at hq n3
    generalize j6 es[j].resp = c4 at hq k4
    cases c1
    ·first | (exfalso; simp at hq; done) | (simp [aF, hj, hwj, hy, k1, k2, k3, n3, k4]; exact Kn.q [0, 1])
    cases c2
    ·first | (exfalso; simp at hq; done) | (simp [aF, hj, hwj, hy, k1, k2, k3, n3, k4]; exact Kn.q [0, 1])
    cases c3
    rotate_left
    ·first | (exfalso; simp at hq; done) | (simp [aF, hj, hwj, hy, k1, k2, k3, n3, k4]; exact Kn.q [0, 1])
    cases c4
    ·first | (exfalso; simp at hq; done) | (simp [aF, hj, hwj, hy, k1, k2, k3, n3, k4]; exact Kn.q [0, 1])
    first | (exfalso; simp at hq; done) | (simp [aF, hj, hwj, hy, k1, k2, k3, n3, k4]; exact Kn.q [0, 1])
   ·intro j hj hq _
    have hwj := ag (k := j) (by unfold maxLen at helm; omega)
    have hy := XCached.e.eq_1 es[j]
    have k1 := g1 j hj
    have k2 := g2 j hj
    have k3 := g3 j hj
    have k4 := g4 j hj
    have n3 := ya hj
    rw [pX hj] at hq
    generalize bN (FA es[j].site es[j].path) (es.map XCached.e) 0 = I at k3 n3
    generalize bF es[j].site = c1 at hq k1
    generalize bF es[j].path = c2 at hq k2
    generalize xZ es j = c3 at hq n3
    generalize j6 es[j].resp = c4 at hq k4
    cases c1
    ·first | (exfalso; simp at hq; done) | (simp [aF, hj, hwj, hy, k1, k2, k3, n3, k4])
    cases c2
    ·first | (exfalso; simp at hq; done) | (simp [aF, hj, hwj, hy, k1, k2, k3, n3, k4])
    cases c3
    rotate_left
    ·first | (exfalso; simp at hq; done) | (simp [aF, hj, hwj, hy, k1, k2, k3, n3, k4])
    cases c4
    ·first | (exfalso; simp at hq; done) | (simp [aF, hj, hwj, hy, k1, k2, k3, n3, k4])
    first | (exfalso; simp at hq; done) | (simp [aF, hj, hwj, hy, k1, k2, k3, n3, k4])
   ·intro hq
    rw [E7 hq] at hp
    simp at hp
 ·intro hp
  have hT : qY ⟨cs⟩ = decide ((cs.length : Int) ≤ 4) := by unfold qY; rw [dM hp]; rfl
  rw [hT]
  simp [cL]
end
end Gi
