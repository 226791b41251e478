/- Of this proof. -/
import Derived.Test.YthklhahdgbbbhaaGreatGyc
import Derived.Test.YthklhahdgbbbhaaGreatGyb
set_option linter.unusedSimpArgs false
namespace Gi
open Go Go.RowKit
set_option maxHeartbeats 8000000
set_option maxRecDepth 4000
attribute [local simp] bW am bg bt cF dN Opd.ev put V.cells plain bz hJ isInt isStr isBool bin bf aS aR un asList L.view aB V.view viewL bC aC aT cj comp bq bZ V.flat L.flat dX dJ bS putAt thaw thawL freezeVs freezeLs freezeL V.mut L.mut bm aZ wp_seq wp_block bE wp_cond wp_skip wp_exit wp_ret cN cE cK cH cS cT cR cq bj L.notArr aY aW aX bH bI
def FN : List XStore → Nat → Bool := Da (fun s => !(bT s)) (fun y x => !(Op.bytesLess y.name x.name))
def DL (nm : List UInt8) : List PV → Bool
 | .str a :: _ => a == nm
 | _ => false
def vE (ss : List XStore) (nm : List UInt8) : Int := bN (DL nm) (ss.map XStore.e) 0
def K1 (ss : List XStore) (nm : List UInt8) : Option XStore := if vE ss nm < 0 then none else ss[(vE ss nm).toNat]?
theorem so (ss : List XStore) (nm : List UInt8) : (vE ss nm < 0 ∧ K1 ss nm = none) ∨ ∃ i, ∃ hi : i < ss.length, vE ss nm = (i : Int) ∧ K1 ss nm = some ss[i] := by
 unfold K1
 by_cases h : vE ss nm < 0
 ·exact .inl ⟨h, by rw [if_pos h]⟩
 ·obtain ⟨i, hi, e⟩ := mR (p := DL nm) (rs := ss.map XStore.e) h
  rw [List.length_map] at hi
  have e' : vE ss nm = (i : Int) := e
  refine .inr ⟨i, hi, e', ?_⟩
  rw [if_neg h, e']
  simp [hi]
def mX (a b : XIndexDef) : Bool := a.store == b.store && (a.field == b.field && true)
theorem v6 (a b : XIndexDef) : mX a b = mX b a := by unfold mX; rw [BEq.comm (a := a.store), BEq.comm (a := a.field)]
theorem BD (a b : XIndexDef) : kF [.s, .s] [.pv (.str a.store), .pv (.str a.field)] [.pv (.str b.store), .pv (.str b.field)] = some (mX a b) := by simp [kF, GP, mX]
theorem HJ {us : List XIndexDef} {k : Nat} (hk : k < us.length) : (us.take k).any (mX us[k]) = wu mX us k := by
 rw [Bool.eq_iff_iff]
 unfold wu
 simp only [List.any_eq_true, List.mem_range]
 constructor
 ·intro ⟨y, hy, hs⟩
  obtain ⟨j, hj, rfl⟩ := List.mem_iff_getElem.1 hy
  rw [List.length_take] at hj
  have hj2 : j < us.length := by omega
  refine ⟨j, by omega, ?_⟩
  rw [iz hk hj2]
  simpa using hs
 ·intro ⟨j, hj, hs⟩
  have hj2 : j < us.length := by omega
  rw [iz hk hj2] at hs
  refine ⟨us[j], ?_, hs⟩
  rw [List.mem_take_iff_getElem]
  exact ⟨j, by omega, rfl⟩
def Gj (ss : List XStore) (us : List XIndexDef) (k : Nat) : Bool := match us[k]? with
 | none => false
 | some u => match K1 ss u.store with
  | none => true
  | some s => !(bF u.field) || (O2 u.field s.items || wu mX us k)
theorem EJ {ss : List XStore} {us : List XIndexDef} {k : Nat} (hk : k < us.length) (h : K1 ss us[k].store = none) : Gj ss us k = true := by simp [Gj, hk, h]
theorem uE {ss : List XStore} {us : List XIndexDef} {k : Nat} (hk : k < us.length) {s : XStore} (h : K1 ss us[k].store = some s) : Gj ss us k = (!(bF us[k].field) || (O2 us[k].field s.items || wu mX us k)) := by simp [Gj, hk, h]
def nY (d : XDatabase) : Bool := bF d.name && (rg d.version 0 1000 && (decide ((d.stores.length : Int) ≤ 4) && (decide ((d.unique.length : Int) ≤ 4) && (!((List.range d.stores.length).any (FN d.stores)) && !((List.range d.unique.length).any (Gj d.stores d.unique))))))
theorem Ep {d : XDatabase} {k : Nat} (hk : k < d.stores.length) (h : FN d.stores k = true) : nY d = false := by unfold nY; rw [cI hk h]; simp
theorem Er {d : XDatabase} {k : Nat} (hk : k < d.unique.length) (h : Gj d.stores d.unique k = true) : nY d = false := by unfold nY; rw [cI hk h]; simp
theorem G9 {d : XDatabase} (h1 : ∀ k, k < d.stores.length → FN d.stores k = false) (h2 : ∀ k, k < d.unique.length → Gj d.stores d.unique k = false) : nY d = (bF d.name && (rg d.version 0 1000 && (decide ((d.stores.length : Int) ≤ 4) && decide ((d.unique.length : Int) ≤ 4)))) := by unfold nY; rw [dM h1, dM h2]; simp
section
variable {B : Nat}
theorem xc (hB : B ≤ maxLen) {ss : List XStore} (h : ss.length ≤ B ∧ ∀ x ∈ ss, x.Ok B) {dn : List UInt8} {dv : Int} {du : List (List PV)} (nm : List UInt8) : aa Ph al 404 [.agg [.pv (.str dn), .pv (.int .i64 dv), .pv (.lst (ss.map XStore.e)), .pv (.lst du)], eX nm] = some (ae .i64 (vE ss nm)) := by
 have hlm : (ss.map XStore.e).length ≤ maxLen := by rw [List.length_map]; exact Nat.le_trans h.1 hB
 have e1 : aa Ph al 410 [bJ (ss.map XStore.e), .one (.fn 411 [[.str nm]])] = some (ae .i64 (bN (DL nm) (ss.map XStore.e) 0)) :=
  vT (z := 3) rfl hlm (fun r m => by obtain ⟨x, _, rfl⟩ := List.mem_map.1 m; rfl) (fun r m => by
   obtain ⟨x, _, rfl⟩ := List.mem_map.1 m
   refine aw (fn := lE) rfl ?_
   simp [lE, a8, qL, DL, XStore.e.eq_1 x])
 unfold vE
 refine aw (fn := nn) rfl ?_
 simp [nn, a8, kT, o9, e1]
theorem xF (hB : B ≤ maxLen) {ss : List XStore} (h : ss.length ≤ B ∧ ∀ x ∈ ss, x.Ok B) {dn : List UInt8} {dv : Int} {du : List (List PV)} (nm : List UInt8) : aa Ph al 400 [.agg [.pv (.str dn), .pv (.int .i64 dv), .pv (.lst (ss.map XStore.e)), .pv (.lst du)], eX nm] = some (ae .i64 (vE ss nm)) := by
 have hlm : ss.length ≤ maxLen := Nat.le_trans h.1 hB
 have ha : ∀ k (hk : k < ss.length), DL nm (ss.map XStore.e)[k]! = (ss[k].name == nm) := fun k hk => by simp [hk, DL, XStore.e.eq_1]
 refine aw (fn := nA) rfl ?_
 simp [nA, bK, a9, aK, aI, aJ, aQ, aE, ba, ar, aM, aA, av, aO, aN, aL, aP, thawT, bB, bw, cd, bG, bA]
 refine bU bh Cl.fin [.f,.t,.t,.f,.f,.t,.f,.f,.f,.f,.f,.f,.f,.f,.f,.f,.f,.f,.f,.f,.f,.f] (fun k => [(5, ae .i64 k)]) ss.length (fun k => match ss[k]? with | some x => x.name == nm | none => false) rfl ?_ ?_ ?_ ?_
 ·exact Kn.q [0]
 ·intro k hk hp
  have hw := ag (k := k) (by unfold maxLen at hlm; omega)
  have hx := XStore.e.eq_1 ss[k]
  have hq : (ss[k].name == nm) = false := by simpa [hk] using hp
  simp [iF, bK, a9, aK, aI, aJ, aQ, aE, ba, ar, aM, aA, av, aO, aN, aL, aP, thawT, bB, bw, cd, bG, bA, hk, hw, hx, hq]
  exact Kn.q [0]
 ·intro k hk hp hn
  have hx := XStore.e.eq_1 ss[k]
  have hq : (ss[k].name == nm) = true := by simpa [hk] using hp
  have hf : vE ss nm = (k : Int) := by
   unfold vE
   have := nW (p := DL nm) (rs := ss.map XStore.e) (k := 0) (j := k) (by simpa using hk) (by simpa [DL, XStore.e.eq_1] using hq) (fun i hi => by
    have := hn i hi
    have hi2 : i < ss.length := by omega
    simpa [hi2, DL, XStore.e.eq_1] using this)
   simpa using this
  rw [hf]
  simp [iF, bK, a9, aK, aI, aJ, aQ, aE, ba, ar, aM, aA, av, aO, aN, aL, aP, thawT, bB, bw, cd, bG, bA, hk, hx, hq]
 ·intro hn
  have hf : vE ss nm = -1 := by
   unfold vE
   refine rX (fun j hj => ?_)
   have hj2 : j < ss.length := by simpa using hj
   have := hn j hj2
   simpa [hj2, DL, XStore.e.eq_1] using this
  rw [hf]
  simp [iF, bK, a9, aK, aI, aJ, aQ, aE, ba, ar, aM, aA, av, aO, aN, aL, aP, thawT, bB, bw, cd, bG, bA]
def OU (x : XIndexDef) : List PV → Bool
 | [.str a, .str b] => x.store == a && (x.field == b && true)
 | _ => false
theorem Ma (x y : XIndexDef) : OU x y.e = mX x y := rfl
theorem CL {us : List XIndexDef} (hl : us.length ≤ maxLen) (x : XIndexDef) : aa Ph al 412 [bJ (us.map XIndexDef.e), .agg [.pv (.str x.store), .pv (.str x.field)]] = some (ae .i64 (bN (OU x) (us.map XIndexDef.e) 0)) := by
 refine aw (fn := eH) rfl ?_
 simp [eH, bK, a9, aK, aI, aJ, aQ, aE, ba, ar, aM, aA, av, aO, aN, aL, aP, thawT, bB, bw, cd, bG, bA]
 refine bU bh Cl.fin [.t,.f,.f,.t,.f,.f,.f,.t,.t,.f,.f,.f,.f,.f,.f,.f,.f,.f,.f] (fun k => [(8, ae .i64 k)]) us.length (fun k => match us[k]? with | some y => mX x y | none => false) rfl ?_ ?_ ?_ ?_
 ·exact Kn.q [0]
 ·intro k hk hp
  have hw := ag (k := k) (by unfold maxLen at hl; omega)
  have hx := XIndexDef.e.eq_1 us[k]
  have e1 := BD x us[k]
  have hq : mX x us[k] = false := by simpa [hk] using hp
  rw [hq] at e1
  simp [ct, bK, a9, aK, aI, aJ, aQ, aE, ba, ar, aM, aA, av, aO, aN, aL, aP, thawT, bB, bw, cd, bG, bA, hk, hw, hx, e1]
  exact Kn.q [0]
 ·intro k hk hp hn
  have hx := XIndexDef.e.eq_1 us[k]
  have e1 := BD x us[k]
  have hq : mX x us[k] = true := by simpa [hk] using hp
  rw [hq] at e1
  have hf : bN (OU x) (us.map XIndexDef.e) 0 = (k : Int) := by
   have := nW (p := OU x) (rs := us.map XIndexDef.e) (k := 0) (j := k) (by simpa using hk) (by simpa [Ma] using hq) (fun i hi => by
    have := hn i hi
    have hi2 : i < us.length := by omega
    simpa [hi2, Ma] using this)
   simpa using this
  rw [hf]
  simp [ct, bK, a9, aK, aI, aJ, aQ, aE, ba, ar, aM, aA, av, aO, aN, aL, aP, thawT, bB, bw, cd, bG, bA, hk, hx, e1]
 ·intro hn
  have hf : bN (OU x) (us.map XIndexDef.e) 0 = -1 := by
   refine rX (fun j hj => ?_)
   have hj2 : j < us.length := by simpa using hj
   have := hn j hj2
   simpa [hj2, Ma] using this
  rw [hf]
  simp [ct, bK, a9, aK, aI, aJ, aQ, aE, ba, ar, aM, aA, av, aO, aN, aL, aP, thawT, bB, bw, cd, bG, bA]
theorem qa {us : List XIndexDef} (hl : us.length ≤ maxLen) (x : XIndexDef) : aa Ph al 405 [bJ (us.map XIndexDef.e), .agg [.pv (.str x.store), .pv (.str x.field)]] = some (aj (us.any (mX x))) := by
 refine aw (fn := dO) rfl ?_
 have e1 := CL hl x
 have e2 : us.any (mX x) = decide (0 ≤ bN (OU x) (us.map XIndexDef.e) 0) := by
  rw [yQ, List.any_map]
  congr 1
 rw [e2]
 simp [dO, bK, a9, aK, aI, aJ, aQ, aE, ba, ar, aM, aA, av, aO, aN, aL, aP, thawT, bB, bw, cd, bG, bA, e1]
theorem vI (hB1 : B ≤ 1048576) {d : XDatabase} (h : d.Ok B) : aa Ph al 397 [.agg [.pv (.str d.name), .pv (.int .i64 d.version), .pv (.lst (d.stores.map XStore.e)), .pv (.lst (d.unique.map XIndexDef.e))]] = some (aj (nY d)) := by
 have hB : B ≤ maxLen := by unfold maxLen; omega
 obtain ⟨dn, dv, ss, us⟩ := d
 obtain ⟨h1, h2, h3, h4⟩ := h
 simp only at h1 h2 h3 h4 ⊢
 have e1 := cQ (Nat.le_trans h1 hB)
 have e2 := gG dv 0 1000
 have eS : ∀ k (hk : k < ss.length), _ := fun k hk => fI hB (h3.2 _ (List.getElem_mem hk))
 have eN : ∀ k (hk : k < us.length), _ := fun k hk => cQ (s := us[k].field) (Nat.le_trans (h4.2 _ (List.getElem_mem hk)).2 hB)
 have eF : ∀ nm, _ := fun nm => xc (dn := dn) (dv := dv) (du := us.map XIndexDef.e) hB h3 nm
 have eU : ∀ i (hi : i < ss.length) (fd : List UInt8), _ := fun i hi fd => uN (f := fd) hB1 (h3.2 _ (List.getElem_mem hi))
 have hlm : ss.length ≤ maxLen := Nat.le_trans h3.1 hB
 have hum : us.length ≤ maxLen := Nat.le_trans h4.1 hB
 refine aw (fn := gq) rfl ?_
 cases b1 : bF dn <;> rw [b1] at e1
 ·simp [gq, bK, a9, aK, aI, aJ, aQ, aE, ba, ar, aM, aA, av, aO, aN, aL, aP, thawT, bB, bw, cd, bG, bA, e1, nY, b1]
 cases b2 : rg dv 0 1000 <;> rw [b2] at e2
 ·simp [gq, bK, a9, aK, aI, aJ, aQ, aE, ba, ar, aM, aA, av, aO, aN, aL, aP, thawT, bB, bw, cd, bG, bA, e1, e2, nY, b1, b2]
 by_cases q3 : (4 : Int) < (ss.length : Int)
 ·have q4 : ¬ ss.length ≤ 4 := by omega
  have q5 : 4 < ss.length := by omega
  have q6 : ¬ (ss.length : Int) ≤ 4 := by omega
  simp [gq, bK, a9, aK, aI, aJ, aQ, aE, ba, ar, aM, aA, av, aO, aN, aL, aP, thawT, bB, bw, cd, bG, bA, e1, e2, nY, b1, b2, q3, q4, q5, q6]
 by_cases r3 : (4 : Int) < (us.length : Int)
 ·have r4 : ¬ us.length ≤ 4 := by omega
  have r5 : 4 < us.length := by omega
  have r6 : ¬ (us.length : Int) ≤ 4 := by omega
  have q5 : ¬ 4 < ss.length := by omega
  simp [gq, bK, a9, aK, aI, aJ, aQ, aE, ba, ar, aM, aA, av, aO, aN, aL, aP, thawT, bB, bw, cd, bG, bA, e1, e2, nY, b1, b2, q3, q5, r3, r4, r5, r6]
 have q5 : ¬ 4 < ss.length := by omega
 have r5 : ¬ 4 < us.length := by omega
 have q6 : (ss.length : Int) ≤ 4 := by omega
 have r6 : (us.length : Int) ≤ 4 := by omega
 simp [gq, bK, a9, aK, aI, aJ, aQ, aE, ba, ar, aM, aA, av, aO, aN, aL, aP, thawT, bB, bw, cd, bG, bA, e1, e2, q3, q5, r3, r5]
 refine bU bh Cl.fin [.f,.t,.f,.f,.f,.f,.f,.f,.f,.f,.f,.f,.f,.f,.f,.f,.f,.f,.f,.f,.f,.f,.f,.f,.f,.f,.f,.f,.f,.f,.f,.f,.f,.f,.t,.t,.t,.f,.f,.f,.f,.f,.f,.f,.f,.f,.f,.f,.f,.f,.f,.f,.f,.f,.f,.f,.f,.f,.f,.f,.f,.f,.f,.f,.f,.f,.f,.f,.f,.f,.f,.f,.f,.f,.f,.f,.f,.f,.f,.f,.f,.f,.f,.f,.f,.f,.f,.f,.f,.f,.f,.f,.f,.f,.f,.f,.f,.f,.f,.f,.f,.f,.f] (fun k => [(36, ae .i64 k)]) ss.length (FN ss) rfl ?_ ?_ ?_ ?_
 ·exact Kn.q [0]
 ·intro k hk hp
  unfold FN at hp
  cases k with
  | zero =>
   have f1 := eS (0) hk
   have hx := XStore.e.eq_1 ss[0]
   rw [iB hk] at hp
   generalize bT ss[0] = c1 at hp f1
   cases c1
   ·simp [hk, bP, f1, hx] at hp
   simp [dR, bK, a9, aK, aI, aJ, aQ, aE, ba, ar, aM, aA, av, aO, aN, aL, aP, thawT, bB, bw, cd, bG, bA, hk, bP, f1, hx]
   exact Kn.q [0]
  | succ j =>
   have hj : j < ss.length := by omega
   obtain ⟨i1, i2, i3, i4, i5, i6⟩ := kJ hlm hk
   have f1 := eS (j + 1) hk
   have hx := XStore.e.eq_1 ss[j + 1]
   have l1 := xj ss[j + 1].name ss[j].name
   have hy := XStore.e.eq_1 ss[j]
   rw [iC hk] at hp
   generalize bT ss[j + 1] = c1 at hp f1
   generalize (!(Op.bytesLess ss[j].name ss[j + 1].name)) = c2 at hp l1
   cases c1
   ·simp [hk, hj, i1, i2, i3, i4, i5, i6, f1, hx, ↓l1, hy] at hp
   cases c2
   rotate_left
   ·simp [hk, hj, i1, i2, i3, i4, i5, i6, f1, hx, ↓l1, hy] at hp
   simp [dR, bK, a9, aK, aI, aJ, aQ, aE, ba, ar, aM, aA, av, aO, aN, aL, aP, thawT, bB, bw, cd, bG, bA, hk, hj, i1, i2, i3, i4, i5, i6, f1, hx, ↓l1, hy]
   exact Kn.q [0]
 ·intro k hk hp _
  have hF : nY ⟨dn, dv, ss, us⟩ = false := by exact Ep (d := ⟨dn, dv, ss, us⟩) hk hp
  rw [hF]
  clear hF
  unfold FN at hp
  cases k with
  | zero =>
   have f1 := eS (0) hk
   have hx := XStore.e.eq_1 ss[0]
   rw [iB hk] at hp
   generalize bT ss[0] = c1 at hp f1
   cases c1
   ·simp [dR, bK, a9, aK, aI, aJ, aQ, aE, ba, ar, aM, aA, av, aO, aN, aL, aP, thawT, bB, bw, cd, bG, bA, hk, bP, f1, hx]
   simp [hk, bP, f1, hx] at hp
  | succ j =>
   have hj : j < ss.length := by omega
   obtain ⟨i1, i2, i3, i4, i5, i6⟩ := kJ hlm hk
   have f1 := eS (j + 1) hk
   have hx := XStore.e.eq_1 ss[j + 1]
   have l1 := xj ss[j + 1].name ss[j].name
   have hy := XStore.e.eq_1 ss[j]
   rw [iC hk] at hp
   generalize bT ss[j + 1] = c1 at hp f1
   generalize (!(Op.bytesLess ss[j].name ss[j + 1].name)) = c2 at hp l1
   cases c1
   ·simp [dR, bK, a9, aK, aI, aJ, aQ, aE, ba, ar, aM, aA, av, aO, aN, aL, aP, thawT, bB, bw, cd, bG, bA, hk, hj, i1, i2, i3, i4, i5, i6, f1, hx, ↓l1, hy]
   cases c2
   rotate_left
   ·simp [dR, bK, a9, aK, aI, aJ, aQ, aE, ba, ar, aM, aA, av, aO, aN, aL, aP, thawT, bB, bw, cd, bG, bA, hk, hj, i1, i2, i3, i4, i5, i6, f1, hx, ↓l1, hy]
   simp [hk, hj, i1, i2, i3, i4, i5, i6, f1, hx, ↓l1, hy] at hp
 ·intro hst
  simp [dR, bK, a9, aK, aI, aJ, aQ, aE, ba, ar, aM, aA, av, aO, aN, aL, aP, thawT, bB, bw, cd, bG, bA]
  refine bU bh Cl.fin [.f,.t,.f,.f,.f,.f,.f,.f,.f,.f,.f,.f,.f,.f,.f,.f,.f,.f,.f,.f,.f,.f,.f,.f,.f,.f,.f,.f,.f,.f,.f,.f,.f,.f,.f,.f,.f,.f,.f,.f,.f,.f,.f,.f,.f,.f,.f,.f,.f,.f,.f,.f,.f,.f,.f,.f,.f,.f,.f,.f,.f,.f,.t,.t,.t,.f,.f,.f,.f,.f,.f,.f,.f,.f,.f,.f,.f,.f,.f,.f,.f,.f,.f,.f,.f,.f,.f,.f,.f,.f,.f,.f,.f,.f,.f,.f,.f,.f,.f,.f,.f,.f,.f] (fun k => [(64, ae .i64 k)]) us.length (Gj ss us) rfl ?_ ?_ ?_ ?_
  ·exact Kn.q [0]
  ·intro k hk hp
   have hw := ag (k := k) (by unfold maxLen at hum; omega)
   have f1 := eF us[k].store
   have f2 := eN k hk
   have hx := XIndexDef.e.eq_1 us[k]
   have f3 := qa (us := us.take k) (by rw [List.length_take]; exact Nat.le_trans (Nat.min_le_left _ _) (by omega)) us[k]
   rw [HJ hk] at f3
   have hkl : k ≤ us.length := by omega
   rw [List.map_take] at f3
   have hlenU : ∀ x : XIndexDef, x.e.length = 2 := fun _ => rfl
   rcases so ss us[k].store with ⟨hn, hs⟩ | ⟨i, hi, hn, hs⟩
   ·rw [EJ hk hs] at hp; cases hp
   ·rw [uE hk hs] at hp
    rw [hn] at f1
    have hneg : ¬ (i : Int) < 0 := by omega
    have f4 := eU i hi us[k].field
    have hy := XStore.e.eq_1 ss[i]
    unfold O2 at hp
    unfold Oh at f4
    generalize M3 us[k].field (nE us[k].field ss[i].items) = T at f4 hp
    obtain ⟨k1, k2, c4⟩ := T
    simp only at f4 hp
    generalize bF us[k].field = c2 at f2 hp
    generalize wu mX us k = c3 at f3 hp
    cases c2
    ·simp at hp
    cases c3
    rotate_left
    ·simp at hp
    cases c4
    rotate_left
    ·simp at hp
    simp [eY, bK, a9, aK, aI, aJ, aQ, aE, ba, ar, aM, aA, av, aO, aN, aL, aP, thawT, bB, bw, cd, bG, bA, hk, hw, hx, f1, f2, f3, hkl, hlenU, hneg, hi, hy, f4]
    exact Kn.q [0]
  ·intro k hk hp _
   rw [Er (d := ⟨dn, dv, ss, us⟩) hk hp]
   have hw := ag (k := k) (by unfold maxLen at hum; omega)
   have f1 := eF us[k].store
   have f2 := eN k hk
   have hx := XIndexDef.e.eq_1 us[k]
   have f3 := qa (us := us.take k) (by rw [List.length_take]; exact Nat.le_trans (Nat.min_le_left _ _) (by omega)) us[k]
   rw [HJ hk] at f3
   have hkl : k ≤ us.length := by omega
   rw [List.map_take] at f3
   have hlenU : ∀ x : XIndexDef, x.e.length = 2 := fun _ => rfl
   rcases so ss us[k].store with ⟨hn, hs⟩ | ⟨i, hi, hn, hs⟩
   ·generalize vE ss us[k].store = I at f1 hn
    simp [eY, bK, a9, aK, aI, aJ, aQ, aE, ba, ar, aM, aA, av, aO, aN, aL, aP, thawT, bB, bw, cd, bG, bA, hk, hw, hx, f1, f2, f3, hkl, hlenU, hn]
   ·rw [uE hk hs] at hp
    rw [hn] at f1
    have hneg : ¬ (i : Int) < 0 := by omega
    have f4 := eU i hi us[k].field
    have hy := XStore.e.eq_1 ss[i]
    unfold O2 at hp
    unfold Oh at f4
    generalize M3 us[k].field (nE us[k].field ss[i].items) = T at f4 hp
    obtain ⟨k1, k2, c4⟩ := T
    simp only at f4 hp
    generalize bF us[k].field = c2 at f2 hp
    generalize wu mX us k = c3 at f3 hp
    cases c2
    ·simp [eY, bK, a9, aK, aI, aJ, aQ, aE, ba, ar, aM, aA, av, aO, aN, aL, aP, thawT, bB, bw, cd, bG, bA, hk, hw, hx, f1, f2, f3, hkl, hlenU, hneg, hi, hy, f4]
    cases c3
    rotate_left
    ·simp [eY, bK, a9, aK, aI, aJ, aQ, aE, ba, ar, aM, aA, av, aO, aN, aL, aP, thawT, bB, bw, cd, bG, bA, hk, hw, hx, f1, f2, f3, hkl, hlenU, hneg, hi, hy, f4]
    cases c4
    rotate_left
    ·simp [eY, bK, a9, aK, aI, aJ, aQ, aE, ba, ar, aM, aA, av, aO, aN, aL, aP, thawT, bB, bw, cd, bG, bA, hk, hw, hx, f1, f2, f3, hkl, hlenU, hneg, hi, hy, f4]
    simp at hp
  ·intro hun
   rw [G9 (d := ⟨dn, dv, ss, us⟩) hst hun]
   simp [eY, bK, a9, aK, aI, aJ, aQ, aE, ba, ar, aM, aA, av, aO, aN, aL, aP, thawT, bB, bw, cd, bG, bA, b1, b2, q6, r6]
theorem wa (hB1 : B ≤ 1048576) {d : XDatabase} (h : d.Ok B) : aa Ph al 393 [.agg [.pv (.str d.name), .pv (.int .i64 d.version), .pv (.lst (d.stores.map XStore.e)), .pv (.lst (d.unique.map XIndexDef.e))]] = some (aj (nY d)) := by
 have hB : B ≤ maxLen := by unfold maxLen; omega
 obtain ⟨dn, dv, ss, us⟩ := d
 obtain ⟨h1, h2, h3, h4⟩ := h
 simp only at h1 h2 h3 h4 ⊢
 have e1 := di (Nat.le_trans h1 hB)
 have e2 := gH dv 0 1000
 have eS : ∀ k (hk : k < ss.length), _ := fun k hk => ly hB (h3.2 _ (List.getElem_mem hk))
 have eN : ∀ k (hk : k < us.length), _ := fun k hk => di (s := us[k].field) (Nat.le_trans (h4.2 _ (List.getElem_mem hk)).2 hB)
 have eF : ∀ nm, _ := fun nm => xF (dn := dn) (dv := dv) (du := us.map XIndexDef.e) hB h3 nm
 have eU : ∀ i (hi : i < ss.length) (fd : List UInt8), _ := fun i hi fd => uT (f := fd) hB1 (h3.2 _ (List.getElem_mem hi))
 have hlm : ss.length ≤ maxLen := Nat.le_trans h3.1 hB
 have hum : us.length ≤ maxLen := Nat.le_trans h4.1 hB
 refine aw (fn := mK) rfl ?_
 simp [mK, bK, a9, aK, aI, aJ, aQ, aE, ba, ar, aM, aA, av, aO, aN, aL, aP, thawT, bB, bw, cd, bG, bA]
 refine bU bh Cl.fin [.f,.t,.f,.t,.f,.f,.f,.f,.f,.f,.f,.f,.f,.f,.f,.f,.f,.f,.f,.f,.f,.f,.f,.f,.f,.f,.f,.f,.f,.f,.f,.f,.f,.f,.f,.f,.f,.f,.f,.f,.f,.f,.f,.f,.f,.f,.f,.f,.f,.f,.f,.f,.f,.f,.f,.f,.f,.f,.f,.f,.f,.f,.f,.f,.f,.f,.f,.f,.f,.f,.f,.f,.f,.f,.f,.f,.f,.f,.f,.f,.f,.f,.f,.f,.f,.f,.f,.f,.f,.f,.f,.f,.f,.f,.f,.f,.f,.f,.f,.f,.f,.f,.f,.f,.f,.f,.f,.f,.f,.f,.f,.f,.f,.f,.f,.f,.f,.f,.f,.f,.f,.f,.f,.f] (fun k => [(3, ae .i64 k)]) ss.length (FN ss) rfl ?_ ?_ ?_ ?_
 ·exact Kn.q [0]
 ·intro k hk hp
  unfold FN at hp
  cases k with
  | zero =>
   have f1 := eS (0) hk
   have hx := XStore.e.eq_1 ss[0]
   rw [iB hk] at hp
   generalize bT ss[0] = c1 at hp f1
   cases c1
   ·simp [hk, bP, f1, hx] at hp
   simp [dq, bK, a9, aK, aI, aJ, aQ, aE, ba, ar, aM, aA, av, aO, aN, aL, aP, thawT, bB, bw, cd, bG, bA, hk, bP, f1, hx]
   exact Kn.q [0]
  | succ j =>
   have hj : j < ss.length := by omega
   obtain ⟨i1, i2, i3, i4, i5, i6⟩ := kJ hlm hk
   have f1 := eS (j + 1) hk
   have hx := XStore.e.eq_1 ss[j + 1]
   have l1 := wZ ss[j].name ss[j + 1].name
   have hy := XStore.e.eq_1 ss[j]
   rw [iC hk] at hp
   generalize bT ss[j + 1] = c1 at hp f1
   generalize (!(Op.bytesLess ss[j].name ss[j + 1].name)) = c2 at hp l1
   cases c1
   ·simp [hk, hj, i1, i2, i3, i4, i5, i6, f1, hx, ↓l1, hy] at hp
   cases c2
   rotate_left
   ·simp [hk, hj, i1, i2, i3, i4, i5, i6, f1, hx, ↓l1, hy] at hp
   simp [dq, bK, a9, aK, aI, aJ, aQ, aE, ba, ar, aM, aA, av, aO, aN, aL, aP, thawT, bB, bw, cd, bG, bA, hk, hj, i1, i2, i3, i4, i5, i6, f1, hx, ↓l1, hy]
   exact Kn.q [0]
 ·intro k hk hp _
  have hF : nY ⟨dn, dv, ss, us⟩ = false := by exact Ep (d := ⟨dn, dv, ss, us⟩) hk hp
  rw [hF]
  clear hF
  unfold FN at hp
  cases k with
  | zero =>
   have f1 := eS (0) hk
   have hx := XStore.e.eq_1 ss[0]
   rw [iB hk] at hp
   generalize bT ss[0] = c1 at hp f1
   cases c1
   ·simp [dq, bK, a9, aK, aI, aJ, aQ, aE, ba, ar, aM, aA, av, aO, aN, aL, aP, thawT, bB, bw, cd, bG, bA, hk, bP, f1, hx]
   simp [hk, bP, f1, hx] at hp
  | succ j =>
   have hj : j < ss.length := by omega
   obtain ⟨i1, i2, i3, i4, i5, i6⟩ := kJ hlm hk
   have f1 := eS (j + 1) hk
   have hx := XStore.e.eq_1 ss[j + 1]
   have l1 := wZ ss[j].name ss[j + 1].name
   have hy := XStore.e.eq_1 ss[j]
   rw [iC hk] at hp
   generalize bT ss[j + 1] = c1 at hp f1
   generalize (!(Op.bytesLess ss[j].name ss[j + 1].name)) = c2 at hp l1
   cases c1
   ·simp [dq, bK, a9, aK, aI, aJ, aQ, aE, ba, ar, aM, aA, av, aO, aN, aL, aP, thawT, bB, bw, cd, bG, bA, hk, hj, i1, i2, i3, i4, i5, i6, f1, hx, ↓l1, hy]
   cases c2
   rotate_left
   ·simp [dq, bK, a9, aK, aI, aJ, aQ, aE, ba, ar, aM, aA, av, aO, aN, aL, aP, thawT, bB, bw, cd, bG, bA, hk, hj, i1, i2, i3, i4, i5, i6, f1, hx, ↓l1, hy]
   simp [hk, hj, i1, i2, i3, i4, i5, i6, f1, hx, ↓l1, hy] at hp
 ·intro hst
  simp [dq, bK, a9, aK, aI, aJ, aQ, aE, ba, ar, aM, aA, av, aO, aN, aL, aP, thawT, bB, bw, cd, bG, bA]
  refine bU bh Cl.fin [.f,.t,.f,.f,.t,.f,.f,.f,.f,.f,.f,.f,.f,.f,.f,.f,.f,.f,.f,.f,.f,.f,.f,.f,.f,.f,.f,.f,.f,.f,.f,.f,.f,.f,.f,.f,.f,.f,.f,.f,.f,.f,.f,.f,.f,.f,.f,.f,.f,.f,.f,.f,.f,.f,.f,.f,.f,.f,.f,.f,.f,.f,.f,.f,.f,.f,.f,.f,.f,.f,.f,.f,.f,.f,.f,.f,.f,.f,.f,.f,.f,.f,.f,.f,.f,.f,.f,.f,.f,.f,.f,.f,.f,.f,.f,.f,.f,.f,.f,.f,.f,.f,.f,.f,.f,.f,.f,.f,.f,.f,.f,.f,.f,.f,.f,.f,.f,.f,.f,.f,.f,.f,.f,.f] (fun k => [(4, ae .i64 k)]) us.length (Gj ss us) rfl ?_ ?_ ?_ ?_
  ·exact Kn.q [0]
  ·intro k hk hp
   have hw := ag (k := k) (by unfold maxLen at hum; omega)
   have f1 := eF us[k].store
   have f2 := eN k hk
   have hx := XIndexDef.e.eq_1 us[k]
   rcases so ss us[k].store with ⟨hn, hs⟩ | ⟨i, hi, hn, hs⟩
   ·rw [EJ hk hs] at hp; cases hp
   ·rw [uE hk hs] at hp
    rw [hn] at f1
    have hneg : ¬ (i : Int) < 0 := by omega
    have f4 := eU i hi us[k].field
    have hy := XStore.e.eq_1 ss[i]
    unfold O2 at hp
    unfold Oh at f4
    generalize M3 us[k].field (nE us[k].field ss[i].items) = T at f4 hp
    obtain ⟨k1, k2, c4⟩ := T
    simp only at f4 hp
    generalize bF us[k].field = c2 at f2 hp
    cases c2
    ·simp at hp
    cases c4
    rotate_left
    ·simp at hp
    simp only [Bool.not_true, Bool.false_or] at hp
    simp [cW, bK, a9, aK, aI, aJ, aQ, aE, ba, ar, aM, aA, av, aO, aN, aL, aP, thawT, bB, bw, cd, bG, bA, hk, hw, hx, f1, f2, hneg, hi, hy, f4]
    refine bU bh Cl.kn [.f,.t,.f,.f,.t,.f,.f,.f,.f,.t,.f,.f,.f,.f,.f,.f,.f,.f,.f,.f,.f,.f,.f,.f,.f,.f,.f,.f,.f,.f,.f,.f,.f,.f,.f,.f,.f,.f,.f,.f,.f,.f,.f,.f,.f,.f,.f,.f,.f,.f,.f,.f,.f,.f,.f,.f,.f,.f,.f,.f,.f,.f,.f,.f,.f,.f,.f,.f,.f,.f,.f,.f,.f,.f,.f,.f,.f,.f,.f,.f,.f,.f,.f,.f,.f,.f,.f,.f,.f,.f,.f,.f,.f,.f,.f,.f,.f,.f,.f,.f,.f,.f,.f,.f,.f,.f,.f,.f,.f,.f,.f,.f,.f,.f,.f,.f,.f,.f,.f,.f,.f,.f,.f,.f] (fun j => [(9, ae .i64 j)]) k (p9 mX us k) rfl ?_ ?_ ?_ ?_
    ·exact Kn.q [0, 1, 2]
    ·intro j hj hq
     have hjl : j < us.length := by omega
     have hwj := ag (k := j) (by unfold maxLen at hum; omega)
     have hy2 := XIndexDef.e.eq_1 us[j]
     have hj0 : (j : Int) < (k : Int) := by omega
     have g1 := BD us[j] us[k]
     rw [iz hk hjl, v6] at hq
     rw [hq] at g1
     simp [fS, bK, a9, aK, aI, aJ, aQ, aE, ba, ar, aM, aA, av, aO, aN, aL, aP, thawT, bB, bw, cd, bG, bA, hj, hj0, hjl, hk, hwj, hx, hy2, g1]
     exact Kn.q [0, 1, 2]
    ·intro j hj hq _
     rw [EO hj hq] at hp
     cases hp
    ·intro hq
     simp [fS, bK, a9, aK, aI, aJ, aQ, aE, ba, ar, aM, aA, av, aO, aN, aL, aP, thawT, bB, bw, cd, bG, bA, hw]
     exact Kn.q [0]
  ·intro k hk hp _
   rw [Er (d := ⟨dn, dv, ss, us⟩) hk hp]
   have hw := ag (k := k) (by unfold maxLen at hum; omega)
   have f1 := eF us[k].store
   have f2 := eN k hk
   have hx := XIndexDef.e.eq_1 us[k]
   rcases so ss us[k].store with ⟨hn, hs⟩ | ⟨i, hi, hn, hs⟩
   ·generalize vE ss us[k].store = I at f1 hn
    simp [cW, bK, a9, aK, aI, aJ, aQ, aE, ba, ar, aM, aA, av, aO, aN, aL, aP, thawT, bB, bw, cd, bG, bA, hk, hw, hx, f1, f2, hn]
   ·rw [uE hk hs] at hp
    rw [hn] at f1
    have hneg : ¬ (i : Int) < 0 := by omega
    have f4 := eU i hi us[k].field
    have hy := XStore.e.eq_1 ss[i]
    unfold O2 at hp
    unfold Oh at f4
    generalize M3 us[k].field (nE us[k].field ss[i].items) = T at f4 hp
    obtain ⟨k1, k2, c4⟩ := T
    simp only at f4 hp
    generalize bF us[k].field = c2 at f2 hp
    cases c2
    ·simp [cW, bK, a9, aK, aI, aJ, aQ, aE, ba, ar, aM, aA, av, aO, aN, aL, aP, thawT, bB, bw, cd, bG, bA, hk, hw, hx, f1, f2, hneg, hi, hy, f4]
    cases c4
    rotate_left
    ·simp [cW, bK, a9, aK, aI, aJ, aQ, aE, ba, ar, aM, aA, av, aO, aN, aL, aP, thawT, bB, bw, cd, bG, bA, hk, hw, hx, f1, f2, hneg, hi, hy, f4]
    simp only [Bool.not_true, Bool.false_or] at hp
    simp [cW, bK, a9, aK, aI, aJ, aQ, aE, ba, ar, aM, aA, av, aO, aN, aL, aP, thawT, bB, bw, cd, bG, bA, hk, hw, hx, f1, f2, hneg, hi, hy, f4]
    refine bU bh Cl.fin [.f,.t,.f,.f,.t,.f,.f,.f,.f,.t,.f,.f,.f,.f,.f,.f,.f,.f,.f,.f,.f,.f,.f,.f,.f,.f,.f,.f,.f,.f,.f,.f,.f,.f,.f,.f,.f,.f,.f,.f,.f,.f,.f,.f,.f,.f,.f,.f,.f,.f,.f,.f,.f,.f,.f,.f,.f,.f,.f,.f,.f,.f,.f,.f,.f,.f,.f,.f,.f,.f,.f,.f,.f,.f,.f,.f,.f,.f,.f,.f,.f,.f,.f,.f,.f,.f,.f,.f,.f,.f,.f,.f,.f,.f,.f,.f,.f,.f,.f,.f,.f,.f,.f,.f,.f,.f,.f,.f,.f,.f,.f,.f,.f,.f,.f,.f,.f,.f,.f,.f,.f,.f,.f,.f] (fun j => [(9, ae .i64 j)]) k (p9 mX us k) rfl ?_ ?_ ?_ ?_
    ·exact Kn.q [0, 1, 2]
    ·intro j hj hq
     have hjl : j < us.length := by omega
     have hwj := ag (k := j) (by unfold maxLen at hum; omega)
     have hy2 := XIndexDef.e.eq_1 us[j]
     have hj0 : (j : Int) < (k : Int) := by omega
     have g1 := BD us[j] us[k]
     rw [iz hk hjl, v6] at hq
     rw [hq] at g1
     simp [fS, bK, a9, aK, aI, aJ, aQ, aE, ba, ar, aM, aA, av, aO, aN, aL, aP, thawT, bB, bw, cd, bG, bA, hj, hj0, hjl, hk, hwj, hx, hy2, g1]
     exact Kn.q [0, 1, 2]
    ·intro j hj hq _
     have hjl : j < us.length := by omega
     have hwj := ag (k := j) (by unfold maxLen at hum; omega)
     have hy2 := XIndexDef.e.eq_1 us[j]
     have hj0 : (j : Int) < (k : Int) := by omega
     have g1 := BD us[j] us[k]
     rw [iz hk hjl, v6] at hq
     rw [hq] at g1
     simp [fS, bK, a9, aK, aI, aJ, aQ, aE, ba, ar, aM, aA, av, aO, aN, aL, aP, thawT, bB, bw, cd, bG, bA, hj, hj0, hjl, hk, hwj, hx, hy2, g1]
    ·intro hq
     rw [A7 hq] at hp
     cases hp
  ·intro hun
   rw [G9 (d := ⟨dn, dv, ss, us⟩) hst hun]
   generalize bF dn = b1 at e1 ⊢
   generalize rg dv 0 1000 = b2 at e2 ⊢
   simp only
   cases b1
   ·simp [cW, bK, a9, aK, aI, aJ, aQ, aE, ba, ar, aM, aA, av, aO, aN, aL, aP, thawT, bB, bw, cd, bG, bA, e1, e2]
   cases b2
   ·simp [cW, bK, a9, aK, aI, aJ, aQ, aE, ba, ar, aM, aA, av, aO, aN, aL, aP, thawT, bB, bw, cd, bG, bA, e1, e2]
   by_cases q3 : (ss.length : Int) ≤ 4
   rotate_left
   ·simp [cW, bK, a9, aK, aI, aJ, aQ, aE, ba, ar, aM, aA, av, aO, aN, aL, aP, thawT, bB, bw, cd, bG, bA, e1, e2, q3]
   simp [cW, bK, a9, aK, aI, aJ, aQ, aE, ba, ar, aM, aA, av, aO, aN, aL, aP, thawT, bB, bw, cd, bG, bA, e1, e2, q3]
end
end Gi
