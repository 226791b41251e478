/- Of this proof. -/
import Derived.Test.YthklhahdgbbbhaaGreatGyb
set_option linter.unusedSimpArgs false
namespace Gi
open Go Go.RowKit
set_option maxHeartbeats 8000000
set_option maxRecDepth 4000
attribute [local simp] bW am bg bt cF dN Opd.ev put V.cells plain bz hJ isInt isStr isBool bin bf aS aR un asList L.view aB V.view viewL bC aC aT cj comp bq bZ bK a9 aK aI aJ aQ aE ba ar aM aA av aO aN aL aP thawT bB bw cd bG bA bz V.flat L.flat dX dJ bS putAt thaw thawL freezeVs freezeLs freezeL V.mut L.mut bm aZ wp_seq wp_block bE wp_cond wp_skip wp_exit wp_ret cN cE cK cH cS cT cR cq bj L.notArr aY aW aX bH bI
def N5 (l v : Int) : Int := if l < v then v else l
def mW (vs : List Int) (k : Nat) : Int := (vs.take k).foldl N5 0
theorem JD : ∀ (vs : List Int) (l : Int), 0 ≤ l → 0 ≤ vs.foldl N5 l
 | [], l, h => h
 | v :: vs, l, h => by
  refine JD vs _ ?_
  unfold N5
  split <;> omega
theorem se (vs : List Int) (k : Nat) : 0 ≤ mW vs k := JD _ 0 (Int.le_refl 0)
theorem zS {vs : List Int} {k : Nat} (hk : k < vs.length) : mW vs (k + 1) = N5 (mW vs k) vs[k] := by
 unfold mW
 rw [List.take_succ_eq_append_getElem hk, List.foldl_append]
 rfl
def Mw (vs : List Int) (k : Nat) : Bool := match vs[k]? with
 | none => false
 | some v => !(rg v 0 1000000000000) || (!(v == 0) && decide (v ≤ mW vs k))
theorem Bc {vs : List Int} {k : Nat} (hk : k < vs.length) : Mw vs k = (!(rg vs[k] 0 1000000000000) || (!(vs[k] == 0) && decide (vs[k] ≤ mW vs k))) := by simp [Mw, hk]
def vR (r : XRegistration) : Bool := !((List.range 3).any (Mw [r.active, r.waiting, r.installing])) && bF r.site
def Hk (b : UInt8) : Bool := !((decide ((97 : Int) ≤ b.toNat) && decide ((b.toNat : Int) ≤ 122)) || decide ((b.toNat : Int) = 47))
def tM (s : List UInt8) : Bool := !(s.any Hk) && rg s.length 1 30
def sN (x y : XLock) : Bool := (y.name == x.name) && (x.held && (!y.held || (!x.shared || !y.shared)))
def He (xs : List XLock) (k : Nat) : Bool := match xs[k]? with
 | none => false
 | some x => !(tM x.name) || (!(rg x.page 1 1000000000000) || wu sN xs k)
theorem xm {xs : List XLock} {k : Nat} (hk : k < xs.length) : He xs k = (!(tM xs[k].name) || (!(rg xs[k].page 1 1000000000000) || wu sN xs k)) := by simp [He, hk]
def iI (xs : List XLock) : Bool := !((List.range xs.length).any (He xs)) && decide ((xs.length : Int) ≤ 12)
section
variable {B : Nat}
theorem r9 (hB : B ≤ maxLen) {r : XRegistration} (h : r.Ok B) : aa Ph al 395 [.agg [.pv (.str r.site), .pv (.int .i64 r.installing), .pv (.int .i64 r.waiting), .pv (.int .i64 r.active)]] = some (aj (vR r)) := by
 have e4 := cQ (Nat.le_trans h.1 hB)
 obtain ⟨st, i, w, a⟩ := r
 simp only at e4 ⊢
 clear h
 have e1 : ∀ v : Int, _ := fun v => gG v 0 1000000000000
 unfold vR
 simp only
 refine aw (fn := jT) rfl ?_
 generalize bF st = b4 at e4 ⊢
 simp [jT]
 rw [show ([[PV.int .i64 a], [PV.int .i64 w], [PV.int .i64 i]] : List (List PV)) = [a, w, i].map Cm from rfl]
 have hvl : [a, w, i].length = 3 := rfl
 generalize [a, w, i] = vs at hvl ⊢
 refine bU bh Cl.fin [.f,.t,.f,.t,.f,.f,.f,.f,.f,.f,.f,.f,.t,.t,.t,.f,.f,.f,.f,.f,.f,.f,.f,.f,.f,.f,.f,.f,.f,.f,.f,.f,.f,.f,.f,.f,.f] (fun k => [(3, ae .i64 (mW vs k)), (14, ae .i64 k)]) 3 (Mw vs) rfl ?_ ?_ ?_ ?_
 ·exact Kn.of [0, 1] (by decide) (by simp [aY, aW, aX, bH, bI, bL, ca, br, dI, co, bQ, cu, L.ren, aA]) (by simp [aY, aW, aX, bH, bI, bL, ca, br, dI, co, bQ, cu, L.ren, aA, mW])
 ·intro k hk hp
  have hkv : k < vs.length := by omega
  have hki : (k : Int) < 3 := by omega
  have hw := ag (k := k) (by omega)
  have f1 := e1 vs[k]
  have hpos := se vs k
  rw [Bc hkv] at hp
  have hs := zS hkv
  generalize hvk : vs[k] = v at f1 hp hs
  try dsimp only
  rw [hs]
  clear hs
  generalize hlk : mW vs k = l at hp hpos ⊢
  generalize rg v 0 1000000000000 = b1 at f1 hp
  cases b1
  ·simp at hp
  by_cases z : v = 0
  ·have z1 : (v != 0) = false := by simpa using z
   have z2 : ¬ l < v := by omega
   unfold N5
   rw [if_neg z2]
   simp [ed, hk, hkv, hki, hvl, hw, f1, Cm, hvk, z1, z2]
   exact Kn.q [0, 1]
  ·have z1 : (v != 0) = true := by simpa using z
   have z3 : ¬ v ≤ l := by simpa [z] using hp
   have z2 : l < v := by omega
   unfold N5
   rw [if_pos z2]
   simp [ed, hk, hkv, hki, hvl, hw, f1, Cm, hvk, z1, z2, z3]
   exact Kn.q [0, 1]
 ·intro k hk hp _
  rw [cI hk hp]
  have hkv : k < vs.length := by omega
  have hki : (k : Int) < 3 := by omega
  have hw := ag (k := k) (by omega)
  have f1 := e1 vs[k]
  have hpos := se vs k
  rw [Bc hkv] at hp
  generalize hvk : vs[k] = v at f1 hp
  generalize hlk : mW vs k = l at hp hpos ⊢
  generalize rg v 0 1000000000000 = b1 at f1 hp
  cases b1
  ·simp [ed, hk, hkv, hki, hvl, hw, f1, Cm, hvk]
  by_cases z : v = 0
  ·simp [z] at hp
  ·have z1 : (v != 0) = true := by simpa using z
   have z3 : v ≤ l := by simpa [z] using hp
   simp [ed, hk, hkv, hki, hvl, hw, f1, Cm, hvk, z1, z3]
 ·intro hp
  rw [dM hp]
  simp [ed, e4, hvl]
theorem sm (hB : B ≤ maxLen) {r : XRegistration} (h : r.Ok B) : aa Ph al 391 [.agg [.pv (.str r.site), .pv (.int .i64 r.installing), .pv (.int .i64 r.waiting), .pv (.int .i64 r.active)]] = some (aj (vR r)) := by
 have e4 := di (Nat.le_trans h.1 hB)
 obtain ⟨st, i, w, a⟩ := r
 simp only at e4 ⊢
 clear h
 have e1 : ∀ v : Int, _ := fun v => gH v 0 1000000000000
 unfold vR
 simp only
 refine aw (fn := jX) rfl ?_
 generalize bF st = b4 at e4 ⊢
 simp [jX]
 rw [show ([[PV.int .i64 a], [PV.int .i64 w], [PV.int .i64 i]] : List (List PV)) = [a, w, i].map Cm from rfl]
 have hvl : [a, w, i].length = 3 := rfl
 generalize [a, w, i] = vs at hvl ⊢
 refine bU bh Cl.fin [.f,.t,.f,.t,.t,.t,.f,.f,.f,.f,.f,.f,.f,.f,.f,.f,.f,.f,.f,.f,.f,.f,.f,.f,.f,.f,.f,.f,.f,.f,.f,.f,.f,.f,.f,.f,.f,.f,.f,.f,.f,.f,.f,.f,.f,.f,.f,.f,.f,.f,.f,.f] (fun k => [(3, ae .i64 (mW vs k)), (5, ae .i64 k)]) 3 (Mw vs) rfl ?_ ?_ ?_ ?_
 ·exact Kn.of [0, 1] (by decide) (by simp [aY, aW, aX, bH, bI, bL, ca, br, dI, co, bQ, cu, L.ren, aA]) (by simp [aY, aW, aX, bH, bI, bL, ca, br, dI, co, bQ, cu, L.ren, aA, mW])
 ·intro k hk hp
  have hkv : k < vs.length := by omega
  have hki : (k : Int) < 3 := by omega
  have hw := ag (k := k) (by omega)
  have f1 := e1 vs[k]
  have hpos := se vs k
  rw [Bc hkv] at hp
  have hs := zS hkv
  generalize hvk : vs[k] = v at f1 hp hs
  try dsimp only
  rw [hs]
  clear hs
  generalize hlk : mW vs k = l at hp hpos ⊢
  generalize rg v 0 1000000000000 = b1 at f1 hp
  cases b1
  ·simp at hp
  by_cases z : v = 0
  ·have z1 : (v != 0) = false := by simpa using z
   have z2 : ¬ l < v := by omega
   unfold N5
   rw [if_neg z2]
   simp [eh, hk, hkv, hki, hvl, hw, f1, Cm, hvk, z1, z2]
   exact Kn.q [0, 1]
  ·have z1 : (v != 0) = true := by simpa using z
   have z3 : ¬ v ≤ l := by simpa [z] using hp
   have z2 : l < v := by omega
   unfold N5
   rw [if_pos z2]
   simp [eh, hk, hkv, hki, hvl, hw, f1, Cm, hvk, z1, z2, z3]
   exact Kn.q [0, 1]
 ·intro k hk hp _
  rw [cI hk hp]
  have hkv : k < vs.length := by omega
  have hki : (k : Int) < 3 := by omega
  have hw := ag (k := k) (by omega)
  have f1 := e1 vs[k]
  have hpos := se vs k
  rw [Bc hkv] at hp
  generalize hvk : vs[k] = v at f1 hp
  generalize hlk : mW vs k = l at hp hpos ⊢
  generalize rg v 0 1000000000000 = b1 at f1 hp
  cases b1
  ·simp [eh, hk, hkv, hki, hvl, hw, f1, Cm, hvk]
  by_cases z : v = 0
  ·simp [z] at hp
  ·have z1 : (v != 0) = true := by simpa using z
   have z3 : v ≤ l := by simpa [z] using hp
   simp [eh, hk, hkv, hki, hvl, hw, f1, Cm, hvk, z1, z3]
 ·intro hp
  rw [dM hp]
  simp [eh, e4, hvl]
theorem vJ {s : List UInt8} (hl : s.length ≤ maxLen) : aa Ph al 389 [eX s] = some (aj (tM s)) := by
 have e1 : aa Ph al 213 [eX s, ae .i64 30, aj true] = some (aj (tM s)) := by
  have e2 := gG s.length 1 30
  refine aw (fn := jO) rfl ?_
  generalize hA : s.any Hk = A
  simp [jO]
  refine zB bh Cl.fin s Hk [.t,.t,.t,.f,.f,.f,.f,.t,.f,.f,.f,.f,.f,.f,.f,.f,.f,.f,.f,.f,.f,.f,.f,.f,.f,.f,.f,.f,.f,.f,.f,.f,.f,.f,.f,.f,.f,.f] (fun k => [(7, ae .i64 k)]) rfl ?_ ?_ ?_ ?_
  ·exact Kn.q []
  ·intro k hk hp
   have hw := ag (k := k) (by unfold maxLen at hl; omega)
   unfold Hk at hp
   by_cases c1 : (97 : Int) ≤ s[k].toNat
   ·by_cases c2 : (s[k].toNat : Int) ≤ 122
    ·simp [dg, hk, hw, c1, c2]
     exact Kn.q []
    ·by_cases c3 : (s[k].toNat : Int) = 47
     ·have c4 : ((s[k].toNat : Int) == 47) = true := by simpa using c3
      simp [dg, hk, hw, c1, c2, c3, c4]
      exact Kn.q []
     ·simp [c1, c2, c3] at hp
   ·by_cases c3 : (s[k].toNat : Int) = 47
    ·have c4 : ((s[k].toNat : Int) == 47) = true := by simpa using c3
     simp [dg, hk, hw, c1, c3, c4]
     exact Kn.q []
    ·simp [c1, c3] at hp
  ·intro k hk hp hany
   have hF : tM s = false := by unfold tM; rw [hany]; rfl
   rw [hF]
   unfold Hk at hp
   by_cases c3 : (s[k].toNat : Int) = 47
   ·simp [c3] at hp
   ·have c4 : ((s[k].toNat : Int) == 47) = false := by simpa using c3
    by_cases c1 : (97 : Int) ≤ s[k].toNat
    ·by_cases c2 : (s[k].toNat : Int) ≤ 122
     ·simp [c1, c2] at hp
     ·simp [dg, hk, c1, c2, c3, c4]
    ·simp [dg, hk, c1, c3, c4]
  ·intro hany
   have hT : tM s = rg s.length 1 30 := by unfold tM; rw [hany]; rfl
   rw [hT]
   generalize rg (s.length : Int) 1 30 = R at e2 ⊢
   simp [dg, e2]
 refine aw (fn := mw) rfl ?_
 simp [mw, e1]
theorem wb {s : List UInt8} (hl : s.length ≤ maxLen) : aa Ph al 386 [eX s] = some (aj (tM s)) := by
 have e2 := gH s.length 1 30
 refine aw (fn := mL) rfl ?_
 simp [mL]
 refine zB bh Cl.fin s Hk [.t,.f,.f,.t,.f,.f,.f,.f,.f,.f,.f,.f,.f,.f,.f,.f,.f,.f,.f,.f,.f,.f,.f,.f,.f,.f,.f,.f,.f] (fun k => [(3, ae .i64 k)]) rfl ?_ ?_ ?_ ?_
 ·exact Kn.q []
 ·intro k hk hp
  have hw := ag (k := k) (by unfold maxLen at hl; omega)
  unfold Hk at hp
  by_cases c1 : (97 : Int) ≤ s[k].toNat
  ·have d1 : ¬ (s[k].toNat : Int) < 97 := by omega
   by_cases c2 : (s[k].toNat : Int) ≤ 122
   ·have d2 : ¬ (122 : Int) < s[k].toNat := by omega
    simp [fT, hk, hw, d1, d2]
    exact Kn.q []
   ·have d2 : (122 : Int) < s[k].toNat := by omega
    by_cases c3 : (s[k].toNat : Int) = 47
    ·omega
    ·simp [c1, c2, c3] at hp
  ·have d1 : (s[k].toNat : Int) < 97 := by omega
   by_cases c3 : (s[k].toNat : Int) = 47
   ·have c4 : ((s[k].toNat : Int) != 47) = false := by simpa using c3
    simp [fT, hk, hw, d1, c3, c4]
    exact Kn.q []
   ·simp [c1, c3] at hp
 ·intro k hk hp hany
  have hF : tM s = false := by unfold tM; rw [hany]; rfl
  rw [hF]
  unfold Hk at hp
  by_cases c3 : (s[k].toNat : Int) = 47
  ·simp [c3] at hp
  ·have c4 : ((s[k].toNat : Int) != 47) = true := by simpa using c3
   by_cases c1 : (97 : Int) ≤ s[k].toNat
   ·by_cases c2 : (s[k].toNat : Int) ≤ 122
    ·simp [c1, c2] at hp
    ·have d1 : ¬ (s[k].toNat : Int) < 97 := by omega
     have d2 : (122 : Int) < s[k].toNat := by omega
     simp [fT, hk, d1, d2, c3, c4]
   ·have d1 : (s[k].toNat : Int) < 97 := by omega
    simp [fT, hk, d1, c3, c4]
 ·intro hany
  have hT : tM s = rg s.length 1 30 := by unfold tM; rw [hany]; rfl
  rw [hT]
  generalize rg (s.length : Int) 1 30 = R at e2 ⊢
  simp [fT, e2]
end
end Gi
