/- Of this proof. -/
import Derived.Test.YthklhahdgbbbhaaGreatGwe
set_option linter.unusedSimpArgs false
namespace Gi
open Go Go.RowKit
set_option maxHeartbeats 4000000
set_option maxRecDepth 4000
attribute [local simp] bW am bg bt cF dN Opd.ev put V.cells plain bz hJ isInt isStr isBool bin bf aS aR un asList L.view aB V.view viewL bC aC aT cj comp bq bZ a8 V.flat L.flat dX dJ bS putAt thaw thawL freezeVs freezeLs freezeL V.mut L.mut bm aZ wp_seq wp_block bE wp_cond wp_skip wp_exit wp_ret cN cE cK cH cS cT cR cq bj L.notArr
theorem N7 {c3 c8 : List (List PV)} {nm : List UInt8} {act wait : Int} {caches : List (List PV)} (hc : bR (.lst dK) (.lst caches)) {q : Int} :
 ff (aa Ph al) cy ⟨(.one .junk :: .one (.ptr 0 0 0) :: .one .junk :: ae .i64 q :: .one (.ptr 1 0 0) :: .one .junk :: .one .junk :: .one (.ptr 2 0 0) :: ae .i64 0 :: bV (bV (bV (bV (bV (J4 (J4 ([])))))))), [.box [.junk, .junk, .junk, .pv (.lst c3), .junk, .junk, .junk, .junk, .pv (.lst c8), .junk], sZ nm wait act caches, .box [.junk, .junk, .pv (.int .i64 wait), .pv (.int .i64 act)]]⟩
  (cond (caches.any (kD act wait)) .ret (.exit 2)) (cond (caches.any (kD act wait)) ⟨(.one .junk :: .one .junk :: aj false :: bV (bV (bV (bV (bV (J4 (J4 (J4 (.one .junk :: .one .junk :: []))))))))), []⟩ ⟨(.one .junk :: .one (.ptr 0 0 0) :: .one .junk :: ae .i64 q :: bV (bV (bV (bV (bV (J4 (J4 (J4 (.one .junk :: []))))))))), [.box [.junk, .junk, .junk, .pv (.lst c3), .junk, .junk, .junk, .junk, .pv (.lst c8), .junk]]⟩) := by
 obtain ⟨hl, hr⟩ := aD hc
 have hB : ∀ k (hlt : k < caches.length), ∃ v es, caches[k] = [.int .i64 v, .lst es] ∧ kD act wait caches[k] = ((v == 0) || (!(v == act) && !(v == wait))) := fun k hlt => by
  obtain ⟨v, es, hrk, _⟩ := jN (hr _ (List.getElem_mem hlt))
  exact ⟨v, es, hrk, by rw [hrk]; rfl⟩
 have E := iX (call := aa Ph al) bh (c := cy) rfl (rows := caches) (p := kD act wait) (e := .exit 2) (er := .ret)
  (S := fun k => ⟨(.one .junk :: .one (.ptr 0 0 0) :: .one .junk :: ae .i64 q :: .one (.ptr 1 0 0) :: .one .junk :: .one .junk :: .one (.ptr 2 0 0) :: ae .i64 k :: bV (bV (bV (bV (bV (J4 (J4 ([])))))))), [.box [.junk, .junk, .junk, .pv (.lst c3), .junk, .junk, .junk, .junk, .pv (.lst c8), .junk], sZ nm wait act caches, .box [.junk, .junk, .pv (.int .i64 wait), .pv (.int .i64 act)]]⟩)
  (R := ⟨(.one .junk :: .one .junk :: aj false :: bV (bV (bV (bV (bV (J4 (J4 (J4 (.one .junk :: .one .junk :: []))))))))), []⟩) (σe := ⟨(.one .junk :: .one (.ptr 0 0 0) :: .one .junk :: ae .i64 q :: bV (bV (bV (bV (bV (J4 (J4 (J4 (.one .junk :: []))))))))), [.box [.junk, .junk, .junk, .pv (.lst c3), .junk, .junk, .junk, .junk, .pv (.lst c8), .junk]]⟩)
  (fun k hlt hp => by
   have hw := ag (k := k) (by unfold maxLen at hl; omega)
   obtain ⟨v, es, hrk, hb⟩ := hB k hlt
   rw [hb] at hp
   by_cases q0 : v = 0
   ·subst q0; simp at hp
   ·have q0b : (v == 0) = false := by simpa using q0
    rw [q0b, Bool.false_or] at hp
    refine iy.of ?_
    by_cases q1 : v = act
    ·subst q1
     have q1b : (v != v) = false := by simp
     simp [cy, sZ, hlt, hrk, hw, q0, q0b, q1b]
     exact Kn.r [0, 1, 2]
    ·have q2 : v = wait := by simpa [q1] using hp
     subst q2
     have q1b : (v != act) = true := by simpa using q1
     have q2b : (v != v) = false := by simp
     simp [cy, sZ, hlt, hrk, hw, q0, q0b, q1, q1b, q2b]
     exact Kn.r [0, 1, 2])
  (fun k hlt hp => by
   obtain ⟨v, es, hrk, hb⟩ := hB k hlt
   rw [hb] at hp
   refine ff.stop (by simp) ?_
   by_cases q0 : v = 0
   ·subst q0
    simp [cy, sZ, hlt, hrk]
    exact Kn.r []
   ·have q0b : (v == 0) = false := by simpa using q0
    rw [q0b, Bool.false_or, Bool.and_eq_true] at hp
    have q1 : ¬ v = act := by simpa using hp.1
    have q2 : ¬ v = wait := by simpa using hp.2
    have q1b : (v != act) = true := by simpa using q1
    have q2b : (v != wait) = true := by simpa using q2
    simp [cy, sZ, hlt, hrk, q0, q0b, q1, q1b, q2, q2b]
    exact Kn.r [])
  (by
   refine ff.stop (by simp) ?_
   simp [cy, sZ]
   exact Kn.r [0])
 exact E
theorem MS {c3 c8 : List (List PV)} (hl : c3.length ≤ maxLen) (h8 : bR (.lst j9) (.lst c8)) (hz8 : sz (.lst c8) ≤ 1048576) {k : Nat} (hlt : k < c3.length)
 {d0 d1 d2 : List UInt8} {d3 d4 d5 : Int} {d6 : List (List PV)} {d7 : List UInt8} {d8 : Int} {d9 d10 d11 : List (List PV)} {d12 : Int} {d13 : List UInt8} {d14 : List (List PV)} {d15 d16 d17 d18 : Int} {d19 : List (List PV)} {d20 d21 d22 : Int} {d23 : Bool}
 (hrk : c3[k] = [.str d0, .str d1, .str d2, .int .i64 d3, .int .i64 d4, .int .i64 d5, .lst d6, .str d7, .int .i64 d8, .lst d9, .lst d10, .lst d11, .int .i64 d12, .str d13, .lst d14, .int .i64 d15, .int .i64 d16, .int .i64 d17, .int .i64 d18, .lst d19, .int .i64 d20, .int .i64 d21, .int .i64 d22, .bool d23])
 (h6 : bR (.lst dK) (.lst d6)) (hz6 : sz (.lst d6) ≤ 1048576) (hs : ¬ bX d0 < 0)
 (hp : (([d5, d4].any fun v => nz v && !(A9 d6 (fu c8 d0).1 (fu c8 d0).2 v)) || d6.any (kD d5 d4)) = false) :
 iy (aa Ph al) az ⟨(.one .junk :: .one (.ptr 0 0 0) :: .one .junk :: ae .i64 k :: bV (bV (bV (bV (bV (J4 (J4 (J4 (.one .junk :: []))))))))), [.box [.junk, .junk, .junk, .pv (.lst c3), .junk, .junk, .junk, .junk, .pv (.lst c8), .junk]]⟩ ⟨(.one .junk :: .one (.ptr 0 0 0) :: .one .junk :: ae .i64 ((k + 1 : Nat) : Int) :: bV (bV (bV (bV (bV (J4 (J4 (J4 (.one .junk :: []))))))))), [.box [.junk, .junk, .junk, .pv (.lst c3), .junk, .junk, .junk, .junk, .pv (.lst c8), .junk]]⟩ := by
 have hw := ag (k := k) (by unfold maxLen at hl; omega)
 have e1 := iK d0
 have hs0 : decide (bX d0 < 0) = false := by simpa using hs
 have E2 := N7 (c3 := c3) (c8 := c8) (nm := d0) (act := d5) (wait := d4) h6 (q := (k : Int))
 refine iy.of ?_
 rcases v8 h8 hz8 d0 with ⟨hx, hy⟩ | ⟨j, hj, hn, sn, sv, files, sh, hr, hy, hl1, hf, hzf⟩
 ·have hge : ¬ bX d0 < (c8.length : Int) := by omega
  have k1 := dP (nm := []) (sv := 0) (files := []) (sh := false) (v := d5) h6 hz6 (by simp) ⟨by simp [maxLen], by simp⟩ (by simp [jH, ej])
  have k2 := dP (nm := []) (sv := 0) (files := []) (sh := false) (v := d4) h6 hz6 (by simp) ⟨by simp [maxLen], by simp⟩ (by simp [jH, ej])
  rw [hy] at hp
  simp only [List.any_cons, List.any_nil, Bool.or_false] at hp
  generalize A9 d6 [] [] d5 = X1 at k1 hp
  generalize A9 d6 [] [] d4 = X2 at k2 hp
  generalize hV : d6.any (kD d5 d4) = VB at hp E2
  by_cases a0 : d5 = 0
  ·have a0b : (d5 != 0) = false := by simpa using a0
   by_cases w0 : d4 = 0
   ·have w0b : (d4 != 0) = false := by simpa using w0
    simp [az, hlt, hrk, e1, hs, hs0, bB, hge, a0, a0b, w0, w0b]
    obtain rfl : VB = false := by simpa [nz, a0, w0] using hp
    refine cw bh Cl.kn rfl E2 ?_ ?_
    ·exact Kn.r [0, 1, 3] (by simp [bL, ca, br, dI, co, bQ, cu, L.ren, sZ, a0, w0])
    simp [hw]
    exact Kn.r [0]
   ·have w0b : (d4 != 0) = true := by simpa using w0
    cases X2
    ·simp [nz, w0] at hp
    ·simp [az, hlt, hrk, e1, hs, hs0, bB, hge, a0, a0b, w0, w0b, k2]
     obtain rfl : VB = false := by simpa [nz, a0, w0] using hp
     refine cw bh Cl.kn rfl E2 ?_ ?_
     ·exact Kn.r [0, 1, 3] (by simp [bL, ca, br, dI, co, bQ, cu, L.ren, sZ, a0, w0])
     simp [hw]
     exact Kn.r [0]
  ·have a0b : (d5 != 0) = true := by simpa using a0
   cases X1
   ·simp [nz, a0] at hp
   ·by_cases w0 : d4 = 0
    ·have w0b : (d4 != 0) = false := by simpa using w0
     simp [az, hlt, hrk, e1, hs, hs0, bB, hge, a0, a0b, k1, w0, w0b]
     obtain rfl : VB = false := by simpa [nz, a0, w0] using hp
     refine cw bh Cl.kn rfl E2 ?_ ?_
     ·exact Kn.r [0, 1, 3] (by simp [bL, ca, br, dI, co, bQ, cu, L.ren, sZ, a0, w0])
     simp [hw]
     exact Kn.r [0]
    ·have w0b : (d4 != 0) = true := by simpa using w0
     cases X2
     ·simp [nz, w0] at hp
     ·simp [az, hlt, hrk, e1, hs, hs0, bB, hge, a0, a0b, k1, w0, w0b, k2]
      obtain rfl : VB = false := by simpa [nz, a0, w0] using hp
      refine cw bh Cl.kn rfl E2 ?_ ?_
      ·exact Kn.r [0, 1, 3] (by simp [bL, ca, br, dI, co, bQ, cu, L.ren, sZ, a0, w0])
      simp [hw]
      exact Kn.r [0]
 ·have k1 := dP (sv := sv) (sh := sh) (v := d5) h6 hz6 hl1 hf hzf
  have k2 := dP (sv := sv) (sh := sh) (v := d4) h6 hz6 hl1 hf hzf
  rw [hn] at e1 hs hs0
  have hj' : (j : Int) < (c8.length : Int) := by omega
  rw [hy] at hp
  simp only [List.any_cons, List.any_nil, Bool.or_false] at hp
  generalize A9 d6 sn files d5 = X1 at k1 hp
  generalize A9 d6 sn files d4 = X2 at k2 hp
  generalize hV : d6.any (kD d5 d4) = VB at hp E2
  by_cases a0 : d5 = 0
  ·have a0b : (d5 != 0) = false := by simpa using a0
   by_cases w0 : d4 = 0
   ·have w0b : (d4 != 0) = false := by simpa using w0
    simp [az, hlt, hrk, e1, hs, hs0, bB, hn, hj, hr, a0, a0b, w0, w0b]
    obtain rfl : VB = false := by simpa [nz, a0, w0] using hp
    refine cw bh Cl.kn rfl E2 ?_ ?_
    ·exact Kn.r [0, 1, 3] (by simp [bL, ca, br, dI, co, bQ, cu, L.ren, sZ, a0, w0])
    simp [hw]
    exact Kn.r [0]
   ·have w0b : (d4 != 0) = true := by simpa using w0
    cases X2
    ·simp [nz, w0] at hp
    ·simp [az, hlt, hrk, e1, hs, hs0, bB, hn, hj, hr, a0, a0b, w0, w0b, k2]
     obtain rfl : VB = false := by simpa [nz, a0, w0] using hp
     refine cw bh Cl.kn rfl E2 ?_ ?_
     ·exact Kn.r [0, 1, 3] (by simp [bL, ca, br, dI, co, bQ, cu, L.ren, sZ, a0, w0])
     simp [hw]
     exact Kn.r [0]
  ·have a0b : (d5 != 0) = true := by simpa using a0
   cases X1
   ·simp [nz, a0] at hp
   ·by_cases w0 : d4 = 0
    ·have w0b : (d4 != 0) = false := by simpa using w0
     simp [az, hlt, hrk, e1, hs, hs0, bB, hn, hj, hr, a0, a0b, k1, w0, w0b]
     obtain rfl : VB = false := by simpa [nz, a0, w0] using hp
     refine cw bh Cl.kn rfl E2 ?_ ?_
     ·exact Kn.r [0, 1, 3] (by simp [bL, ca, br, dI, co, bQ, cu, L.ren, sZ, a0, w0])
     simp [hw]
     exact Kn.r [0]
    ·have w0b : (d4 != 0) = true := by simpa using w0
     cases X2
     ·simp [nz, w0] at hp
     ·simp [az, hlt, hrk, e1, hs, hs0, bB, hn, hj, hr, a0, a0b, k1, w0, w0b, k2]
      obtain rfl : VB = false := by simpa [nz, a0, w0] using hp
      refine cw bh Cl.kn rfl E2 ?_ ?_
      ·exact Kn.r [0, 1, 3] (by simp [bL, ca, br, dI, co, bQ, cu, L.ren, sZ, a0, w0])
      simp [hw]
      exact Kn.r [0]
theorem NS {c3 c8 : List (List PV)} (hl : c3.length ≤ maxLen) (h8 : bR (.lst j9) (.lst c8)) (hz8 : sz (.lst c8) ≤ 1048576) {k : Nat} (hlt : k < c3.length)
 {d0 d1 d2 : List UInt8} {d3 d4 d5 : Int} {d6 : List (List PV)} {d7 : List UInt8} {d8 : Int} {d9 d10 d11 : List (List PV)} {d12 : Int} {d13 : List UInt8} {d14 : List (List PV)} {d15 d16 d17 d18 : Int} {d19 : List (List PV)} {d20 d21 d22 : Int} {d23 : Bool}
 (hrk : c3[k] = [.str d0, .str d1, .str d2, .int .i64 d3, .int .i64 d4, .int .i64 d5, .lst d6, .str d7, .int .i64 d8, .lst d9, .lst d10, .lst d11, .int .i64 d12, .str d13, .lst d14, .int .i64 d15, .int .i64 d16, .int .i64 d17, .int .i64 d18, .lst d19, .int .i64 d20, .int .i64 d21, .int .i64 d22, .bool d23])
 (h6 : bR (.lst dK) (.lst d6)) (hz6 : sz (.lst d6) ≤ 1048576) (hs : ¬ bX d0 < 0)
 (hp : (([d5, d4].any fun v => nz v && !(A9 d6 (fu c8 d0).1 (fu c8 d0).2 v)) || d6.any (kD d5 d4)) = true) :
 ff (aa Ph al) az ⟨(.one .junk :: .one (.ptr 0 0 0) :: .one .junk :: ae .i64 k :: bV (bV (bV (bV (bV (J4 (J4 (J4 (.one .junk :: []))))))))), [.box [.junk, .junk, .junk, .pv (.lst c3), .junk, .junk, .junk, .junk, .pv (.lst c8), .junk]]⟩ .ret ⟨(.one .junk :: .one .junk :: aj false :: bV (bV (bV (bV (bV (J4 (J4 (J4 (.one .junk :: .one .junk :: []))))))))), []⟩ := by
 have hw := ag (k := k) (by unfold maxLen at hl; omega)
 have e1 := iK d0
 have hs0 : decide (bX d0 < 0) = false := by simpa using hs
 have E2 := N7 (c3 := c3) (c8 := c8) (nm := d0) (act := d5) (wait := d4) h6 (q := (k : Int))
 refine ff.stop (by simp) ?_
 rcases v8 h8 hz8 d0 with ⟨hx, hy⟩ | ⟨j, hj, hn, sn, sv, files, sh, hr, hy, hl1, hf, hzf⟩
 ·have hge : ¬ bX d0 < (c8.length : Int) := by omega
  have k1 := dP (nm := []) (sv := 0) (files := []) (sh := false) (v := d5) h6 hz6 (by simp) ⟨by simp [maxLen], by simp⟩ (by simp [jH, ej])
  have k2 := dP (nm := []) (sv := 0) (files := []) (sh := false) (v := d4) h6 hz6 (by simp) ⟨by simp [maxLen], by simp⟩ (by simp [jH, ej])
  rw [hy] at hp
  simp only [List.any_cons, List.any_nil, Bool.or_false] at hp
  generalize A9 d6 [] [] d5 = X1 at k1 hp
  generalize A9 d6 [] [] d4 = X2 at k2 hp
  generalize hV : d6.any (kD d5 d4) = VB at hp E2
  by_cases a0 : d5 = 0
  ·have a0b : (d5 != 0) = false := by simpa using a0
   by_cases w0 : d4 = 0
   ·have w0b : (d4 != 0) = false := by simpa using w0
    simp [az, hlt, hrk, e1, hs, hs0, bB, hge, a0, a0b, w0, w0b]
    obtain rfl : VB = true := by simpa [nz, a0, w0] using hp
    refine cw bh Cl.kn rfl E2 ?_ ?_
    ·exact Kn.r [0, 1, 3] (by simp [bL, ca, br, dI, co, bQ, cu, L.ren, sZ, a0, w0])
    simp
    exact Kn.r []
   ·have w0b : (d4 != 0) = true := by simpa using w0
    cases X2
    ·simp [az, hlt, hrk, e1, hs, hs0, bB, hge, a0, a0b, w0, w0b, k2]
     exact Kn.r []
    ·simp [az, hlt, hrk, e1, hs, hs0, bB, hge, a0, a0b, w0, w0b, k2]
     obtain rfl : VB = true := by simpa [nz, a0, w0] using hp
     refine cw bh Cl.kn rfl E2 ?_ ?_
     ·exact Kn.r [0, 1, 3] (by simp [bL, ca, br, dI, co, bQ, cu, L.ren, sZ, a0, w0])
     simp
     exact Kn.r []
  ·have a0b : (d5 != 0) = true := by simpa using a0
   cases X1
   ·simp [az, hlt, hrk, e1, hs, hs0, bB, hge, a0, a0b, k1]
    exact Kn.r []
   ·by_cases w0 : d4 = 0
    ·have w0b : (d4 != 0) = false := by simpa using w0
     simp [az, hlt, hrk, e1, hs, hs0, bB, hge, a0, a0b, k1, w0, w0b]
     obtain rfl : VB = true := by simpa [nz, a0, w0] using hp
     refine cw bh Cl.kn rfl E2 ?_ ?_
     ·exact Kn.r [0, 1, 3] (by simp [bL, ca, br, dI, co, bQ, cu, L.ren, sZ, a0, w0])
     simp
     exact Kn.r []
    ·have w0b : (d4 != 0) = true := by simpa using w0
     cases X2
     ·simp [az, hlt, hrk, e1, hs, hs0, bB, hge, a0, a0b, k1, w0, w0b, k2]
      exact Kn.r []
     ·simp [az, hlt, hrk, e1, hs, hs0, bB, hge, a0, a0b, k1, w0, w0b, k2]
      obtain rfl : VB = true := by simpa [nz, a0, w0] using hp
      refine cw bh Cl.kn rfl E2 ?_ ?_
      ·exact Kn.r [0, 1, 3] (by simp [bL, ca, br, dI, co, bQ, cu, L.ren, sZ, a0, w0])
      simp
      exact Kn.r []
 ·have k1 := dP (sv := sv) (sh := sh) (v := d5) h6 hz6 hl1 hf hzf
  have k2 := dP (sv := sv) (sh := sh) (v := d4) h6 hz6 hl1 hf hzf
  rw [hn] at e1 hs hs0
  have hj' : (j : Int) < (c8.length : Int) := by omega
  rw [hy] at hp
  simp only [List.any_cons, List.any_nil, Bool.or_false] at hp
  generalize A9 d6 sn files d5 = X1 at k1 hp
  generalize A9 d6 sn files d4 = X2 at k2 hp
  generalize hV : d6.any (kD d5 d4) = VB at hp E2
  by_cases a0 : d5 = 0
  ·have a0b : (d5 != 0) = false := by simpa using a0
   by_cases w0 : d4 = 0
   ·have w0b : (d4 != 0) = false := by simpa using w0
    simp [az, hlt, hrk, e1, hs, hs0, bB, hn, hj, hr, a0, a0b, w0, w0b]
    obtain rfl : VB = true := by simpa [nz, a0, w0] using hp
    refine cw bh Cl.kn rfl E2 ?_ ?_
    ·exact Kn.r [0, 1, 3] (by simp [bL, ca, br, dI, co, bQ, cu, L.ren, sZ, a0, w0])
    simp
    exact Kn.r []
   ·have w0b : (d4 != 0) = true := by simpa using w0
    cases X2
    ·simp [az, hlt, hrk, e1, hs, hs0, bB, hn, hj, hr, a0, a0b, w0, w0b, k2]
     exact Kn.r []
    ·simp [az, hlt, hrk, e1, hs, hs0, bB, hn, hj, hr, a0, a0b, w0, w0b, k2]
     obtain rfl : VB = true := by simpa [nz, a0, w0] using hp
     refine cw bh Cl.kn rfl E2 ?_ ?_
     ·exact Kn.r [0, 1, 3] (by simp [bL, ca, br, dI, co, bQ, cu, L.ren, sZ, a0, w0])
     simp
     exact Kn.r []
  ·have a0b : (d5 != 0) = true := by simpa using a0
   cases X1
   ·simp [az, hlt, hrk, e1, hs, hs0, bB, hn, hj, hr, a0, a0b, k1]
    exact Kn.r []
   ·by_cases w0 : d4 = 0
    ·have w0b : (d4 != 0) = false := by simpa using w0
     simp [az, hlt, hrk, e1, hs, hs0, bB, hn, hj, hr, a0, a0b, k1, w0, w0b]
     obtain rfl : VB = true := by simpa [nz, a0, w0] using hp
     refine cw bh Cl.kn rfl E2 ?_ ?_
     ·exact Kn.r [0, 1, 3] (by simp [bL, ca, br, dI, co, bQ, cu, L.ren, sZ, a0, w0])
     simp
     exact Kn.r []
    ·have w0b : (d4 != 0) = true := by simpa using w0
     cases X2
     ·simp [az, hlt, hrk, e1, hs, hs0, bB, hn, hj, hr, a0, a0b, k1, w0, w0b, k2]
      exact Kn.r []
     ·simp [az, hlt, hrk, e1, hs, hs0, bB, hn, hj, hr, a0, a0b, k1, w0, w0b, k2]
      obtain rfl : VB = true := by simpa [nz, a0, w0] using hp
      refine cw bh Cl.kn rfl E2 ?_ ?_
      ·exact Kn.r [0, 1, 3] (by simp [bL, ca, br, dI, co, bQ, cu, L.ren, sZ, a0, w0])
      simp
      exact Kn.r []
theorem rn {c0 : Int} {c1 : Bool} {c2 : Int} {c3 c4 : List (List PV)} {c5 : Int} {c6 c7 c8 c9 : List (List PV)} (h3 : bR (.lst dm) (.lst c3)) (hz3 : sz (.lst c3) ≤ 1048576) (h8 : bR (.lst j9) (.lst c8)) (hz8 : sz (.lst c8) ≤ 1048576) : aa Ph al 296 [.agg [.pv (.int .i64 c0), .pv (.bool c1), .pv (.int .i64 c2), .pv (.lst c3), .pv (.lst c4), .pv (.int .i64 c5), .pv (.lst c6), .pv (.lst c7), .pv (.lst c8), .pv (.lst c9)]] = some (aj (!(c3.any (xP c8)))) := by
 obtain ⟨hl, hr⟩ := aD h3
 have hB := JP (c8 := c8) hr hz3
 have E := iX (call := aa Ph al) bh (c := az) rfl (rows := c3) (p := xP c8) (e := .exit 0) (er := .ret)
  (S := fun k => ⟨(.one .junk :: .one (.ptr 0 0 0) :: .one .junk :: ae .i64 k :: bV (bV (bV (bV (bV (J4 (J4 (J4 (.one .junk :: []))))))))), [.box [.junk, .junk, .junk, .pv (.lst c3), .junk, .junk, .junk, .junk, .pv (.lst c8), .junk]]⟩)
  (R := ⟨(.one .junk :: .one .junk :: aj false :: bV (bV (bV (bV (bV (J4 (J4 (J4 (.one .junk :: .one .junk :: []))))))))), []⟩) (σe := ⟨(bV (bV (bV (bV (bV (bV (.one .junk :: []))))))), []⟩)
  (fun k hlt hp => by
   obtain ⟨d0, d1, d2, d3, d4, d5, d6, d7, d8, d9, d10, d11, d12, d13, d14, d15, d16, d17, d18, d19, d20, d21, d22, d23, hrk, h6, hz6, hb⟩ := hB k hlt
   rw [hb] at hp
   by_cases hs : bX d0 < 0
   ·have hw := ag (k := k) (by unfold maxLen at hl; omega)
    have e1 := iK d0
    refine iy.of ?_
    simp [az, hlt, hrk, e1, hs, hw]
    exact Kn.r [0]
   ·have hs' : decide (bX d0 < 0) = false := by simpa using hs
    rw [hs', cond_false] at hp
    exact MS hl h8 hz8 hlt hrk h6 hz6 hs hp)
  (fun k hlt hp => by
   obtain ⟨d0, d1, d2, d3, d4, d5, d6, d7, d8, d9, d10, d11, d12, d13, d14, d15, d16, d17, d18, d19, d20, d21, d22, d23, hrk, h6, hz6, hb⟩ := hB k hlt
   rw [hb] at hp
   by_cases hs : bX d0 < 0
   ·have hs' : decide (bX d0 < 0) = true := by simpa using hs
    rw [hs'] at hp
    cases hp
   ·have hs' : decide (bX d0 < 0) = false := by simpa using hs
    rw [hs', cond_false] at hp
    exact NS hl h8 hz8 hlt hrk h6 hz6 hs hp)
  (by
   refine ff.stop (by simp) ?_
   simp [az]
   exact Kn.r [])
 refine aw (fn := jC) rfl ?_
 generalize c3.any (xP c8) = B at E ⊢
 simp [jC]
 refine cw bh Cl.fin rfl E ?_ ?_
 ·exact Kn.r [0]
 cases B <;> simp
end Gi
