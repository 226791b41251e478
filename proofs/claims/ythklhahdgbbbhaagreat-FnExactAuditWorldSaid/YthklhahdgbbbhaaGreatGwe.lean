/- Of this proof. -/
import Derived.Test.YthklhahdgbbbhaaGreatGwd
set_option linter.unusedSimpArgs false
set_option linter.unusedVariables false
namespace Gi
open Go Go.RowKit
set_option maxHeartbeats 4000000
set_option maxRecDepth 4000
attribute [local simp] bW am bg bt cF dN Opd.ev put V.cells plain bz hJ isInt isStr isBool bin bf aS aR un asList L.view aB V.view viewL bC aC aT cj comp bq bZ a8 V.flat L.flat dX dJ bS putAt thaw thawL freezeVs freezeLs freezeL V.mut L.mut bm aZ wp_seq wp_block bE wp_cond wp_skip wp_exit wp_ret cN cE cK cH cS cT cR cq bj L.notArr
theorem IF {r : List PV} (h : be j9 r) : ∃ (c0 : List UInt8) (c1 : Int) (c2 : List (List PV)) (c3 : Bool), r = [.str c0, .int .i64 c1, .lst c2, .bool c3] ∧ bR (.str) (.str c0) ∧ bR (.int .i64) (.int .i64 c1) ∧ bR (.lst ir) (.lst c2) ∧ bR (.bool) (.bool c3) := by
 obtain ⟨⟨c0, c1, c2, c3, _⟩, rfl, g0, g1, g2, g3, _⟩ := cf h
 exact ⟨c0, c1, c2, c3, rfl, g0, g1, g2, g3⟩
def fu (sites : List (List PV)) (nm : List UInt8) : List UInt8 × List (List PV) :=
 if bX nm < 0 ∨ (sites.length : Int) ≤ bX nm then ([], []) else match sites.getD (bX nm).toNat [] with
  | [.str s, _, .lst fs, _] => (s, fs)
  | _ => ([], [])
theorem v8 {sites : List (List PV)} (h8 : bR (.lst j9) (.lst sites)) (hz : sz (.lst sites) ≤ 1048576) (nm : List UInt8) :
 ((bX nm < 0 ∨ (sites.length : Int) ≤ bX nm) ∧ fu sites nm = ([], [])) ∨ ∃ j, ∃ hj : j < sites.length, bX nm = (j : Int) ∧ ∃ sn sv files sh, sites[j] = [.str sn, .int .i64 sv, .lst files, .bool sh] ∧ fu sites nm = (sn, files) ∧ sn.length ≤ 1048576 ∧ bR (.lst ir) (.lst files) ∧ sz (.lst files) ≤ 1048576 := by
 by_cases hc : bX nm < 0 ∨ (sites.length : Int) ≤ bX nm
 ·exact .inl ⟨hc, by unfold fu; rw [if_pos hc]⟩
 ·refine .inr ⟨(bX nm).toNat, by omega, by omega, ?_⟩
  have hj : (bX nm).toNat < sites.length := by omega
  obtain ⟨s0, s1, s2, s3, hr, g0, g1, g2, g3⟩ := IF ((aD h8).2 _ (List.getElem_mem hj))
  have s1' := sl (List.getElem_mem hj) hz
  rw [hr] at s1'
  refine ⟨s0, s1, s2, s3, hr, ?_, ?_, g2, ?_⟩
  ·unfold fu
   rw [if_neg hc]
   have : sites.getD (bX nm).toNat [] = sites[(bX nm).toNat] := by simp [hj]
   rw [this, hr]
  ·simp only [gO, sz] at s1'; omega
  ·simp only [gO, sz] at s1' ⊢; omega
theorem zd {c0 : Int} {c1 : Bool} {c2 : Int} {c3 c4 : List (List PV)} {c5 : Int} {c6 c7 c8 c9 : List (List PV)} {nm : List UInt8} (hc : bX nm < 0 ∨ (c8.length : Int) ≤ bX nm) : aa Ph al 306 [.agg [.pv (.int .i64 c0), .pv (.bool c1), .pv (.int .i64 c2), .pv (.lst c3), .pv (.lst c4), .pv (.int .i64 c5), .pv (.lst c6), .pv (.lst c7), .pv (.lst c8), .pv (.lst c9)], eX nm] = some (.agg [.pv (.str []), .pv (.int .i64 0), .nil, .pv (.bool false)]) := by
 have e1 := fG nm
 refine aw (fn := jP) rfl ?_
 generalize bX nm = n at e1 hc
 by_cases c : n < 0
 ·simp [jP, e1, c, bB]
 ·have c' : (c8.length : Int) ≤ n := by omega
  simp [jP, e1, c, c', bB]
theorem ze {c0 : Int} {c1 : Bool} {c2 : Int} {c3 c4 : List (List PV)} {c5 : Int} {c6 c7 c8 c9 : List (List PV)} {nm : List UInt8} {j : Nat} (hj : j < c8.length) (hn : bX nm = (j : Int)) {sn : List UInt8} {sv : Int} {files : List (List PV)} {sh : Bool} (hr : c8[j] = [.str sn, .int .i64 sv, .lst files, .bool sh]) : aa Ph al 306 [.agg [.pv (.int .i64 c0), .pv (.bool c1), .pv (.int .i64 c2), .pv (.lst c3), .pv (.lst c4), .pv (.int .i64 c5), .pv (.lst c6), .pv (.lst c7), .pv (.lst c8), .pv (.lst c9)], eX nm] = some (.agg [.pv (.str sn), .pv (.int .i64 sv), .pv (.lst files), .pv (.bool sh)]) := by
 have e1 := fG nm
 rw [hn] at e1
 have c : ¬ (j : Int) < 0 := by omega
 have c' : ¬ c8.length ≤ j := by omega
 refine aw (fn := jP) rfl ?_
 simp [jP, e1, c, c', hj, hr]
def kD (act wait : Int) : List PV → Bool
 | .int _ v :: _ => (v == 0) || (!(v == act) && !(v == wait))
 | _ => false
def xP (sites : List (List PV)) : List PV → Bool
 | .str nm :: _ :: _ :: _ :: .int _ wait :: .int _ act :: .lst caches :: _ =>
  cond (decide (bX nm < 0)) false ((!(act == 0) && !(A9 caches (fu sites nm).1 (fu sites nm).2 act)) || ((!(wait == 0) && !(A9 caches (fu sites nm).1 (fu sites nm).2 wait)) || caches.any (kD act wait)))
 | _ => false
def nz (v : Int) : Bool := !(v == 0)
theorem NG {vs : List Int} {k : Nat} (h : k < vs.length) : (vs.take (k + 1)).filter nz = (vs.take k).filter nz ++ cond (nz vs[k]) [vs[k]] [] := by
 rw [List.take_succ_eq_append_getElem h, List.filter_append]
 congr 1
def sZ (nm : List UInt8) (wait act : Int) (caches : List (List PV)) : AObj := .box [.pv (.str nm), .junk, .junk, .junk, .pv (.int .i64 wait), .pv (.int .i64 act), .pv (.lst caches), .junk, .junk, .junk, .junk, .junk, .junk, .junk, .junk, .junk, .junk, .junk, .junk, .junk, .junk, .junk, .junk, .junk]
theorem N1 {c0 : Int} {c1 : Bool} {c2 : Int} {c3 c4 : List (List PV)} {c5 : Int} {c6 c7 c8 c9 : List (List PV)} (h8 : bR (.lst j9) (.lst c8)) (hz8 : sz (.lst c8) ≤ 1048576) {nm : List UInt8} {wait act : Int} {caches : List (List PV)} (hc : bR (.lst dK) (.lst caches)) (hzc : sz (.lst caches) ≤ 1048576) (hs : ¬ bX nm < 0) {n q : Int} {vs : List Int} (hvs : vs.length ≤ 2) :
 ff (aa Ph al) ce ⟨(.one .junk :: .one (.ptr 0 0 0) :: .one .junk :: .one .junk :: .one (.ptr 1 0 0) :: .one (.arr 2) :: J4 (.one .junk :: .one .junk :: bJ c3 :: ae .i64 n :: ae .i64 q :: J4 (J4 (J4 (.one .junk :: .one .junk :: .one (.arr 3) :: ae .i64 vs.length :: ae .i64 0 :: bV (bV (.one .junk :: .one .junk :: []))))))), [.box [.pv (.int .i64 c0), .pv (.bool c1), .pv (.int .i64 c2), .pv (.lst c3), .pv (.lst c4), .pv (.int .i64 c5), .pv (.lst c6), .pv (.lst c7), .pv (.lst c8), .pv (.lst c9)], sZ nm wait act caches, .arr 1 [], .arr 1 (vs.map i1)]⟩
  (cond (vs.any fun v => nz v && !(A9 caches (fu c8 nm).1 (fu c8 nm).2 v)) .ret (.exit 2)) (cond (vs.any fun v => nz v && !(A9 caches (fu c8 nm).1 (fu c8 nm).2 v)) ⟨(.one .junk :: .one .junk :: aj false :: bV (bV (bV (J4 (J4 (J4 (.one .junk :: .one .junk :: .one .junk :: []))))))), []⟩ ⟨(.one .junk :: .one (.ptr 0 0 0) :: .one .junk :: .one .junk :: .one (.ptr 1 0 0) :: .one (.arr 2) :: J4 (.one .junk :: .one .junk :: bJ c3 :: ae .i64 n :: ae .i64 q :: bV (bV (bV (.one .junk :: .one .junk :: .one .junk :: []))))), [.box [.pv (.int .i64 c0), .pv (.bool c1), .pv (.int .i64 c2), .pv (.lst c3), .pv (.lst c4), .pv (.int .i64 c5), .pv (.lst c6), .pv (.lst c7), .pv (.lst c8), .pv (.lst c9)], sZ nm wait act caches, .arr 1 ((vs.filter nz).map i1)]⟩) := by
 have hcc : ∀ v, ∃ sv sh l, aa Ph al 306 [.agg [.pv (.int .i64 c0), .pv (.bool c1), .pv (.int .i64 c2), .pv (.lst c3), .pv (.lst c4), .pv (.int .i64 c5), .pv (.lst c6), .pv (.lst c7), .pv (.lst c8), .pv (.lst c9)], eX nm] = some (.agg [.pv (.str (fu c8 nm).1), .pv (.int .i64 sv), l, .pv (.bool sh)]) ∧ (l = .nil ∧ (fu c8 nm).2 = [] ∨ l = .pv (.lst (fu c8 nm).2)) ∧ aa Ph al 305 [.agg [.pv (.lst caches)], .agg [.pv (.str (fu c8 nm).1), .pv (.int .i64 sv), .pv (.lst (fu c8 nm).2), .pv (.bool sh)], ae .i64 v] = some (aj (A9 caches (fu c8 nm).1 (fu c8 nm).2 v)) := fun v => by
  rcases v8 h8 hz8 nm with ⟨hx, hy⟩ | ⟨j, hj, hn, sn, sv, files, sh, hr, hy, hl1, hf, hzf⟩
  ·rw [hy]
   exact ⟨0, false, .nil, zd hx, .inl ⟨rfl, rfl⟩, m9 hc hzc (by simp) ⟨by simp [maxLen], by simp⟩ (by simp [jH, ej])⟩
  ·rw [hy]
   exact ⟨sv, sh, _, ze hj hn hr, .inr rfl, m9 hc hzc hl1 hf hzf⟩
 generalize (fu c8 nm).1 = sn at hcc ⊢
 generalize (fu c8 nm).2 = files at hcc ⊢
 have E := iX (call := aa Ph al) bh (c := ce) rfl (rows := vs) (p := fun v => nz v && !(A9 caches sn files v)) (e := .exit 2) (er := .ret)
  (S := fun k => ⟨(.one .junk :: .one (.ptr 0 0 0) :: .one .junk :: .one .junk :: .one (.ptr 1 0 0) :: .one (.arr 2) :: J4 (.one .junk :: .one .junk :: bJ c3 :: ae .i64 n :: ae .i64 q :: J4 (J4 (J4 (.one .junk :: .one .junk :: .one (.arr 3) :: ae .i64 vs.length :: ae .i64 k :: bV (bV (.one .junk :: .one .junk :: []))))))), [.box [.pv (.int .i64 c0), .pv (.bool c1), .pv (.int .i64 c2), .pv (.lst c3), .pv (.lst c4), .pv (.int .i64 c5), .pv (.lst c6), .pv (.lst c7), .pv (.lst c8), .pv (.lst c9)], sZ nm wait act caches, .arr 1 (((vs.take k).filter nz).map i1), .arr 1 (vs.map i1)]⟩)
  (R := ⟨(.one .junk :: .one .junk :: aj false :: bV (bV (bV (J4 (J4 (J4 (.one .junk :: .one .junk :: .one .junk :: []))))))), []⟩)
  (σe := ⟨(.one .junk :: .one (.ptr 0 0 0) :: .one .junk :: .one .junk :: .one (.ptr 1 0 0) :: .one (.arr 2) :: J4 (.one .junk :: .one .junk :: bJ c3 :: ae .i64 n :: ae .i64 q :: bV (bV (bV (.one .junk :: .one .junk :: .one .junk :: []))))), [.box [.pv (.int .i64 c0), .pv (.bool c1), .pv (.int .i64 c2), .pv (.lst c3), .pv (.lst c4), .pv (.int .i64 c5), .pv (.lst c6), .pv (.lst c7), .pv (.lst c8), .pv (.lst c9)], sZ nm wait act caches, .arr 1 ((vs.filter nz).map i1)]⟩)
  (fun k hlt hp => by
   have hw := ag (k := k) (by omega)
   have hf := NG hlt
   have hle : ((vs.take k).filter nz).length ≤ 2 := Nat.le_trans (List.length_filter_le _ _) (by simp; omega)
   refine iy.of ?_
   rw [hf]
   generalize (vs.take k).filter nz = us at hle ⊢
   by_cases q0 : vs[k] = 0
   ·have hq : nz vs[k] = false := by simp [nz, q0]
    rw [hq]
    simp [ce, sZ, hlt, i1, hw, q0]
    exact Kn.r [0, 1, 2, 3]
   ·have hq : nz vs[k] = true := by simp [nz, q0]
    rw [hq, Bool.true_and] at hp
    obtain ⟨sv, sh, l, x1, x2, x3⟩ := hcc vs[k]
    have hcv : A9 caches sn files vs[k] = true := by simpa using hp
    rw [hcv] at x3
    have b1 : (us.length + 1) * 8 ≤ 140737488355328 := by omega
    have b2 : us.length + 1 ≤ 9223372036854775807 := by omega
    rw [hq]
    rcases x2 with ⟨rfl, rfl⟩ | rfl
    ·simp [ce, sZ, hlt, i1, hw, q0, x1, x3, b1, b2]
     exact Kn.r [0, 1, 5, 3] (by simp [bL, ca, br, dI, co, bQ, cu, L.ren, i1])
    ·simp [ce, sZ, hlt, i1, hw, q0, x1, x3, b1, b2]
     exact Kn.r [0, 1, 5, 3] (by simp [bL, ca, br, dI, co, bQ, cu, L.ren, i1]))
  (fun k hlt hp => by
   rw [Bool.and_eq_true] at hp
   have q0 : ¬ vs[k] = 0 := by simpa [nz] using hp.1
   obtain ⟨sv, sh, l, x1, x2, x3⟩ := hcc vs[k]
   have hcv : A9 caches sn files vs[k] = false := by simpa using hp.2
   rw [hcv] at x3
   refine ff.stop (by simp) ?_
   rcases x2 with ⟨rfl, rfl⟩ | rfl
   ·simp [ce, sZ, hlt, i1, q0, x1, x3]
    exact Kn.r []
   ·simp [ce, sZ, hlt, i1, q0, x1, x3]
    exact Kn.r [])
  (by
   refine ff.stop (by simp) ?_
   simp [ce, sZ]
   exact Kn.r [0, 1, 2])
 exact E
theorem N2 {c0 : Int} {c1 : Bool} {c2 : Int} {c3 c4 : List (List PV)} {c5 : Int} {c6 c7 c8 c9 : List (List PV)} {act wait : Int} {caches : List (List PV)} (hc : bR (.lst dK) (.lst caches)) {n q : Int} {us : List Int} (hus : us.length ≤ 2) (hu : ∀ v, us.any (v == ·) = (!(v == 0) && ((v == act) || (v == wait)))) :
 ff (aa Ph al) db ⟨(.one .junk :: .one (.ptr 0 0 0) :: .one .junk :: .one .junk :: .one .junk :: .one (.arr 1) :: J4 (.one .junk :: .one .junk :: bJ c3 :: ae .i64 n :: ae .i64 q :: bV (bV (J4 (.one .junk :: .one .junk :: bJ caches :: ae .i64 caches.length :: ae .i64 0 :: J4 (J4 (.one .junk :: .one .junk :: []))))))), [.box [.pv (.int .i64 c0), .pv (.bool c1), .pv (.int .i64 c2), .pv (.lst c3), .pv (.lst c4), .pv (.int .i64 c5), .pv (.lst c6), .pv (.lst c7), .pv (.lst c8), .pv (.lst c9)], .arr 1 (us.map i1)]⟩
  (cond (caches.any (kD act wait)) .ret (.exit 4)) (cond (caches.any (kD act wait)) ⟨(.one .junk :: .one .junk :: aj false :: bV (bV (bV (J4 (J4 (J4 (.one .junk :: .one .junk :: .one .junk :: []))))))), []⟩ ⟨(.one .junk :: .one (.ptr 0 0 0) :: J4 (J4 (.one .junk :: .one .junk :: bJ c3 :: ae .i64 n :: ae .i64 q :: bV (bV (bV (.one .junk :: .one .junk :: .one .junk :: [])))))), [.box [.pv (.int .i64 c0), .pv (.bool c1), .pv (.int .i64 c2), .pv (.lst c3), .pv (.lst c4), .pv (.int .i64 c5), .pv (.lst c6), .pv (.lst c7), .pv (.lst c8), .pv (.lst c9)]]⟩) := by
 obtain ⟨hl, hr⟩ := aD hc
 have hB : ∀ k (hlt : k < caches.length) (b : Bool), kD act wait caches[k] = b → ∃ v es, caches[k] = [.int .i64 v, .lst es] ∧ aa Ph al 307 [bJ (us.map i1), ae .i64 v] = some (aj (!b)) := fun k hlt b hb => by
  obtain ⟨v, es, hrk, _⟩ := jN (hr _ (List.getElem_mem hlt))
  refine ⟨v, es, hrk, ?_⟩
  rw [uP (by unfold maxLen; omega), hu, ← hb, hrk]
  simp only [kD]
  cases (v == 0) <;> cases (v == act) <;> cases (v == wait) <;> rfl
 have E := iX (call := aa Ph al) bh (c := db) rfl (rows := caches) (p := kD act wait) (e := .exit 4) (er := .ret)
  (S := fun k => ⟨(.one .junk :: .one (.ptr 0 0 0) :: .one .junk :: .one .junk :: .one .junk :: .one (.arr 1) :: J4 (.one .junk :: .one .junk :: bJ c3 :: ae .i64 n :: ae .i64 q :: bV (bV (J4 (.one .junk :: .one .junk :: bJ caches :: ae .i64 caches.length :: ae .i64 k :: J4 (J4 (.one .junk :: .one .junk :: []))))))), [.box [.pv (.int .i64 c0), .pv (.bool c1), .pv (.int .i64 c2), .pv (.lst c3), .pv (.lst c4), .pv (.int .i64 c5), .pv (.lst c6), .pv (.lst c7), .pv (.lst c8), .pv (.lst c9)], .arr 1 (us.map i1)]⟩)
  (R := ⟨(.one .junk :: .one .junk :: aj false :: bV (bV (bV (J4 (J4 (J4 (.one .junk :: .one .junk :: .one .junk :: []))))))), []⟩)
  (σe := ⟨(.one .junk :: .one (.ptr 0 0 0) :: J4 (J4 (.one .junk :: .one .junk :: bJ c3 :: ae .i64 n :: ae .i64 q :: bV (bV (bV (.one .junk :: .one .junk :: .one .junk :: [])))))), [.box [.pv (.int .i64 c0), .pv (.bool c1), .pv (.int .i64 c2), .pv (.lst c3), .pv (.lst c4), .pv (.int .i64 c5), .pv (.lst c6), .pv (.lst c7), .pv (.lst c8), .pv (.lst c9)]]⟩)
  (fun k hlt hp => by
   have hw := ag (k := k) (by unfold maxLen at hl; omega)
   obtain ⟨v, es, hrk, e1⟩ := hB k hlt _ hp
   refine iy.of ?_
   simp [db, hlt, hrk, hw, e1]
   exact Kn.r [0, 1])
  (fun k hlt hp => by
   obtain ⟨v, es, hrk, e1⟩ := hB k hlt _ hp
   refine ff.stop (by simp) ?_
   simp [db, hlt, hrk, e1]
   exact Kn.r [])
  (by
   refine ff.stop (by simp) ?_
   simp [db]
   exact Kn.r [0])
 exact E
theorem HU {act wait v : Int} : (([act, wait].filter nz).any (v == ·)) = (!(v == 0) && ((v == act) || (v == wait))) := by
 have e : (([act, wait].filter nz).any (v == ·)) = ((nz act && (v == act)) || (nz wait && (v == wait))) := by
  cases hq1 : nz act <;> cases hq2 : nz wait <;> simp [List.filter, hq1, hq2]
 rw [e]
 unfold nz
 by_cases h3 : v = act
 ·subst h3
  by_cases h4 : v = wait
  ·subst h4; simp
  ·have h4' : (v == wait) = false := by simpa using h4
   simp [h4']
 ·have h3' : (v == act) = false := by simpa using h3
  by_cases h4 : v = wait
  ·subst h4; simp [h3']
  ·have h4' : (v == wait) = false := by simpa using h4
   simp [h3', h4']
theorem JP {c3 c8 : List (List PV)} (hr : ∀ r ∈ c3, be dm r) (hz3 : sz (.lst c3) ≤ 1048576) : ∀ k (hlt : k < c3.length), ∃ d0 d1 d2 d3 d4 d5 d6 d7 d8 d9 d10 d11 d12 d13 d14 d15 d16 d17 d18 d19 d20 d21 d22 d23, c3[k] = [.str d0, .str d1, .str d2, .int .i64 d3, .int .i64 d4, .int .i64 d5, .lst d6, .str d7, .int .i64 d8, .lst d9, .lst d10, .lst d11, .int .i64 d12, .str d13, .lst d14, .int .i64 d15, .int .i64 d16, .int .i64 d17, .int .i64 d18, .lst d19, .int .i64 d20, .int .i64 d21, .int .i64 d22, .bool d23] ∧ bR (.lst dK) (.lst d6) ∧ sz (.lst d6) ≤ 1048576 ∧ xP c8 c3[k] = cond (decide (bX d0 < 0)) false (([d5, d4].any fun v => nz v && !(A9 d6 (fu c8 d0).1 (fu c8 d0).2 v)) || d6.any (kD d5 d4)) := fun k hlt => by
 obtain ⟨d0, d1, d2, d3, d4, d5, d6, d7, d8, d9, d10, d11, d12, d13, d14, d15, d16, d17, d18, d19, d20, d21, d22, d23, hrk, _, _, _, _, _, _, h6, _⟩ := mj (hr _ (List.getElem_mem hlt))
 refine ⟨d0, d1, d2, d3, d4, d5, d6, d7, d8, d9, d10, d11, d12, d13, d14, d15, d16, d17, d18, d19, d20, d21, d22, d23, hrk, h6, ?_, ?_⟩
 ·have s1 := sl (List.getElem_mem hlt) hz3
  rw [hrk] at s1
  exact Nat.le_trans (cA (i := 6) rfl) s1
 ·rw [hrk]
  simp only [xP, nz, List.any_cons, List.any_nil, Bool.or_false, Bool.or_assoc]
theorem qX {c0 : Int} {c1 : Bool} {c2 : Int} {c3 c4 : List (List PV)} {c5 : Int} {c6 c7 c8 c9 : List (List PV)} (h3 : bR (.lst dm) (.lst c3)) (hz3 : sz (.lst c3) ≤ 1048576) (h8 : bR (.lst j9) (.lst c8)) (hz8 : sz (.lst c8) ≤ 1048576) : aa Ph al 297 [.agg [.pv (.int .i64 c0), .pv (.bool c1), .pv (.int .i64 c2), .pv (.lst c3), .pv (.lst c4), .pv (.int .i64 c5), .pv (.lst c6), .pv (.lst c7), .pv (.lst c8), .pv (.lst c9)]] = some (aj (!(c3.any (xP c8)))) := by
 obtain ⟨hl, hr⟩ := aD h3
 have hB := JP (c8 := c8) hr hz3
 have E := iX (call := aa Ph al) bh (c := dL) rfl (rows := c3) (p := xP c8) (e := .exit 0) (er := .ret)
  (S := fun k => ⟨(.one .junk :: .one (.ptr 0 0 0) :: J4 (J4 (.one .junk :: .one .junk :: bJ c3 :: ae .i64 c3.length :: ae .i64 k :: bV (bV (bV (.one .junk :: .one .junk :: .one .junk :: [])))))), [.box [.pv (.int .i64 c0), .pv (.bool c1), .pv (.int .i64 c2), .pv (.lst c3), .pv (.lst c4), .pv (.int .i64 c5), .pv (.lst c6), .pv (.lst c7), .pv (.lst c8), .pv (.lst c9)]]⟩)
  (R := ⟨(.one .junk :: .one .junk :: aj false :: bV (bV (bV (J4 (J4 (J4 (.one .junk :: .one .junk :: .one .junk :: []))))))), []⟩) (σe := ⟨(bV (bV (bV (bV (.one .junk :: .one .junk :: []))))), []⟩)
  (fun k hlt hp => by
   have hw := ag (k := k) (by unfold maxLen at hl; omega)
   obtain ⟨d0, d1, d2, d3, d4, d5, d6, d7, d8, d9, d10, d11, d12, d13, d14, d15, d16, d17, d18, d19, d20, d21, d22, d23, hrk, h6, hz6, hb⟩ := hB k hlt
   rw [hb] at hp
   have e1 := fG d0
   refine iy.of ?_
   by_cases hs : bX d0 < 0
   ·simp [dL, hlt, hrk, e1, hs, hw]
    exact Kn.r [0]
   ·have hs' : decide (bX d0 < 0) = false := by simpa using hs
    rw [hs', cond_false, Bool.or_eq_false_iff] at hp
    have E1 := N1 (c0 := c0) (c1 := c1) (c2 := c2) (c3 := c3) (c4 := c4) (c5 := c5) (c6 := c6) (c7 := c7) (c9 := c9) h8 hz8 (wait := d4) (act := d5) h6 hz6 hs (n := (c3.length : Int)) (q := (k : Int)) (vs := [d5, d4]) (by simp)
    have E2 := N2 (c0 := c0) (c1 := c1) (c2 := c2) (c3 := c3) (c4 := c4) (c5 := c5) (c6 := c6) (c7 := c7) (c8 := c8) (c9 := c9) (act := d5) (wait := d4) h6 (n := (c3.length : Int)) (q := (k : Int)) (us := [d5, d4].filter nz) (Nat.le_trans (List.length_filter_le _ _) (by simp)) (fun v => HU)
    rw [hp.1] at E1
    rw [hp.2] at E2
    generalize [d5, d4].filter nz = us at E1 E2
    simp [dL, hlt, hrk, e1, hs]
    refine cw bh Cl.kn rfl E1 ?_ ?_
    ·exact Kn.r [0, 1, 2, 3] (by simp [bL, ca, br, dI, co, bQ, cu, L.ren, sZ, i1])
    simp [sZ]
    refine cw bh Cl.kn rfl E2 ?_ ?_
    ·exact Kn.r [0, 2]
    simp [hw]
    exact Kn.r [0])
  (fun k hlt hp => by
   obtain ⟨d0, d1, d2, d3, d4, d5, d6, d7, d8, d9, d10, d11, d12, d13, d14, d15, d16, d17, d18, d19, d20, d21, d22, d23, hrk, h6, hz6, hb⟩ := hB k hlt
   rw [hb] at hp
   have e1 := fG d0
   refine ff.stop (by simp) ?_
   by_cases hs : bX d0 < 0
   ·have hs' : decide (bX d0 < 0) = true := by simpa using hs
    rw [hs'] at hp
    cases hp
   ·have hs' : decide (bX d0 < 0) = false := by simpa using hs
    rw [hs', cond_false] at hp
    have E1 := N1 (c0 := c0) (c1 := c1) (c2 := c2) (c3 := c3) (c4 := c4) (c5 := c5) (c6 := c6) (c7 := c7) (c9 := c9) h8 hz8 (wait := d4) (act := d5) h6 hz6 hs (n := (c3.length : Int)) (q := (k : Int)) (vs := [d5, d4]) (by simp)
    have E2 := N2 (c0 := c0) (c1 := c1) (c2 := c2) (c3 := c3) (c4 := c4) (c5 := c5) (c6 := c6) (c7 := c7) (c8 := c8) (c9 := c9) (act := d5) (wait := d4) h6 (n := (c3.length : Int)) (q := (k : Int)) (us := [d5, d4].filter nz) (Nat.le_trans (List.length_filter_le _ _) (by simp)) (fun v => HU)
    generalize ([d5, d4].any fun v => nz v && !(A9 d6 (fu c8 d0).1 (fu c8 d0).2 v)) = A at hp E1
    generalize [d5, d4].filter nz = us at E1 E2
    simp [dL, hlt, hrk, e1, hs]
    refine cw bh Cl.kn rfl E1 ?_ ?_
    ·exact Kn.r [0, 1, 2, 3] (by simp [bL, ca, br, dI, co, bQ, cu, L.ren, sZ, i1])
    cases A
    ·rw [Bool.false_or] at hp
     rw [hp] at E2
     simp [sZ]
     refine cw bh Cl.kn rfl E2 ?_ ?_
     ·exact Kn.r [0, 2]
     simp
     exact Kn.r []
    ·simp
     exact Kn.r [])
  (by
   refine ff.stop (by simp) ?_
   simp [dL]
   exact Kn.r [])
 refine aw (fn := jy) rfl ?_
 generalize c3.any (xP c8) = B at E ⊢
 simp [jy]
 refine cw bh Cl.fin rfl E ?_ ?_
 ·exact Kn.r [0]
 cases B <;> simp
end Gi
