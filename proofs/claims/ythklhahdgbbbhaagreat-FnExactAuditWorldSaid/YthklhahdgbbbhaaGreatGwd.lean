/- Of this proof. -/
import Derived.Test.YthklhahdgbbbhaaGreatGua2
import Derived.Test.YthklhahdgbbbhaaGreatGvg
import Derived.Test.YthklhahdgbbbhaaGreatGyb
set_option linter.unusedSimpArgs false
namespace Gi
open Go Go.RowKit
set_option maxHeartbeats 4000000
set_option maxRecDepth 4000
attribute [local simp] bW eM aq am bg bt cF dN Opd.ev put V.cells plain bz hJ isInt isStr isBool bin bf aS aR un asList L.view aB V.view viewL done bC aC aT cj comp bq bZ a8 V.flat L.flat dX dJ bS putAt thaw thawL freezeVs freezeLs freezeL V.mut L.mut bm aZ
theorem NI {c0 : Int} {c1 : Bool} {c2 : Int} {c3 c4 : List (List PV)} {c5 : Int} {c6 c7 c8 c9 : List (List PV)} (h3 : bR (.lst dm) (.lst c3)) {e0 : Int} {e1 e2 : List UInt8} {e3 : Int} {e4 e5 : List (List PV)} {e6 : Int} {e7 : List (List PV)} {e8 : Int} {e9 e10 : Bool} (h1 : e1.length ≤ maxLen) (h2 : e2.length ≤ maxLen) (h4 : bR (.lst iV) (.lst e4)) :
 ∃ b, aa Ph al 118 [.agg [.pv (.int .i64 c0), .pv (.bool c1), .pv (.int .i64 c2), .pv (.lst c3), .pv (.lst c4), .pv (.int .i64 c5), .pv (.lst c6), .pv (.lst c7), .pv (.lst c8), .pv (.lst c9)], .agg [.pv (.int .i64 e0), .pv (.str e1), .pv (.str e2), .pv (.int .i64 e3), .pv (.lst e4), .pv (.lst e5), .pv (.int .i64 e6), .pv (.lst e7), .pv (.int .i64 e8), .pv (.bool e9), .pv (.bool e10)]] = some (aj b) ∧ aa Ph al 117 [.agg [.pv (.int .i64 c0), .pv (.bool c1), .pv (.int .i64 c2), .pv (.lst c3), .pv (.lst c4), .pv (.int .i64 c5), .pv (.lst c6), .pv (.lst c7), .pv (.lst c8), .pv (.lst c9)], .agg [.pv (.int .i64 e0), .pv (.str e1), .pv (.str e2), .pv (.int .i64 e3), .pv (.lst e4), .pv (.lst e5), .pv (.int .i64 e6), .pv (.lst e7), .pv (.int .i64 e8), .pv (.bool e9), .pv (.bool e10)]] = some (aj b) := by
 have f1 := pJ h3 e1 e2
 have i1 := tF (e0 := e0) (e3 := e3) (e5 := e5) (e6 := e6) (e7 := e7) (e8 := e8) (e9 := e9) (e10 := e10) h1 h2 h4
 have i2 := t4 (e0 := e0) (e3 := e3) (e5 := e5) (e6 := e6) (e7 := e7) (e8 := e8) (e9 := e9) (e10 := e10) h1 h2 h4
 generalize tN e0 e1 e2 e3 e4 = ip at i1 i2
 by_cases hn : bN (Ln e1 e2) c3 0 < 0
 ·have e2' := vN (c0 := c0) (c1 := c1) (c2 := c2) (c4 := c4) (c5 := c5) (c6 := c6) (c7 := c7) (c8 := c8) (c9 := c9) h3 hn
  refine ⟨false, aH (fn := dj) rfl ?_, aH (fn := dk) rfl ?_⟩
  ·cases ip <;> simp [dj, e2', i1, Na, thawT]
  ·cases ip <;> simp [dk, f1, i2, hn]
 ·obtain ⟨j, hj, hfi⟩ := mR hn
  have e2' := vO (c0 := c0) (c1 := c1) (c2 := c2) (c4 := c4) (c5 := c5) (c6 := c6) (c7 := c7) (c8 := c8) (c9 := c9) h3 hj hfi
  obtain ⟨d0, d1, d2, d3, d4, d5, d6, d7, d8, d9, d10, d11, d12, d13, d14, d15, d16, d17, d18, d19, d20, d21, d22, d23, hd, _, _, _, _, _, _, hd6, _⟩ := mj ((aD h3).2 _ (List.getElem_mem hj))
  have hneg : ¬ (j : Int) < 0 := by omega
  rw [hfi] at f1
  rw [hd] at e2'
  cases ip with
  | false =>
   refine ⟨false, aH (fn := dj) rfl ?_, aH (fn := dk) rfl ?_⟩
   ·simp [dj, e2', i1, thawT]
   ·simp [dk, f1, i2, hneg]
  | true =>
   have g1 := mU hd6 e3
   have g2 := mY hd6 e3
   by_cases hm : bN (Jr e3) d6 0 < 0
   ·refine ⟨true, aH (fn := dj) rfl ?_, aH (fn := dk) rfl ?_⟩
    ·simp [dj, e2', i1, thawT, g1, hm]
    ·simp [dk, f1, i2, hneg, hj, hd, g2, hm]
   ·obtain ⟨q, hq, hfq⟩ := mR hm
    have hneq : ¬ (q : Int) < 0 := by omega
    rw [hfq] at g1 g2
    obtain ⟨n, es, hce, hes⟩ := jN ((aD hd6).2 _ (List.getElem_mem hq))
    obtain ⟨hl, hr⟩ := aD hes
    refine ⟨!(es.any (xR e1 e3)), aH (fn := dj) rfl ?_, aH (fn := dk) rfl ?_⟩
    ·have LP := KH (e0 := e0) (e1 := e1) (e2 := e2) (e3 := e3) (e4 := e4) (e5 := e5) (e6 := e6) (e7 := e7) (e8 := e8) (e9 := e9) (e10 := e10) (a0 := .box [.pv (.int .i64 c0), .pv (.bool c1), .pv (.int .i64 c2), .pv (.lst c3), .pv (.lst c4), .pv (.int .i64 c5), .pv (.lst c6), .pv (.lst c7), .pv (.lst c8), .pv (.lst c9)]) (a2 := .box [.pv (.str d0), .pv (.str d1), .pv (.str d2), .pv (.int .i64 d3), .pv (.int .i64 d4), .pv (.int .i64 d5), .pv (.lst d6), .pv (.str d7), .pv (.int .i64 d8), .pv (.lst d9), .pv (.lst d10), .pv (.lst d11), .pv (.int .i64 d12), .pv (.str d13), .pv (.lst d14), .pv (.int .i64 d15), .pv (.int .i64 d16), .pv (.int .i64 d17), .pv (.int .i64 d18), .pv (.lst d19), .pv (.int .i64 d20), .pv (.int .i64 d21), .pv (.int .i64 d22), .pv (.bool d23)]) hl hr es.length 0 0 rfl (by omega)
     simp only [List.drop_zero] at LP
     generalize hF : aq (aa Ph al) ah cU = F at LP
     simp [dj, e2', i1, thawT, g1, hneq, hq, hce, hF]
     generalize hσ : St.mk _ _ = σ0
     obtain ⟨e, σ', q1, q3⟩ := (LP _ _ _ _ _ _ _ _ _ _ _ _ _ _ _ _ _ _ _ _ _ _ _ _ _ _ _ _ _ _ _ _ _ _ _ _ _ _ _ _ _ _ _ _ _ _ _ _ _ _ _ _ _ _ _ _ _ _ _ _ _ _ σ0 hσ.symm).get
     rw [q1]
     rcases q3 with ⟨rfl, q4, x0, x1, x2, x4, x5, x6, x7, x8, x9, x10, x11, x12, x13, x14, x15, x16, x17, x18, x19, x20, x21, x22, x23, x24, x25, x26, x27, x28, x29, x30, x31, x32, x33, x34, x35, x36, x37, x38, x42, x43, x44, x45, x46, x47, x48, x49, x50, x51, x52, x53, x54, x55, x56, x57, x58, x59, x60, x61, x62, x63, x64, h', rfl⟩ | ⟨rfl, q4, q5, q7⟩
     ·simp [q4]
     ·obtain ⟨_, q8⟩ := List.getElem?_eq_some_iff.1 q7
      simp [q5, q8, q4]
    ·have LP := KZ (e0 := e0) (e1 := e1) (e2 := e2) (e3 := e3) (e4 := e4) (e5 := e5) (e6 := e6) (e7 := e7) (e8 := e8) (e9 := e9) (e10 := e10) (a0 := .box [.pv (.int .i64 c0), .pv (.bool c1), .pv (.int .i64 c2), .pv (.lst c3), .pv (.lst c4), .pv (.int .i64 c5), .pv (.lst c6), .pv (.lst c7), .pv (.lst c8), .pv (.lst c9)]) hl hr es.length 0 0 rfl (by omega)
     simp only [List.drop_zero] at LP
     generalize hF : aq (aa Ph al) ah cV = F at LP
     simp [dk, f1, i2, hneg, hj, hd, g2, hneq, hq, hce, hF]
     generalize hσ : St.mk _ _ = σ0
     obtain ⟨e, σ', q1, q3⟩ := (LP _ _ _ _ _ _ _ _ _ _ _ _ _ _ _ _ _ _ _ _ _ _ _ _ _ _ _ _ _ _ _ _ _ _ _ _ _ _ _ _ _ _ _ _ _ _ _ _ _ _ _ _ _ _ _ _ _ _ _ _ _ _ _ _ _ _ _ _ _ _ _ _ _ _ _ _ _ _ σ0 hσ.symm).get
     rw [q1]
     rcases q3 with ⟨rfl, q4, x0, x1, x2, x4, x5, x6, x9, x10, x11, x12, x13, x14, x15, x16, x17, x18, x19, x20, x21, x22, x23, x24, x25, x26, x27, x28, x29, x30, x31, x32, x33, x34, x35, x36, x37, x38, x39, x40, x41, x42, x43, x44, x45, x46, x47, x48, x49, x50, x51, x52, x53, x54, x55, x56, x57, x58, x59, x60, x61, x62, x63, x64, x65, x66, x67, x68, x69, x70, x71, x72, x73, x74, x75, x76, x77, x78, x79, x80, rfl⟩ | ⟨rfl, q4, q5, q7⟩
     ·simp [q4]
     ·obtain ⟨_, q8⟩ := List.getElem?_eq_some_iff.1 q7
      simp [q5, q8, q4]
end Gi
namespace Gi
open Go Go.RowKit
set_option maxHeartbeats 4000000
set_option maxRecDepth 4000
attribute [local simp] bW am bg bt cF dN Opd.ev put V.cells plain bz hJ isInt isStr isBool bin bf aS aR un asList L.view aB V.view viewL bC aC aT cj comp bq bZ a8 V.flat L.flat dX dJ bS putAt thaw thawL freezeVs freezeLs freezeL V.mut L.mut bm aZ wp_seq wp_block bE wp_cond wp_skip wp_exit wp_ret cN cE cK cH cS cT cR cq bj L.notArr
def ki (nm f : List UInt8) (v : Int) : Option (List PV) → Bool
 | some [_, _, _, .int _ st, .int _ ver, .lst body, _] => !(st == 200) || (!(ver == v) || !(oN body == some (nT (kA nm f v))))
 | _ => true
def ES (caches : List (List PV)) (nm : List UInt8) (v : Int) : List PV → Bool
 | [.str f] => ki nm f v (n6 caches v nm f)
 | _ => true
def A9 (caches : List (List PV)) (nm : List UInt8) (files : List (List PV)) (v : Int) : Bool := !(files.any (ES caches nm v)) && decide (0 ≤ bN (Jr v) caches 0)
theorem HB {rows : List (List PV)} (h : bR (.lst ir) (.lst rows)) (hz : sz (.lst rows) ≤ 1048576) : ∀ k (hk : k < rows.length), ∃ f : List UInt8, rows[k] = [.str f] ∧ f.length ≤ 1048576 := fun k hk => by
 obtain ⟨s, hs, _⟩ := Pt h _ (List.getElem_mem hk)
 refine ⟨s, hs, ?_⟩
 have := sl (List.getElem_mem hk) hz
 rw [hs] at this
 simp only [gO, sz] at this
 omega
theorem xp {caches : List (List PV)} (h : bR (.lst dK) (.lst caches)) (hz : sz (.lst caches) ≤ 1048576) (v : Int) (s p : List UInt8) :
 (n6 caches v s p = none) ∨ ∃ c0 c1 a b c t d, n6 caches v s p = some [.str c0, .str c1, .int .i64 a, .int .i64 b, .int .i64 c, .lst (aU t), .bool d] ∧ t.length ≤ 1048576 := by
 cases hm : n6 caches v s p with
 | none => exact .inl rfl
 | some r =>
  have hc := Hg h hm
  have hzr : gO r ≤ 1048576 := by
   unfold n6 at hm
   split at hm
   ·rename_i c hf
    have s1 := sl (List.mem_of_find?_eq_some hf) hz
    obtain ⟨n, es, rfl, _⟩ := jN ((aD h).2 _ (List.mem_of_find?_eq_some hf))
    have s2 : sz (.lst es) ≤ 1048576 := by simp only [gO, sz] at s1 ⊢; omega
    exact sl (List.mem_of_find?_eq_some hm) s2
   ·cases hm
  obtain ⟨c0, c1, a, b, c, body, d, rfl, _, _, _, _, _, g5, _⟩ := iW hc
  obtain ⟨t, rfl⟩ := vn (aD g5).2
  refine .inr ⟨c0, c1, a, b, c, t, d, rfl, ?_⟩
  simp only [gO, jH, eO] at hzr
  omega
section
variable {caches : List (List PV)} {nm : List UInt8} {sv : Int} {files : List (List PV)} {sh : Bool} {v : Int}
theorem m9 (h : bR (.lst dK) (.lst caches)) (hz : sz (.lst caches) ≤ 1048576) (hn : nm.length ≤ 1048576) (hf : bR (.lst ir) (.lst files)) (hzf : sz (.lst files) ≤ 1048576) :
 aa Ph al 305 [.agg [.pv (.lst caches)], .agg [.pv (.str nm), .pv (.int .i64 sv), .pv (.lst files), .pv (.bool sh)], ae .i64 v] = some (aj (A9 caches nm files v)) := by
 have hl := (aD hf).1
 have hB := HB hf hzf
 have a1 := mU h v
 have E := iX (call := aa Ph al) bh (c := cZ) rfl (rows := files) (p := ES caches nm v) (e := .exit 0) (er := .ret)
  (S := fun k => ⟨(.one .junk :: .one .junk :: ae .i64 v :: .one (.ptr 0 0 0) :: .one (.ptr 1 0 0) :: J4 (.one .junk :: .one .junk :: .one .junk :: bJ files :: ae .i64 files.length :: ae .i64 k :: bV (bV (J4 (J4 ([])))))), [.box [.pv (.lst caches)], .box [.pv (.str nm), .pv (.int .i64 sv), .pv (.lst files), .pv (.bool sh)]]⟩)
  (R := ⟨(J4 (.one .junk :: .one .junk :: aj false :: bV (bV (bV ([]))))), []⟩) (σe := ⟨(.one .junk :: .one .junk :: ae .i64 v :: .one (.ptr 0 0 0) :: bV (bV (bV (.one .junk :: .one .junk :: .one .junk :: [])))), [.box [.pv (.lst caches)]]⟩)
  (fun k hlt hp => by
   have hw := ag (k := k) (by unfold maxLen at hl; omega)
   obtain ⟨f, hrk, hfl⟩ := hB k hlt
   have m1 := (ln h hz v nm f).1
   have m2 := tC (nm := nm) (path := f) (sv := sv) (fs := files) (sh := sh) (v := v) (by omega) (by omega)
   have hq : ES caches nm v files[k] = ki nm f v (n6 caches v nm f) := by rw [hrk]; rfl
   rw [hq] at hp
   rcases xp h hz v nm f with hm | ⟨c0, c1, a, b, c, t, d, hm, htl⟩
   ·rw [hm] at hp; simp [ki] at hp
   ·rw [hm] at m1 hp
    simp only [ki, ng, Bool.or_eq_false_iff, Bool.not_eq_false', beq_iff_eq, Option.some.injEq] at hp
    obtain ⟨rfl, rfl, h3⟩ := hp
    have m3 := pA (a := t) (b := nT (kA nm f c)) (by unfold maxLen; omega)
    rw [h3] at m3
    simp only [JB] at m1
    rw [h3] at m1
    generalize aU (nT (kA nm f c)) = BB at m1 m2 m3
    refine iy.of ?_
    simp [cZ, hlt, hrk, hw, m1, m2, m3, thawT]
    exact Kn.r [0, 1])
  (fun k hlt hp => by
   obtain ⟨f, hrk, hfl⟩ := hB k hlt
   have m1 := (ln h hz v nm f).1
   have m2 := tC (nm := nm) (path := f) (sv := sv) (fs := files) (sh := sh) (v := v) (by omega) (by omega)
   have hq : ES caches nm v files[k] = ki nm f v (n6 caches v nm f) := by rw [hrk]; rfl
   rw [hq] at hp
   refine ff.stop (by simp) ?_
   rcases xp h hz v nm f with hm | ⟨c0, c1, a, b, c, t, d, hm, htl⟩
   ·rw [hm] at m1
    simp only [JB] at m1
    simp [cZ, hlt, hrk, m1, thawT]
    exact Kn.r []
   ·rw [hm] at m1 hp
    have m3 := pA (a := t) (b := nT (kA nm f v)) (by unfold maxLen; omega)
    simp only [ki, ng] at hp
    simp only [JB] at m1
    generalize hX : (t == nT (kA nm f v)) = X at m3
    have hX2 : (some t == some (nT (kA nm f v))) = X := by rw [← hX]; rfl
    rw [hX2] at hp
    generalize aU (nT (kA nm f v)) = BB at m2 m3
    generalize aU t = TT at m1 m3
    by_cases q1 : b = 200
    ·by_cases q2 : c = v
     ·subst q1 q2
      have q3 : X = false := by simpa using hp
      subst q3
      simp [cZ, hlt, hrk, m1, m2, m3, thawT]
      exact Kn.r []
     ·have q2b : (c != v) = true := by simpa using q2
      simp [cZ, hlt, hrk, m1, q1, q2, q2b, thawT]
      exact Kn.r []
    ·have q1b : (b != 200) = true := by simpa using q1
     simp [cZ, hlt, hrk, m1, q1, q1b, thawT]
     exact Kn.r [])
  (by
   refine ff.stop (by simp) ?_
   simp [cZ]
   exact Kn.r [0])
 refine aw (fn := kl) rfl ?_
 unfold A9
 generalize files.any (ES caches nm v) = B at E ⊢
 generalize bN (Jr v) caches 0 = I at a1 ⊢
 simp [kl]
 refine cw bh Cl.fin rfl E ?_ ?_
 ·exact Kn.r [0, 1]
 cases B <;> simp [a1]
theorem dP (h : bR (.lst dK) (.lst caches)) (hz : sz (.lst caches) ≤ 1048576) (hn : nm.length ≤ 1048576) (hf : bR (.lst ir) (.lst files)) (hzf : sz (.lst files) ≤ 1048576) :
 aa Ph al 304 [.agg [.pv (.lst caches)], .agg [.pv (.str nm), .pv (.int .i64 sv), .pv (.lst files), .pv (.bool sh)], ae .i64 v] = some (aj (A9 caches nm files v)) := by
 have hl := (aD hf).1
 have hB := HB hf hzf
 have a1 := mY h v
 have E := iX (call := aa Ph al) bh (c := da) rfl (rows := files) (p := ES caches nm v) (e := .exit 0) (er := .ret)
  (S := fun k => ⟨(.one .junk :: .one .junk :: ae .i64 v :: .one (.ptr 0 0 0) :: .one (.ptr 1 0 0) :: .one .junk :: .one .junk :: ae .i64 k :: bV (bV (bV (J4 (.one .junk :: []))))), [.box [.pv (.lst caches)], .box [.pv (.str nm), .pv (.int .i64 sv), .pv (.lst files), .pv (.bool sh)]]⟩)
  (R := ⟨(J4 (.one .junk :: .one .junk :: aj false :: bV (bV (bV (J4 (.one .junk :: .one .junk :: [])))))), []⟩) (σe := ⟨(.one .junk :: .one .junk :: ae .i64 v :: .one (.ptr 0 0 0) :: bV (bV (bV (J4 (J4 (.one .junk :: [])))))), [.box [.pv (.lst caches)]]⟩)
  (fun k hlt hp => by
   have hw := ag (k := k) (by unfold maxLen at hl; omega)
   obtain ⟨f, hrk, hfl⟩ := hB k hlt
   have m1 := (ln h hz v nm f).2
   have m2 := tX (nm := nm) (path := f) (sv := sv) (fs := files) (sh := sh) (v := v) (by omega) (by omega)
   have hq : ES caches nm v files[k] = ki nm f v (n6 caches v nm f) := by rw [hrk]; rfl
   rw [hq] at hp
   rcases xp h hz v nm f with hm | ⟨c0, c1, a, b, c, t, d, hm, htl⟩
   ·rw [hm] at hp; simp [ki] at hp
   ·rw [hm] at m1 hp
    simp only [ki, ng, Bool.or_eq_false_iff, Bool.not_eq_false', beq_iff_eq, Option.some.injEq] at hp
    obtain ⟨rfl, rfl, h3⟩ := hp
    have m3 := pI (a := t) (b := nT (kA nm f c))
    rw [h3] at m3
    simp only [JB] at m1
    rw [h3] at m1
    generalize aU (nT (kA nm f c)) = BB at m1 m2 m3
    refine iy.of ?_
    simp [da, hlt, hrk, hw, m1, m2, m3, thawT]
    exact Kn.r [0, 1])
  (fun k hlt hp => by
   obtain ⟨f, hrk, hfl⟩ := hB k hlt
   have m1 := (ln h hz v nm f).2
   have m2 := tX (nm := nm) (path := f) (sv := sv) (fs := files) (sh := sh) (v := v) (by omega) (by omega)
   have hq : ES caches nm v files[k] = ki nm f v (n6 caches v nm f) := by rw [hrk]; rfl
   rw [hq] at hp
   refine ff.stop (by simp) ?_
   rcases xp h hz v nm f with hm | ⟨c0, c1, a, b, c, t, d, hm, htl⟩
   ·rw [hm] at m1
    simp only [JB] at m1
    simp [da, hlt, hrk, m1, thawT]
    exact Kn.r []
   ·rw [hm] at m1 hp
    have m3 := pI (a := t) (b := nT (kA nm f v))
    simp only [ki, ng] at hp
    simp only [JB] at m1
    generalize hX : (t == nT (kA nm f v)) = X at m3
    have hX2 : (some t == some (nT (kA nm f v))) = X := by rw [← hX]; rfl
    rw [hX2] at hp
    generalize aU (nT (kA nm f v)) = BB at m2 m3
    generalize aU t = TT at m1 m3
    by_cases q1 : b = 200
    ·by_cases q2 : c = v
     ·subst q1 q2
      have q3 : X = false := by simpa using hp
      subst q3
      simp [da, hlt, hrk, m1, m2, m3, thawT]
      exact Kn.r []
     ·have q2b : (c != v) = true := by simpa using q2
      simp [da, hlt, hrk, m1, q1, q2, q2b, thawT]
      exact Kn.r []
    ·have q1b : (b != 200) = true := by simpa using q1
     simp [da, hlt, hrk, m1, q1, q1b, thawT]
     exact Kn.r [])
  (by
   refine ff.stop (by simp) ?_
   simp [da]
   exact Kn.r [0])
 refine aw (fn := ku) rfl ?_
 unfold A9
 generalize files.any (ES caches nm v) = B at E ⊢
 generalize bN (Jr v) caches 0 = I at a1 ⊢
 simp [ku]
 refine cw bh Cl.fin rfl E ?_ ?_
 ·exact Kn.r [0, 1]
 cases B <;> simp [a1]
end
end Gi
