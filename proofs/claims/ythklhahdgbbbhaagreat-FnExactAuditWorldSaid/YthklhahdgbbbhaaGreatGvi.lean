/- Of this proof. -/
import Derived.Test.YthklhahdgbbbhaaGreatGxd
import Derived.Test.YthklhahdgbbbhaaGreatGvg
import Derived.Test.YthklhahdgbbbhaaGreatGxa
set_option linter.unusedSimpArgs false
set_option linter.unusedVariables false
namespace Gi
open Go Go.RowKit
set_option maxHeartbeats 4000000
set_option maxRecDepth 4000
attribute [local simp] bW am bg bt cF dN Opd.ev put V.cells plain bz hJ isInt isStr isBool bin bf aS aR un asList L.view aB V.view viewL bC aC aT cj comp bq bZ a8 V.flat L.flat dX dJ bS putAt thaw thawL freezeVs freezeLs freezeL V.mut L.mut bm aZ wp_seq wp_block bE wp_cond wp_skip wp_exit wp_ret cN cE cK cH cS cT cR cq bj L.notArr aY aW aX bH bI
theorem qF {r : List PV} (h : be jR r) : ∃ (c0 : List UInt8) (c1 : List (List PV)) (c2 : Int) (c3 : List (List PV)) (c4 : List (List PV)), r = [.str c0, .lst c1, .int .i64 c2, .lst c3, .lst c4] ∧ bR (.str) (.str c0) ∧ bR (.lst fO) (.lst c1) ∧ bR (.int .i64) (.int .i64 c2) ∧ bR (.lst gc) (.lst c3) ∧ bR (.lst fP) (.lst c4) := by
 obtain ⟨⟨c0, c1, c2, c3, c4, _⟩, rfl, g0, g1, g2, g3, g4, _⟩ := cf h
 exact ⟨c0, c1, c2, c3, c4, rfl, g0, g1, g2, g3, g4⟩
theorem kE {r : List PV} (h : be fP r) : ∃ (c0 : Int) (c1 : Int) (c2 : Int) (c3 : Int) (c4 : List UInt8) (c5 : List UInt8) (c6 : Int), r = [.int .i64 c0, .int .i64 c1, .int .i64 c2, .int .i64 c3, .str c4, .str c5, .int .i64 c6] ∧ bR (.int .i64) (.int .i64 c0) ∧ bR (.int .i64) (.int .i64 c1) ∧ bR (.int .i64) (.int .i64 c2) ∧ bR (.int .i64) (.int .i64 c3) ∧ bR (.str) (.str c4) ∧ bR (.str) (.str c5) ∧ bR (.int .i64) (.int .i64 c6) := by
 obtain ⟨⟨c0, c1, c2, c3, c4, c5, c6, _⟩, rfl, g0, g1, g2, g3, g4, g5, g6, _⟩ := cf h
 exact ⟨c0, c1, c2, c3, c4, c5, c6, rfl, g0, g1, g2, g3, g4, g5, g6⟩
def Bp : List PV → Int
 | .int _ a :: _ => a
 | _ => 0
def PX : List PV → Int
 | _ :: .int _ b :: _ => b
 | _ => 0
def jK (d : Int) (rs : List (List PV)) : Nat := rs.countP (G8 d)
def o7 (rs : List (List PV)) (k : Nat) : Bool := !(PX (rs.getD k []) == 1 + (jK (Bp (rs.getD k [])) (rs.take k) : Int))
def qJ (ws ap : List (List PV)) (r : List PV) : Bool := !(kR (Bp r) ap == (jK (Bp r) ws : Int))
def qn : List PV → Bool
 | [_, _, _, .lst ap, .lst ws] => (List.range ws.length).any (o7 ws) || ap.any (qJ ws ap)
 | _ => false
theorem E0 (d : Int) (rs : List (List PV)) : jK d rs ≤ rs.length := List.countP_le_length
theorem xS {d : Int} {rs : List (List PV)} {k : Nat} (h : k < rs.length) : (jK d (rs.take (k + 1)) : Int) = (jK d (rs.take k) : Int) + cond (G8 d rs[k]) 1 0 := by
 unfold jK
 rw [List.take_succ_eq_append_getElem h, List.countP_append]
 cases hq : G8 d rs[k] <;> simp [hq]
theorem xQ {ws : List (List PV)} {k : Nat} (h : k < ws.length) {c0 c1 : Int} {tl : List PV} (hr : ws[k] = .int .i64 c0 :: .int .i64 c1 :: tl) : o7 ws k = !(c1 == 1 + (jK c0 (ws.take k) : Int)) := by
 unfold o7
 have : ws.getD k [] = ws[k] := by simp [h]
 rw [this, hr]
 rfl
theorem Io {n : Int} (h : -9223372036854775808 ≤ n ∧ n ≤ 9223372036854775807) : Nd n = true := by
 unfold Nd
 simp [h.1, h.2]
def wB (srv : List (List PV)) : AObj := .box [.junk, .junk, .junk, .junk, .junk, .junk, .junk, .junk, .junk, .pv (.lst srv)]
def sB (s0 : List UInt8) (s1 : List (List PV)) (s2 : Int) (s3 ws : List (List PV)) : AObj := .box [.pv (.str s0), .pv (.lst s1), .pv (.int .i64 s2), .pv (.lst s3), .pv (.lst ws)]
section
variable {srv : List (List PV)} {s0 : List UInt8} {s1 : List (List PV)} {s2 : Int} {s3 ws : List (List PV)}
theorem N8 (hl : ws.length ≤ maxLen) (hr : ∀ r ∈ ws, be fP r) {q d : Int} {kk : Nat} (hk : kk < ws.length) {tl : List PV} (hd : ws[kk] = .int .i64 d :: tl) (ht : tl.length = 6) :
 ff (aa Ph al) cX ⟨(.one .junk :: .one (.ptr 0 0 0) :: .one .junk :: ae .i64 q :: .one (.ptr 1 0 0) :: ae .i64 kk :: ae .i64 1 :: ae .i64 0 :: bV (bV (bV (bV (bV (J4 (J4 (.one .junk :: [])))))))), [wB srv, sB s0 s1 s2 s3 ws]⟩ (.exit 4) ⟨(.one .junk :: .one (.ptr 0 0 0) :: .one .junk :: ae .i64 q :: .one (.ptr 1 0 0) :: ae .i64 kk :: ae .i64 (1 + (jK d (ws.take kk) : Int)) :: bV (bV (bV (bV (bV (J4 (J4 (.one .junk :: .one .junk :: [])))))))), [wB srv, sB s0 s1 s2 s3 ws]⟩ := by
 have E := kj (call := aa Ph al) bh (c := cX) rfl (n := kk) (e := .exit 4)
  (S := fun k => ⟨(.one .junk :: .one (.ptr 0 0 0) :: .one .junk :: ae .i64 q :: .one (.ptr 1 0 0) :: ae .i64 kk :: ae .i64 (1 + (jK d (ws.take k) : Int)) :: ae .i64 k :: bV (bV (bV (bV (bV (J4 (J4 (.one .junk :: [])))))))), [wB srv, sB s0 s1 s2 s3 ws]⟩)
  (σe := ⟨(.one .junk :: .one (.ptr 0 0 0) :: .one .junk :: ae .i64 q :: .one (.ptr 1 0 0) :: ae .i64 kk :: ae .i64 (1 + (jK d (ws.take kk) : Int)) :: bV (bV (bV (bV (bV (J4 (J4 (.one .junk :: .one .junk :: [])))))))), [wB srv, sB s0 s1 s2 s3 ws]⟩)
  (fun k hkk => by
   have hlt : k < ws.length := by omega
   have hw := ag (k := k) (by unfold maxLen at hl; omega)
   obtain ⟨c0, c1, c2, c3, c4, c5, c6, hrk, _⟩ := kE (hr _ (List.getElem_mem hlt))
   have hcl : (jK d (ws.take k) : Int) ≤ k := by
    have h1 := E0 d (ws.take k)
    simp at h1
    omega
   have hwa : IntKind.i64.wrap (1 + (jK d (ws.take k) : Int) + 1) = 1 + (jK d (ws.take k) : Int) + 1 := by rw [IntKind.wrap_i64]; unfold maxLen at hl; omega
   have hcn := xS (d := d) hlt
   have hq : G8 d ws[k] = (c0 == d) := by rw [hrk]; rfl
   rw [hq] at hcn
   refine iy.of ?_
   cases c : (c0 == d)
   ·simp only [c, cond_false, Int.add_zero] at hcn
    simp [cX, wB, sB, hlt, hkk, hk, hw, hwa, hrk, hd, ht, c]
    exact Kn.of [0, 1] (by decide) (by simp [aY, aW, aX, bH, bI, bL, ca, br, dI, co, bQ, cu, L.ren, aA]) (by simp [aY, aW, aX, bH, bI, bL, ca, br, dI, co, bQ, cu, L.ren, aA, hcn])
   ·simp only [c, cond_true] at hcn
    simp [cX, wB, sB, hlt, hkk, hk, hw, hwa, hrk, hd, ht, c]
    exact Kn.of [0, 1] (by decide) (by simp [aY, aW, aX, bH, bI, bL, ca, br, dI, co, bQ, cu, L.ren, aA]) (by simp [aY, aW, aX, bH, bI, bL, ca, br, dI, co, bQ, cu, L.ren, aA, hcn]; omega))
  (by
   refine ff.stop (by simp) ?_
   simp [cX, wB, sB]
   exact Kn.q [0, 1])
 simpa [jK] using E
theorem Oa (hl : ws.length ≤ maxLen) (hr : ∀ r ∈ ws, be fP r) {q d : Int} {kk : Nat} (hk : kk < s3.length) {tl : List PV} (hd : s3[kk] = .int .i64 d :: tl) (ht : tl.length = 1) :
 ff (aa Ph al) dV ⟨(.one .junk :: .one (.ptr 0 0 0) :: .one .junk :: ae .i64 q :: .one (.ptr 1 0 0) :: .one .junk :: .one .junk :: .one .junk :: ae .i64 kk :: ae .i64 0 :: ae .i64 0 :: bV (bV (bV (bV (bV (J4 (.one .junk :: .one .junk :: []))))))), [wB srv, sB s0 s1 s2 s3 ws]⟩ (.exit 8) ⟨(.one .junk :: .one (.ptr 0 0 0) :: .one .junk :: ae .i64 q :: .one (.ptr 1 0 0) :: .one .junk :: .one .junk :: .one .junk :: ae .i64 kk :: ae .i64 (jK d ws : Int) :: bV (bV (bV (bV (bV (J4 (.one .junk :: .one .junk :: .one .junk :: []))))))), [wB srv, sB s0 s1 s2 s3 ws]⟩ := by
 have E := kj (call := aa Ph al) bh (c := dV) rfl (n := ws.length) (e := .exit 8)
  (S := fun k => ⟨(.one .junk :: .one (.ptr 0 0 0) :: .one .junk :: ae .i64 q :: .one (.ptr 1 0 0) :: .one .junk :: .one .junk :: .one .junk :: ae .i64 kk :: ae .i64 (jK d (ws.take k) : Int) :: ae .i64 k :: bV (bV (bV (bV (bV (J4 (.one .junk :: .one .junk :: []))))))), [wB srv, sB s0 s1 s2 s3 ws]⟩)
  (σe := ⟨(.one .junk :: .one (.ptr 0 0 0) :: .one .junk :: ae .i64 q :: .one (.ptr 1 0 0) :: .one .junk :: .one .junk :: .one .junk :: ae .i64 kk :: ae .i64 (jK d ws : Int) :: bV (bV (bV (bV (bV (J4 (.one .junk :: .one .junk :: .one .junk :: []))))))), [wB srv, sB s0 s1 s2 s3 ws]⟩)
  (fun k hlt => by
   have hw := ag (k := k) (by unfold maxLen at hl; omega)
   obtain ⟨c0, c1, c2, c3, c4, c5, c6, hrk, _⟩ := kE (hr _ (List.getElem_mem hlt))
   have hcl : (jK d (ws.take k) : Int) ≤ k := by
    have h1 := E0 d (ws.take k)
    simp at h1
    omega
   have hwa : IntKind.i64.wrap ((jK d (ws.take k) : Int) + 1) = (jK d (ws.take k) : Int) + 1 := by rw [IntKind.wrap_i64]; unfold maxLen at hl; omega
   have hcn := xS (d := d) hlt
   have hq : G8 d ws[k] = (c0 == d) := by rw [hrk]; rfl
   rw [hq] at hcn
   refine iy.of ?_
   cases c : (c0 == d)
   ·simp only [c, cond_false, Int.add_zero] at hcn
    simp [dV, wB, sB, hlt, hk, hw, hwa, hrk, hd, ht, c]
    exact Kn.of [0, 1] (by decide) (by simp [aY, aW, aX, bH, bI, bL, ca, br, dI, co, bQ, cu, L.ren, aA]) (by simp [aY, aW, aX, bH, bI, bL, ca, br, dI, co, bQ, cu, L.ren, aA, hcn])
   ·simp only [c, cond_true] at hcn
    simp [dV, wB, sB, hlt, hk, hw, hwa, hrk, hd, ht, c]
    exact Kn.of [0, 1] (by decide) (by simp [aY, aW, aX, bH, bI, bL, ca, br, dI, co, bQ, cu, L.ren, aA]) (by simp [aY, aW, aX, bH, bI, bL, ca, br, dI, co, bQ, cu, L.ren, aA, hcn]))
  (by
   refine ff.stop (by simp) ?_
   simp [dV, wB, sB]
   exact Kn.q [0, 1])
 simpa [jK] using E
theorem N9 (hl : ws.length ≤ maxLen) (hr : ∀ r ∈ ws, be fP r) {q : Int} :
 ff (aa Ph al) dr ⟨(.one .junk :: .one (.ptr 0 0 0) :: .one .junk :: ae .i64 q :: .one (.ptr 1 0 0) :: ae .i64 0 :: bV (bV (bV (bV (bV (J4 (J4 (.one .junk :: .one .junk :: .one .junk :: [])))))))), [wB srv, sB s0 s1 s2 s3 ws]⟩ (cond ((List.range ws.length).any (o7 ws)) .ret (.exit 2)) (cond ((List.range ws.length).any (o7 ws)) ⟨(.one .junk :: .one .junk :: aj false :: bV (bV (bV (bV (bV (J4 (J4 (J4 (.one .junk :: .one .junk :: []))))))))), []⟩ ⟨(.one .junk :: .one (.ptr 0 0 0) :: .one .junk :: ae .i64 q :: .one (.ptr 1 0 0) :: bV (bV (bV (bV (bV (J4 (J4 (J4 ([]))))))))), [wB srv, sB s0 s1 s2 s3 ws]⟩) := by
 have at' : ∀ {k : Nat} (hk : k < (List.range ws.length).length), k < ws.length ∧ (List.range ws.length)[k] = k := fun {k} hk => ⟨by simpa using hk, by simp⟩
 have E := iX (call := aa Ph al) bh (c := dr) rfl (rows := List.range ws.length) (p := o7 ws) (e := .exit 2) (er := .ret)
  (S := fun k => ⟨(.one .junk :: .one (.ptr 0 0 0) :: .one .junk :: ae .i64 q :: .one (.ptr 1 0 0) :: ae .i64 k :: bV (bV (bV (bV (bV (J4 (J4 (.one .junk :: .one .junk :: .one .junk :: [])))))))), [wB srv, sB s0 s1 s2 s3 ws]⟩)
  (R := ⟨(.one .junk :: .one .junk :: aj false :: bV (bV (bV (bV (bV (J4 (J4 (J4 (.one .junk :: .one .junk :: []))))))))), []⟩) (σe := ⟨(.one .junk :: .one (.ptr 0 0 0) :: .one .junk :: ae .i64 q :: .one (.ptr 1 0 0) :: bV (bV (bV (bV (bV (J4 (J4 (J4 ([]))))))))), [wB srv, sB s0 s1 s2 s3 ws]⟩)
  (fun k hk hp => by
   obtain ⟨hlt, he⟩ := at' hk
   rw [he] at hp
   have hw := ag (k := k) (by unfold maxLen at hl; omega)
   obtain ⟨c0, c1, c2, c3, c4, c5, c6, hrk, _⟩ := kE (hr _ (List.getElem_mem hlt))
   rw [xQ hlt hrk] at hp
   have hc : (c1 == 1 + (jK c0 (ws.take k) : Int)) = true := by simpa using hp
   refine iy.of ?_
   simp [dr, wB, sB, hlt]
   refine cw bh Cl.kn rfl (N8 (srv := srv) (s0 := s0) (s1 := s1) (s2 := s2) (s3 := s3) (q := q) hl hr hlt hrk rfl) ?_ ?_
   ·exact Kn.q [0, 1] (by simp [aY, aW, aX, bH, bI, bL, ca, br, dI, co, bQ, cu, L.ren, aA, wB, sB])
   generalize 1 + (jK c0 (ws.take k) : Int) = N at hc ⊢
   have hc' : c1 = N := by simpa using hc
   simp [wB, sB, hlt, hrk, hw, hc']
   exact Kn.q [0, 1])
  (fun k hk hp => by
   obtain ⟨hlt, he⟩ := at' hk
   rw [he] at hp
   obtain ⟨c0, c1, c2, c3, c4, c5, c6, hrk, _⟩ := kE (hr _ (List.getElem_mem hlt))
   rw [xQ hlt hrk] at hp
   have hc : (c1 == 1 + (jK c0 (ws.take k) : Int)) = false := by simpa using hp
   refine ff.stop (by simp) ?_
   simp [dr, wB, sB, hlt]
   refine cw bh Cl.kn rfl (N8 (srv := srv) (s0 := s0) (s1 := s1) (s2 := s2) (s3 := s3) (q := q) hl hr hlt hrk rfl) ?_ ?_
   ·exact Kn.q [0, 1] (by simp [aY, aW, aX, bH, bI, bL, ca, br, dI, co, bQ, cu, L.ren, aA, wB, sB])
   generalize 1 + (jK c0 (ws.take k) : Int) = N at hc ⊢
   have hc' : ¬ c1 = N := by simpa using hc
   simp [wB, sB, hlt, hrk, hc']
   exact Kn.q [])
  (by
   refine ff.stop (by simp) ?_
   simp [dr, wB, sB]
   exact Kn.q [0, 1])
 exact E
theorem Ob (hl : ws.length ≤ maxLen) (hr : ∀ r ∈ ws, be fP r) (h3 : bR (.lst gc) (.lst s3)) {q : Int} :
 ff (aa Ph al) fc ⟨(.one .junk :: .one (.ptr 0 0 0) :: .one .junk :: ae .i64 q :: .one (.ptr 1 0 0) :: .one .junk :: .one .junk :: .one .junk :: ae .i64 0 :: bV (bV (bV (bV (bV (J4 (J4 ([])))))))), [wB srv, sB s0 s1 s2 s3 ws]⟩ (cond (s3.any (qJ ws s3)) .ret (.exit 6)) (cond (s3.any (qJ ws s3)) ⟨(.one .junk :: .one .junk :: aj false :: bV (bV (bV (bV (bV (J4 (J4 (J4 (.one .junk :: .one .junk :: []))))))))), []⟩ ⟨(.one .junk :: .one (.ptr 0 0 0) :: .one .junk :: ae .i64 q :: bV (bV (bV (bV (bV (J4 (J4 (J4 (.one .junk :: []))))))))), [wB srv]⟩) := by
 obtain ⟨hl3, hr3⟩ := aD h3
 have E := iX (call := aa Ph al) bh (c := fc) rfl (rows := s3) (p := qJ ws s3) (e := .exit 6) (er := .ret)
  (S := fun k => ⟨(.one .junk :: .one (.ptr 0 0 0) :: .one .junk :: ae .i64 q :: .one (.ptr 1 0 0) :: .one .junk :: .one .junk :: .one .junk :: ae .i64 k :: bV (bV (bV (bV (bV (J4 (J4 ([])))))))), [wB srv, sB s0 s1 s2 s3 ws]⟩)
  (R := ⟨(.one .junk :: .one .junk :: aj false :: bV (bV (bV (bV (bV (J4 (J4 (J4 (.one .junk :: .one .junk :: []))))))))), []⟩) (σe := ⟨(.one .junk :: .one (.ptr 0 0 0) :: .one .junk :: ae .i64 q :: bV (bV (bV (bV (bV (J4 (J4 (J4 (.one .junk :: []))))))))), [wB srv]⟩)
  (fun k hlt hp => by
   have hw := ag (k := k) (by unfold maxLen at hl3; omega)
   obtain ⟨c0, c1, hrk⟩ := lX (hr3 _ (List.getElem_mem hlt))
   have hb : qJ ws s3 s3[k] = !(kR c0 s3 == (jK c0 ws : Int)) := by rw [hrk]; rfl
   have e1 := sW (s0 := s0) (s1 := s1) (s2 := s2) (s4 := ws) h3 c0
   rw [hb] at hp
   have hc : (kR c0 s3 == (jK c0 ws : Int)) = true := by simpa using hp
   refine iy.of ?_
   simp [fc, wB, sB, hlt]
   refine cw bh Cl.kn rfl (Oa (srv := srv) (s0 := s0) (s1 := s1) (s2 := s2) (s3 := s3) (q := q) hl hr hlt hrk rfl) ?_ ?_
   ·exact Kn.q [0, 1] (by simp [aY, aW, aX, bH, bI, bL, ca, br, dI, co, bQ, cu, L.ren, aA, wB, sB])
   generalize kR c0 s3 = N' at hc e1 ⊢
   generalize (jK c0 ws : Int) = N at hc ⊢
   have hc' : N' = N := by simpa using hc
   simp [wB, sB, hlt, hrk, hw, hc', e1]
   exact Kn.q [0, 1])
  (fun k hlt hp => by
   obtain ⟨c0, c1, hrk⟩ := lX (hr3 _ (List.getElem_mem hlt))
   have hb : qJ ws s3 s3[k] = !(kR c0 s3 == (jK c0 ws : Int)) := by rw [hrk]; rfl
   have e1 := sW (s0 := s0) (s1 := s1) (s2 := s2) (s4 := ws) h3 c0
   rw [hb] at hp
   have hc : (kR c0 s3 == (jK c0 ws : Int)) = false := by simpa using hp
   refine ff.stop (by simp) ?_
   simp [fc, wB, sB, hlt]
   refine cw bh Cl.kn rfl (Oa (srv := srv) (s0 := s0) (s1 := s1) (s2 := s2) (s3 := s3) (q := q) hl hr hlt hrk rfl) ?_ ?_
   ·exact Kn.q [0, 1] (by simp [aY, aW, aX, bH, bI, bL, ca, br, dI, co, bQ, cu, L.ren, aA, wB, sB])
   generalize kR c0 s3 = N' at hc e1 ⊢
   generalize (jK c0 ws : Int) = N at hc ⊢
   have hc' : ¬ N' = N := by simpa using hc
   simp [wB, sB, hlt, hrk, hc', e1]
   exact Kn.q [])
  (by
   refine ff.stop (by simp) ?_
   simp [fc, wB, sB]
   exact Kn.q [0])
 exact E
end
theorem wg {c0 : Int} {c1 : Bool} {c2 : Int} {c3 c4 : List (List PV)} {c5 : Int} {c6 c7 c8 c9 : List (List PV)} (h9 : bR (.lst jR) (.lst c9)) : aa Ph al 115 [.agg [.pv (.int .i64 c0), .pv (.bool c1), .pv (.int .i64 c2), .pv (.lst c3), .pv (.lst c4), .pv (.int .i64 c5), .pv (.lst c6), .pv (.lst c7), .pv (.lst c8), .pv (.lst c9)]] = some (aj (!(c9.any qn))) := by
 obtain ⟨hl, hr⟩ := aD h9
 have E := iX (call := aa Ph al) bh (c := gx) rfl (rows := c9) (p := qn) (e := .exit 0) (er := .ret)
  (S := fun k => ⟨(.one .junk :: .one (.ptr 0 0 0) :: .one .junk :: ae .i64 k :: bV (bV (bV (bV (bV (J4 (J4 (J4 (.one .junk :: []))))))))), [wB c9]⟩)
  (R := ⟨(.one .junk :: .one .junk :: aj false :: bV (bV (bV (bV (bV (J4 (J4 (J4 (.one .junk :: .one .junk :: []))))))))), []⟩) (σe := ⟨(bV (bV (bV (bV (bV (bV (.one .junk :: []))))))), []⟩)
  (fun k hlt hp => by
   have hw := ag (k := k) (by unfold maxLen at hl; omega)
   obtain ⟨s0, s1, s2, s3, s4, hrk, g0, g1, g2, g3, g4⟩ := qF (hr _ (List.getElem_mem hlt))
   obtain ⟨hl4, hr4⟩ := aD g4
   have hb : qn c9[k] = ((List.range s4.length).any (o7 s4) || s3.any (qJ s4 s3)) := by rw [hrk]; rfl
   rw [hb, Bool.or_eq_false_iff] at hp
   have E1 := N9 (srv := c9) (s0 := s0) (s1 := s1) (s2 := s2) (s3 := s3) (q := (k : Int)) hl4 hr4
   have E3 := Ob (srv := c9) (s0 := s0) (s1 := s1) (s2 := s2) (q := (k : Int)) hl4 hr4 g3
   rw [hp.1] at E1
   rw [hp.2] at E3
   refine iy.of ?_
   simp [gx, wB, hlt, hrk]
   refine cw bh Cl.kn rfl E1 ?_ ?_
   ·exact Kn.q [0, 1] (by simp [aY, aW, aX, bH, bI, bL, ca, br, dI, co, bQ, cu, L.ren, aA, wB, sB])
   simp
   refine cw bh Cl.kn rfl E3 ?_ ?_
   ·exact Kn.q [0, 1] (by simp [aY, aW, aX, bH, bI, bL, ca, br, dI, co, bQ, cu, L.ren, aA, wB, sB])
   simp [hw]
   exact Kn.q [0] (by simp [aY, aW, aX, bH, bI, bL, ca, br, dI, co, bQ, cu, L.ren, aA, wB]))
  (fun k hlt hp => by
   obtain ⟨s0, s1, s2, s3, s4, hrk, g0, g1, g2, g3, g4⟩ := qF (hr _ (List.getElem_mem hlt))
   obtain ⟨hl4, hr4⟩ := aD g4
   have hb : qn c9[k] = ((List.range s4.length).any (o7 s4) || s3.any (qJ s4 s3)) := by rw [hrk]; rfl
   rw [hb] at hp
   have E1 := N9 (srv := c9) (s0 := s0) (s1 := s1) (s2 := s2) (s3 := s3) (q := (k : Int)) hl4 hr4
   have E3 := Ob (srv := c9) (s0 := s0) (s1 := s1) (s2 := s2) (q := (k : Int)) hl4 hr4 g3
   refine ff.stop (by simp) ?_
   simp [gx, wB, hlt, hrk]
   refine cw bh Cl.kn rfl E1 ?_ ?_
   ·exact Kn.q [0, 1] (by simp [aY, aW, aX, bH, bI, bL, ca, br, dI, co, bQ, cu, L.ren, aA, wB, sB])
   cases c : (List.range s4.length).any (o7 s4)
   ·rw [c, Bool.false_or] at hp
    rw [hp] at E3
    simp
    refine cw bh Cl.kn rfl E3 ?_ ?_
    ·exact Kn.q [0, 1] (by simp [aY, aW, aX, bH, bI, bL, ca, br, dI, co, bQ, cu, L.ren, aA, wB, sB])
    simp
    exact Kn.q []
   ·simp
    exact Kn.q [])
  (by
   refine ff.stop (by simp) ?_
   simp [gx, wB]
   exact Kn.q [])
 refine aw (fn := mP) rfl ?_
 simp [mP]
 refine cw bh Cl.fin rfl E ?_ ?_
 ·exact Kn.q [0] (by simp [aY, aW, aX, bH, bI, bL, ca, br, dI, co, bQ, cu, L.ren, aA, wB])
 cases c9.any qn <;> simp
def qZ (ws : List (List PV)) : Nat → List (Int × Int)
 | 0 => []
 | k + 1 => (Bp (ws.getD k []), 1 + (jK (Bp (ws.getD k [])) (ws.take k) : Int)) :: qZ ws k
theorem Ct (ws : List (List PV)) : ∀ k, (qZ ws k).length = k
 | 0 => rfl
 | k + 1 => by simp [qZ, Ct ws k]
theorem zf {ws : List (List PV)} (hd : ∀ k (h : k < ws.length), ∃ d tl, ws[k] = .int .i64 d :: tl) : ∀ k, k ≤ ws.length → ∀ e, vV (qZ ws k) e = (jK e (ws.take k) : Int)
 | 0, _, e => by simp [qZ, vV, jK]
 | k + 1, hk, e => by
  have h : k < ws.length := by omega
  obtain ⟨d, tl, hr⟩ := hd k h
  have hg : ws.getD k [] = ws[k] := by simp [h]
  rw [xS h, hr]
  simp only [qZ, vV, hg, hr, Bp, G8]
  have ih := zf hd k (by omega) e
  by_cases c : e = d
  ·subst c
   simp
   omega
  ·have c' : (d == e) = false := by simp; exact fun x => c x.symm
   simp [c, c', ih]
section
variable {srv : List (List PV)} {s0 : List UInt8} {s1 : List (List PV)} {s2 : Int} {s3 ws : List (List PV)}
theorem N3 (hl : ws.length ≤ 1048576) (hr : ∀ r ∈ ws, be fP r) {q n : Int} :
 ff (aa Ph al) dS ⟨(J4 (.one (.ptr 0 0 0) :: .one (.mp 1) :: J4 (.one .junk :: bJ srv :: ae .i64 n :: ae .i64 q :: J4 (.one .junk :: bJ ws :: ae .i64 ws.length :: ae .i64 0 :: bV (bV (.one .junk :: .one .junk :: [])))))), [sB s0 s1 s2 s3 ws, .imap []]⟩ (cond ((List.range ws.length).any (o7 ws)) .ret (.exit 2)) (cond ((List.range ws.length).any (o7 ws)) ⟨(.one .junk :: .one .junk :: aj false :: bV (bV (bV (J4 (.one .junk :: []))))), []⟩ ⟨(J4 (.one (.ptr 0 0 0) :: .one (.mp 1) :: J4 (.one .junk :: bJ srv :: ae .i64 n :: ae .i64 q :: bV (bV (J4 (J4 (.one .junk :: .one .junk :: []))))))), [sB s0 s1 s2 s3 ws, .imap (qZ ws ws.length)]⟩) := by
 have at' : ∀ {k : Nat} (hk : k < (List.range ws.length).length), k < ws.length ∧ (List.range ws.length)[k] = k := fun {k} hk => ⟨by simpa using hk, by simp⟩
 have hds : ∀ k (h : k < ws.length), ∃ d tl, ws[k] = .int .i64 d :: tl := fun k h => by
  obtain ⟨c0, c1, c2, c3, c4, c5, c6, hrk, _⟩ := kE (hr _ (List.getElem_mem h))
  exact ⟨_, _, hrk⟩
 have hB : ∀ k (hlt : k < ws.length) (b : Bool), o7 ws k = b → ∃ c0 c1 c2 c3 c4 c5 c6 N, ws[k] = [.int .i64 c0, .int .i64 c1, .int .i64 c2, .int .i64 c3, .str c4, .str c5, .int .i64 c6] ∧ (b = !(c1 == 1 + N)) ∧ vV (qZ ws k) c0 = N ∧ Nd c0 = true ∧ Nd (1 + N) = true ∧ IntKind.i64.wrap (N + 1) = 1 + N ∧ qZ ws (k + 1) = (c0, 1 + N) :: qZ ws k := fun k hlt b hb => by
  obtain ⟨c0, c1, c2, c3, c4, c5, c6, hrk, g0, _⟩ := kE (hr _ (List.getElem_mem hlt))
  have hcl : (jK c0 (ws.take k) : Int) ≤ k := by
   have h1 := E0 c0 (ws.take k)
   simp at h1
   omega
  refine ⟨c0, c1, c2, c3, c4, c5, c6, (jK c0 (ws.take k) : Int), hrk, ?_, zf hds k (by omega) c0, Io (Em g0), Io (by omega), by rw [IntKind.wrap_i64]; omega, ?_⟩
  ·rw [← hb, xQ hlt hrk]
  ·have hg : ws.getD k [] = ws[k] := by simp [hlt]
   simp only [qZ, hg, hrk, Bp]
 have E := iX (call := aa Ph al) bh (c := dS) rfl (rows := List.range ws.length) (p := o7 ws) (e := .exit 2) (er := .ret)
  (S := fun k => ⟨(J4 (.one (.ptr 0 0 0) :: .one (.mp 1) :: J4 (.one .junk :: bJ srv :: ae .i64 n :: ae .i64 q :: J4 (.one .junk :: bJ ws :: ae .i64 ws.length :: ae .i64 k :: bV (bV (.one .junk :: .one .junk :: [])))))), [sB s0 s1 s2 s3 ws, .imap (qZ ws k)]⟩)
  (R := ⟨(.one .junk :: .one .junk :: aj false :: bV (bV (bV (J4 (.one .junk :: []))))), []⟩) (σe := ⟨(J4 (.one (.ptr 0 0 0) :: .one (.mp 1) :: J4 (.one .junk :: bJ srv :: ae .i64 n :: ae .i64 q :: bV (bV (J4 (J4 (.one .junk :: .one .junk :: []))))))), [sB s0 s1 s2 s3 ws, .imap (qZ ws ws.length)]⟩)
  (fun k hk hp => by
   obtain ⟨hlt, he⟩ := at' hk
   rw [he] at hp
   have hw := ag (k := k) (by omega)
   obtain ⟨c0, c1, c2, c3, c4, c5, c6, N, hrk, hc, hlk, hi0, hi1, hwn, hkv⟩ := hB k hlt _ hp
   have hlen : (qZ ws k).length < 9223372036854775806 := by rw [Ct]; omega
   have hc' : c1 = 1 + N := by simpa using hc.symm
   refine iy.of ?_
   rw [hkv]
   generalize qZ ws k = kv at hlk hlen
   simp [dS, sB, hlt, hrk, hlk, hi0, hi1, hwn, hlen, hw, hc', vV]
   exact Kn.q [0, 1])
  (fun k hk hp => by
   obtain ⟨hlt, he⟩ := at' hk
   rw [he] at hp
   obtain ⟨c0, c1, c2, c3, c4, c5, c6, N, hrk, hc, hlk, hi0, hi1, hwn, hkv⟩ := hB k hlt _ hp
   have hlen : (qZ ws k).length < 9223372036854775806 := by rw [Ct]; omega
   have hc' : ¬ c1 = 1 + N := by simpa using hc.symm
   refine ff.stop (by simp) ?_
   generalize qZ ws k = kv at hlk hlen
   simp [dS, sB, hlt, hrk, hlk, hi0, hi1, hwn, hlen, hc', vV]
   exact Kn.q [])
  (by
   refine ff.stop (by simp) ?_
   simp [dS]
   exact Kn.q [0, 1] (by simp [aY, aW, aX, bH, bI, bL, ca, br, dI, co, bQ, cu, L.ren, aA, sB]))
 exact E
theorem N4 (hl : ws.length ≤ 1048576) (hr : ∀ r ∈ ws, be fP r) (h3 : bR (.lst gc) (.lst s3)) {q n : Int} :
 ff (aa Ph al) fa ⟨(J4 (.one (.ptr 0 0 0) :: .one (.mp 1) :: J4 (.one .junk :: bJ srv :: ae .i64 n :: ae .i64 q :: bV (J4 (J4 (.one .junk :: bJ s3 :: ae .i64 s3.length :: ae .i64 0 :: J4 (J4 (J4 (.one .junk :: .one .junk :: []))))))))), [sB s0 s1 s2 s3 ws, .imap (qZ ws ws.length)]⟩ (cond (s3.any (qJ ws s3)) .ret (.exit 4)) (cond (s3.any (qJ ws s3)) ⟨(.one .junk :: .one .junk :: aj false :: bV (bV (bV (J4 (.one .junk :: []))))), []⟩ ⟨(J4 (J4 (.one .junk :: .one .junk :: .one .junk :: bJ srv :: ae .i64 n :: ae .i64 q :: bV (bV (J4 (J4 (.one .junk :: .one .junk :: []))))))), []⟩) := by
 obtain ⟨hl3, hr3⟩ := aD h3
 have hds : ∀ k (h : k < ws.length), ∃ d tl, ws[k] = .int .i64 d :: tl := fun k h => by
  obtain ⟨c0, c1, c2, c3, c4, c5, c6, hrk, _⟩ := kE (hr _ (List.getElem_mem h))
  exact ⟨_, _, hrk⟩
 have hlook : ∀ e, vV (qZ ws ws.length) e = (jK e ws : Int) := fun e => by
  have := zf hds ws.length (Nat.le_refl _) e
  simpa using this
 generalize qZ ws ws.length = kv at hlook
 have hB : ∀ k (hlt : k < s3.length) (b : Bool), qJ ws s3 s3[k] = b → ∃ c0 c1 N N', s3[k] = [.int .i64 c0, .int .i64 c1] ∧ (b = !(N' == N)) ∧ vV kv c0 = N ∧ Nd c0 = true ∧ aa Ph al 148 [.agg [.pv (.str s0), .pv (.lst s1), .pv (.int .i64 s2), .pv (.lst s3), .pv (.lst ws)], ae .i64 c0] = some (ae .i64 N') := fun k hlt b hb => by
  obtain ⟨p0, r1, hp, g0, _⟩ := iQ (hr3 _ (List.getElem_mem hlt))
  obtain ⟨c0, c1, hrk⟩ := lX (hr3 _ (List.getElem_mem hlt))
  refine ⟨c0, c1, (jK c0 ws : Int), kR c0 s3, hrk, ?_, hlook c0, ?_, AX h3 c0⟩
  ·rw [← hb, hrk]; rfl
  ·rw [hrk] at hp
   cases hp
   exact Io (Em g0)
 have E := iX (call := aa Ph al) bh (c := fa) rfl (rows := s3) (p := qJ ws s3) (e := .exit 4) (er := .ret)
  (S := fun k => ⟨(J4 (.one (.ptr 0 0 0) :: .one (.mp 1) :: J4 (.one .junk :: bJ srv :: ae .i64 n :: ae .i64 q :: bV (J4 (J4 (.one .junk :: bJ s3 :: ae .i64 s3.length :: ae .i64 k :: J4 (J4 (J4 (.one .junk :: .one .junk :: []))))))))), [sB s0 s1 s2 s3 ws, .imap kv]⟩)
  (R := ⟨(.one .junk :: .one .junk :: aj false :: bV (bV (bV (J4 (.one .junk :: []))))), []⟩) (σe := ⟨(J4 (J4 (.one .junk :: .one .junk :: .one .junk :: bJ srv :: ae .i64 n :: ae .i64 q :: bV (bV (J4 (J4 (.one .junk :: .one .junk :: []))))))), []⟩)
  (fun k hlt hp => by
   have hw := ag (k := k) (by unfold maxLen at hl3; omega)
   obtain ⟨c0, c1, N, N', hrk, hc, hlk, hi0, e1⟩ := hB k hlt _ hp
   have hc' : N' = N := by simpa using hc.symm
   refine iy.of ?_
   simp [fa, sB, hlt, hrk, hlk, hi0, hw, hc', e1]
   exact Kn.q [0, 1])
  (fun k hlt hp => by
   obtain ⟨c0, c1, N, N', hrk, hc, hlk, hi0, e1⟩ := hB k hlt _ hp
   have hc' : ¬ N = N' := fun x => absurd hc (by simp [x])
   refine ff.stop (by simp) ?_
   simp [fa, sB, hlt, hrk, hlk, hi0, hc', e1]
   exact Kn.q [])
  (by
   refine ff.stop (by simp) ?_
   simp [fa]
   exact Kn.q [] (by simp [aY, aW, aX, bH, bI, bL, ca, br, dI, co, bQ, cu, L.ren, aA, sB]))
 exact E
end
theorem vM {c0 : Int} {c1 : Bool} {c2 : Int} {c3 c4 : List (List PV)} {c5 : Int} {c6 c7 c8 c9 : List (List PV)} (h9 : bR (.lst jR) (.lst c9)) (hz : sz (.lst c9) ≤ 1048576) : aa Ph al 116 [.agg [.pv (.int .i64 c0), .pv (.bool c1), .pv (.int .i64 c2), .pv (.lst c3), .pv (.lst c4), .pv (.int .i64 c5), .pv (.lst c6), .pv (.lst c7), .pv (.lst c8), .pv (.lst c9)]] = some (aj (!(c9.any qn))) := by
 obtain ⟨hl, hr⟩ := aD h9
 have hsm : ∀ r ∈ c9, gO r ≤ 1048576 := fun r m => sl m hz
 have hB : ∀ k (hlt : k < c9.length), ∃ s0 s1 s2 s3 s4, c9[k] = [.str s0, .lst s1, .int .i64 s2, .lst s3, .lst s4] ∧ bR (.lst gc) (.lst s3) ∧ s4.length ≤ 1048576 ∧ (∀ r ∈ s4, be fP r) ∧ qn c9[k] = ((List.range s4.length).any (o7 s4) || s3.any (qJ s4 s3)) := fun k hlt => by
  obtain ⟨s0, s1, s2, s3, s4, hrk, g0, g1, g2, g3, g4⟩ := qF (hr _ (List.getElem_mem hlt))
  obtain ⟨hl4, hr4⟩ := aD g4
  have h1 := hsm _ (List.getElem_mem hlt)
  rw [hrk] at h1
  refine ⟨s0, s1, s2, s3, s4, hrk, g3, ?_, hr4, by rw [hrk]; rfl⟩
  simp only [gO, sz] at h1
  omega
 have E := iX (call := aa Ph al) bh (c := gv) rfl (rows := c9) (p := qn) (e := .exit 0) (er := .ret)
  (S := fun k => ⟨(J4 (J4 (.one .junk :: .one .junk :: .one .junk :: bJ c9 :: ae .i64 c9.length :: ae .i64 k :: bV (bV (J4 (J4 (.one .junk :: .one .junk :: []))))))), []⟩)
  (R := ⟨(.one .junk :: .one .junk :: aj false :: bV (bV (bV (J4 (.one .junk :: []))))), []⟩) (σe := ⟨(bV (bV (bV (J4 (J4 ([])))))), []⟩)
  (fun k hlt hp => by
   have hw := ag (k := k) (by unfold maxLen at hl; omega)
   obtain ⟨s0, s1, s2, s3, s4, hrk, g3, hl4, hr4, hb⟩ := hB k hlt
   rw [hb, Bool.or_eq_false_iff] at hp
   have E1 := N3 (srv := c9) (s0 := s0) (s1 := s1) (s2 := s2) (s3 := s3) (q := (k : Int)) (n := (c9.length : Int)) hl4 hr4
   have E3 := N4 (srv := c9) (s0 := s0) (s1 := s1) (s2 := s2) (q := (k : Int)) (n := (c9.length : Int)) hl4 hr4 g3
   rw [hp.1] at E1
   rw [hp.2] at E3
   refine iy.of ?_
   simp [gv, hlt, hrk]
   refine cw bh Cl.kn rfl E1 ?_ ?_
   ·exact Kn.q [0, 1] (by simp [aY, aW, aX, bH, bI, bL, ca, br, dI, co, bQ, cu, L.ren, aA, sB])
   simp [sB]
   refine cw bh Cl.kn rfl E3 ?_ ?_
   ·exact Kn.q [0, 1] (by simp [aY, aW, aX, bH, bI, bL, ca, br, dI, co, bQ, cu, L.ren, aA, sB])
   simp [hw]
   exact Kn.q [])
  (fun k hlt hp => by
   obtain ⟨s0, s1, s2, s3, s4, hrk, g3, hl4, hr4, hb⟩ := hB k hlt
   rw [hb] at hp
   have E1 := N3 (srv := c9) (s0 := s0) (s1 := s1) (s2 := s2) (s3 := s3) (q := (k : Int)) (n := (c9.length : Int)) hl4 hr4
   have E3 := N4 (srv := c9) (s0 := s0) (s1 := s1) (s2 := s2) (q := (k : Int)) (n := (c9.length : Int)) hl4 hr4 g3
   refine ff.stop (by simp) ?_
   simp [gv, hlt, hrk]
   refine cw bh Cl.kn rfl E1 ?_ ?_
   ·exact Kn.q [0, 1] (by simp [aY, aW, aX, bH, bI, bL, ca, br, dI, co, bQ, cu, L.ren, aA, sB])
   cases c : (List.range s4.length).any (o7 s4)
   ·rw [c, Bool.false_or] at hp
    rw [hp] at E3
    simp [sB]
    refine cw bh Cl.kn rfl E3 ?_ ?_
    ·exact Kn.q [0, 1] (by simp [aY, aW, aX, bH, bI, bL, ca, br, dI, co, bQ, cu, L.ren, aA, sB])
    simp
    exact Kn.q []
   ·simp
    exact Kn.q [])
  (by
   refine ff.stop (by simp) ?_
   simp [gv]
   exact Kn.q [])
 refine aw (fn := mD) rfl ?_
 simp [mD]
 refine cw bh Cl.fin rfl E ?_ ?_
 ·exact Kn.q []
 cases c9.any qn <;> simp
end Gi
