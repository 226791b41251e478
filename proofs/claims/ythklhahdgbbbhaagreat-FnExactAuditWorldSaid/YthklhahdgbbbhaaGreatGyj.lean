/- Of this proof. -/
import Derived.Test.YthklhahdgbbbhaaGreatGuy
import Derived.Test.YthklhahdgbbbhaaGreatGyii
import Derived.Test.YthklhahdgbbbhaaGreatGwd
import Derived.Test.YthklhahdgbbbhaaGreatGwf
import Derived.Test.YthklhahdgbbbhaaGreatGvi
set_option linter.unusedSimpArgs false
set_option linter.unusedVariables false
namespace Gi
open Go Go.RowKit
set_option maxHeartbeats 4000000
set_option maxRecDepth 4000
attribute [local simp] bW eM aq am bg bt cF dN Opd.ev put V.cells plain bz hJ isInt isStr isBool bin bf aS aR un asList L.view aB V.view viewL done bC aC aT cj comp bq bZ a8 V.flat L.flat dX dJ bS putAt thaw thawL freezeVs freezeLs freezeL V.mut L.mut bm aZ
theorem uO {c0 : Int} {c1 : Bool} {c2 : Int} {c3 c4 : List (List PV)} {c5 : Int} {c6 c7 c8 c9 : List (List PV)} (h : bR (.lst dm) (.lst c3)) : aa Ph al 124 [.agg [.pv (.int .i64 c0), .pv (.bool c1), .pv (.int .i64 c2), .pv (.lst c3), .pv (.lst c4), .pv (.int .i64 c5), .pv (.lst c6), .pv (.lst c7), .pv (.lst c8), .pv (.lst c9)]] = some (aj (!(c3.any pG))) := by
 obtain ⟨hl, hr⟩ := aD h
 refine aH (fn := lH) rfl ?_
 have LP := KK hl hr c3.length 0 0 rfl (by omega)
 simp only [List.drop_zero] at LP
 generalize hF : aq (aa Ph al) ah dD = F at LP
 simp [lH, hF]
 generalize hσ : St.mk _ _ = σ0
 obtain ⟨e, σ', q1, q3⟩ := (LP _ _ _ _ _ _ _ _ _ _ _ _ _ _ _ σ0 hσ.symm).get
 rw [q1]
 rcases q3 with ⟨rfl, q4, x0, x1, x2, x3, x4, x5, x6, x10, x11, x12, x13, x14, x15, x16, h', rfl⟩ | ⟨rfl, q4, q5, q7⟩
 ·simp [q4]
 ·obtain ⟨_, q8⟩ := List.getElem?_eq_some_iff.1 q7
  simp [q5, q8, q4]
theorem uU {c0 : Int} {c1 : Bool} {c2 : Int} {c3 c4 : List (List PV)} {c5 : Int} {c6 c7 c8 c9 : List (List PV)} (h : bR (.lst dm) (.lst c3)) : aa Ph al 123 [.agg [.pv (.int .i64 c0), .pv (.bool c1), .pv (.int .i64 c2), .pv (.lst c3), .pv (.lst c4), .pv (.int .i64 c5), .pv (.lst c6), .pv (.lst c7), .pv (.lst c8), .pv (.lst c9)]] = some (aj (!(c3.any pG))) := by
 obtain ⟨hl, hr⟩ := aD h
 refine aH (fn := lM) rfl ?_
 have LP := K5 (c0 := c0) (c1 := c1) (c2 := c2) (c4 := c4) (c5 := c5) (c6 := c6) (c7 := c7) (c8 := c8) (c9 := c9) hl hr c3.length 0 0 rfl (by omega)
 simp only [List.drop_zero] at LP
 generalize hF : aq (aa Ph al) ah dH = F at LP
 simp [lM, hF]
 generalize hσ : St.mk _ _ = σ0
 obtain ⟨e, σ', q1, q3⟩ := (LP _ _ _ _ _ _ _ _ _ _ _ _ _ _ _ _ _ _ _ σ0 hσ.symm).get
 rw [q1]
 rcases q3 with ⟨rfl, q4, x0, x2, x4, x5, x6, x7, x8, x9, x10, x11, x12, x13, x14, x15, x16, x17, x18, x19, h', rfl⟩ | ⟨rfl, q4, q5, q7⟩
 ·simp [q4]
 ·obtain ⟨_, q8⟩ := List.getElem?_eq_some_iff.1 q7
  simp [q5, q8, q4]
end Gi
namespace Gi
open Go Go.RowKit
set_option maxHeartbeats 8000000
set_option maxRecDepth 4000
attribute [local simp] bW am bg bt cF dN Opd.ev put V.cells plain bz hJ isInt isStr isBool bin bf aS aR un asList L.view aB V.view viewL bC aC aT cj comp bq bZ bz V.flat L.flat dX dJ bS putAt thaw thawL freezeVs freezeLs freezeL V.mut L.mut bm aZ
section
variable {now dev nx : Int} {onl : Bool} {bs : List XBucket} {ps : List XPage} {ls : List XLock} {ms : List XMail} {ss : List XSite} {vs : List XServer}
theorem H1 (hb : bs.length ≤ 1048576 ∧ ∀ x ∈ bs, x.Ok 1048576) (hpg : ps.length ≤ 1048576 ∧ ∀ x ∈ ps, x.Ok 1048576) (hlk : ls.length ≤ 1048576 ∧ ∀ x ∈ ls, x.Ok 1048576) (hsi : ss.length ≤ 1048576 ∧ ∀ x ∈ ss, x.Ok 1048576) (hsv : vs.length ≤ 1048576 ∧ ∀ x ∈ vs, x.Ok 1048576)
 (h3 : bR (.lst dm) (.lst (bs.map XBucket.e))) (hz3 : sz (.lst (bs.map XBucket.e)) ≤ 1048576) (h8 : bR (.lst j9) (.lst (ss.map XSite.e))) (hz8 : sz (.lst (ss.map XSite.e)) ≤ 1048576) (h9 : bR (.lst jR) (.lst (vs.map XServer.e))) (hz9 : sz (.lst (vs.map XServer.e)) ≤ 1048576) :
 ∃ R, aa Ph al 372 [.agg [.pv (.int .i64 now), .pv (.bool onl), .pv (.int .i64 dev), .pv (.lst (bs.map XBucket.e)), .pv (.lst (ps.map XPage.e)), .pv (.int .i64 nx), .pv (.lst (ls.map XLock.e)), .pv (.lst (ms.map XMail.e)), .pv (.lst (ss.map XSite.e)), .pv (.lst (vs.map XServer.e))]] = some (aj R) ∧ aa Ph al 371 [.agg [.pv (.int .i64 now), .pv (.bool onl), .pv (.int .i64 dev), .pv (.lst (bs.map XBucket.e)), .pv (.lst (ps.map XPage.e)), .pv (.int .i64 nx), .pv (.lst (ls.map XLock.e)), .pv (.lst (ms.map XMail.e)), .pv (.lst (ss.map XSite.e)), .pv (.lst (vs.map XServer.e))]] = some (aj R) := by
 have hM : (1048576 : Nat) ≤ maxLen := by unfold maxLen; omega
 have hpc : ∀ k (hk : k < ps.length), ∃ b, aa Ph al 118 [.agg [.pv (.int .i64 now), .pv (.bool onl), .pv (.int .i64 dev), .pv (.lst (bs.map XBucket.e)), .pv (.lst (ps.map XPage.e)), .pv (.int .i64 nx), .pv (.lst (ls.map XLock.e)), .pv (.lst (ms.map XMail.e)), .pv (.lst (ss.map XSite.e)), .pv (.lst (vs.map XServer.e))], .agg [.pv (.int .i64 ps[k].id), .pv (.str ps[k].site), .pv (.str ps[k].top), .pv (.int .i64 ps[k].version), .pv (.lst (ps[k].loaded.map XLoaded.e)), .pv (.lst (ps[k].machine.script.map XInstr.e)), .pv (.int .i64 ps[k].machine.pc), .pv (.lst (ps[k].machine.regs.map Cm)), .pv (.int .i64 ps[k].machine.steps), .pv (.bool ps[k].machine.done), .pv (.bool ps[k].machine.wait)]] = some (aj b) ∧ aa Ph al 117 [.agg [.pv (.int .i64 now), .pv (.bool onl), .pv (.int .i64 dev), .pv (.lst (bs.map XBucket.e)), .pv (.lst (ps.map XPage.e)), .pv (.int .i64 nx), .pv (.lst (ls.map XLock.e)), .pv (.lst (ms.map XMail.e)), .pv (.lst (ss.map XSite.e)), .pv (.lst (vs.map XServer.e))], .agg [.pv (.int .i64 ps[k].id), .pv (.str ps[k].site), .pv (.str ps[k].top), .pv (.int .i64 ps[k].version), .pv (.lst (ps[k].loaded.map XLoaded.e)), .pv (.lst (ps[k].machine.script.map XInstr.e)), .pv (.int .i64 ps[k].machine.pc), .pv (.lst (ps[k].machine.regs.map Cm)), .pv (.int .i64 ps[k].machine.steps), .pv (.bool ps[k].machine.done), .pv (.bool ps[k].machine.wait)]] = some (aj b) := fun k hk =>
  NI h3 (Nat.le_trans (hpg.2 _ (List.getElem_mem hk)).2.1 hM) (Nat.le_trans (hpg.2 _ (List.getElem_mem hk)).2.2.1 hM) (bY (fun _ q => XLoaded.has hM q) hM (hpg.2 _ (List.getElem_mem hk)).2.2.2.2.1)
 obtain ⟨pb, hpb⟩ : ∃ pb : Nat → Bool, ∀ k (hk : k < ps.length), aa Ph al 118 [.agg [.pv (.int .i64 now), .pv (.bool onl), .pv (.int .i64 dev), .pv (.lst (bs.map XBucket.e)), .pv (.lst (ps.map XPage.e)), .pv (.int .i64 nx), .pv (.lst (ls.map XLock.e)), .pv (.lst (ms.map XMail.e)), .pv (.lst (ss.map XSite.e)), .pv (.lst (vs.map XServer.e))], .agg [.pv (.int .i64 ps[k].id), .pv (.str ps[k].site), .pv (.str ps[k].top), .pv (.int .i64 ps[k].version), .pv (.lst (ps[k].loaded.map XLoaded.e)), .pv (.lst (ps[k].machine.script.map XInstr.e)), .pv (.int .i64 ps[k].machine.pc), .pv (.lst (ps[k].machine.regs.map Cm)), .pv (.int .i64 ps[k].machine.steps), .pv (.bool ps[k].machine.done), .pv (.bool ps[k].machine.wait)]] = some (aj (pb k)) ∧ aa Ph al 117 [.agg [.pv (.int .i64 now), .pv (.bool onl), .pv (.int .i64 dev), .pv (.lst (bs.map XBucket.e)), .pv (.lst (ps.map XPage.e)), .pv (.int .i64 nx), .pv (.lst (ls.map XLock.e)), .pv (.lst (ms.map XMail.e)), .pv (.lst (ss.map XSite.e)), .pv (.lst (vs.map XServer.e))], .agg [.pv (.int .i64 ps[k].id), .pv (.str ps[k].site), .pv (.str ps[k].top), .pv (.int .i64 ps[k].version), .pv (.lst (ps[k].loaded.map XLoaded.e)), .pv (.lst (ps[k].machine.script.map XInstr.e)), .pv (.int .i64 ps[k].machine.pc), .pv (.lst (ps[k].machine.regs.map Cm)), .pv (.int .i64 ps[k].machine.steps), .pv (.bool ps[k].machine.done), .pv (.bool ps[k].machine.wait)]] = some (aj (pb k)) :=
  ⟨fun k => if h : k < ps.length then Classical.choose (hpc k h) else false, fun k hk => by have := Classical.choose_spec (hpc k hk); simp only [dif_pos hk]; exact this⟩
 clear hpc
 have hlm : ps.length ≤ maxLen := Nat.le_trans hpg.1 hM
 have a1 := AW (now := now) (dev := dev) (nx := nx) (onl := onl) (ms := ms.map XMail.e) (by omega) hb hpg hlk hsi hsv
 have a2 := qX (c0 := now) (c1 := onl) (c2 := dev) (c4 := ps.map XPage.e) (c5 := nx) (c6 := ls.map XLock.e) (c7 := ms.map XMail.e) (c9 := vs.map XServer.e) h3 hz3 h8 hz8
 have a3 := vM (c0 := now) (c1 := onl) (c2 := dev) (c3 := bs.map XBucket.e) (c4 := ps.map XPage.e) (c5 := nx) (c6 := ls.map XLock.e) (c7 := ms.map XMail.e) (c8 := ss.map XSite.e) h9 hz9
 have a4 := ta (c0 := now) (c1 := onl) (c2 := dev) (c4 := ps.map XPage.e) (c5 := nx) (c6 := ls.map XLock.e) (c7 := ms.map XMail.e) (c8 := ss.map XSite.e) hb hsv
 have a5 := uO (c0 := now) (c1 := onl) (c2 := dev) (c4 := ps.map XPage.e) (c5 := nx) (c6 := ls.map XLock.e) (c7 := ms.map XMail.e) (c8 := ss.map XSite.e) (c9 := vs.map XServer.e) h3
 have b1 := A2 (now := now) (dev := dev) (nx := nx) (onl := onl) (ms := ms.map XMail.e) (by omega) hb hpg hlk hsi hsv
 have b2 := rn (c0 := now) (c1 := onl) (c2 := dev) (c4 := ps.map XPage.e) (c5 := nx) (c6 := ls.map XLock.e) (c7 := ms.map XMail.e) (c9 := vs.map XServer.e) h3 hz3 h8 hz8
 have b3 := wg (c0 := now) (c1 := onl) (c2 := dev) (c3 := bs.map XBucket.e) (c4 := ps.map XPage.e) (c5 := nx) (c6 := ls.map XLock.e) (c7 := ms.map XMail.e) (c8 := ss.map XSite.e) h9
 have b4 := tf (c0 := now) (c1 := onl) (c2 := dev) (c4 := ps.map XPage.e) (c5 := nx) (c6 := ls.map XLock.e) (c7 := ms.map XMail.e) (c8 := ss.map XSite.e) hb hsv
 have b5 := uU (c0 := now) (c1 := onl) (c2 := dev) (c4 := ps.map XPage.e) (c5 := nx) (c6 := ls.map XLock.e) (c7 := ms.map XMail.e) (c8 := ss.map XSite.e) (c9 := vs.map XServer.e) h3
 generalize tb now dev nx bs ps ls ss vs = r1 at a1 b1
 generalize (!((bs.map XBucket.e).any (xP (ss.map XSite.e)))) = r2 at a2 b2
 generalize (!((vs.map XServer.e).any qn)) = r3 at a3 b3
 generalize (!(bs.any (sV vs))) = r4 at a4 b4
 generalize (!((bs.map XBucket.e).any pG)) = r5 at a5 b5
 have hF : ∀ {k : Nat}, k < ps.length → (!(pb k)) = true → (!((List.range ps.length).any (fun k => !(pb k))) && (r1 && (r2 && (r3 && (r4 && r5))))) = false := fun hk h => by rw [cI (p := fun k => !(pb k)) hk h]; rfl
 have hT : (∀ k, k < ps.length → (!(pb k)) = false) → (!((List.range ps.length).any (fun k => !(pb k))) && (r1 && (r2 && (r3 && (r4 && r5))))) = (r1 && (r2 && (r3 && (r4 && r5)))) := fun h => by rw [dM (p := fun k => !(pb k)) h]; rfl
 generalize (!((List.range ps.length).any (fun k => !(pb k))) && (r1 && (r2 && (r3 && (r4 && r5))))) = R at hF hT
 refine ⟨R, aw (fn := mn) rfl ?_, aw (fn := mH) rfl ?_⟩
 ·simp [mn, bK, a9, aK, aI, aJ, aQ, aE, ba, ar, aM, aA, av, aO, aN, aL, aP, thawT, bB, bw, cd, bG, bA, wp_seq, wp_block, bE, wp_cond, wp_skip, wp_exit, wp_ret, cN, cE, cK, cH, cS, cT, cR, cq, bj, L.notArr, aY, aW, aX, bH, bI]
  refine bU bh Cl.fin [.f,.t,.f,.f,.f,.f,.t,.t,.t,.f,.f,.f,.f,.f,.f,.f,.f,.f,.f,.f,.f,.f,.f,.f,.f,.f,.f,.f,.f,.f,.f,.f,.f,.f,.f] (fun k => [(8, ae .i64 k)]) ps.length (fun k => !(pb k)) rfl ?_ ?_ ?_ ?_
  ·exact Kn.q [0]
  ·intro k hk hp
   have hw := ag (k := k) (by unfold maxLen at hlm; omega)
   have f1 := (hpb k hk).1
   have hx := XPage.e.eq_1 ps[k]
   have hq : pb k = true := by simpa using hp
   rw [hq] at f1
   simp [dQ, bK, a9, aK, aI, aJ, aQ, aE, ba, ar, aM, aA, av, aO, aN, aL, aP, thawT, bB, bw, cd, bG, bA, wp_seq, wp_block, bE, wp_cond, wp_skip, wp_exit, wp_ret, cN, cE, cK, cH, cS, cT, cR, cq, bj, L.notArr, aY, aW, aX, bH, bI, hk, hw, hx, f1]
   exact Kn.q [0]
  ·intro k hk hp _
   rw [hF hk hp]
   have f1 := (hpb k hk).1
   have hx := XPage.e.eq_1 ps[k]
   have hq : pb k = false := by simpa using hp
   rw [hq] at f1
   simp [dQ, bK, a9, aK, aI, aJ, aQ, aE, ba, ar, aM, aA, av, aO, aN, aL, aP, thawT, bB, bw, cd, bG, bA, wp_seq, wp_block, bE, wp_cond, wp_skip, wp_exit, wp_ret, cN, cE, cK, cH, cS, cT, cR, cq, bj, L.notArr, aY, aW, aX, bH, bI, hk, hx, f1]
  ·intro hp
   rw [hT hp]
   cases r1
   ·simp [dQ, bK, a9, aK, aI, aJ, aQ, aE, ba, ar, aM, aA, av, aO, aN, aL, aP, thawT, bB, bw, cd, bG, bA, wp_seq, wp_block, bE, wp_cond, wp_skip, wp_exit, wp_ret, cN, cE, cK, cH, cS, cT, cR, cq, bj, L.notArr, aY, aW, aX, bH, bI, a1, a2, a3, a4, a5]
   cases r2
   ·simp [dQ, bK, a9, aK, aI, aJ, aQ, aE, ba, ar, aM, aA, av, aO, aN, aL, aP, thawT, bB, bw, cd, bG, bA, wp_seq, wp_block, bE, wp_cond, wp_skip, wp_exit, wp_ret, cN, cE, cK, cH, cS, cT, cR, cq, bj, L.notArr, aY, aW, aX, bH, bI, a1, a2, a3, a4, a5]
   cases r3
   ·simp [dQ, bK, a9, aK, aI, aJ, aQ, aE, ba, ar, aM, aA, av, aO, aN, aL, aP, thawT, bB, bw, cd, bG, bA, wp_seq, wp_block, bE, wp_cond, wp_skip, wp_exit, wp_ret, cN, cE, cK, cH, cS, cT, cR, cq, bj, L.notArr, aY, aW, aX, bH, bI, a1, a2, a3, a4, a5]
   cases r4
   ·simp [dQ, bK, a9, aK, aI, aJ, aQ, aE, ba, ar, aM, aA, av, aO, aN, aL, aP, thawT, bB, bw, cd, bG, bA, wp_seq, wp_block, bE, wp_cond, wp_skip, wp_exit, wp_ret, cN, cE, cK, cH, cS, cT, cR, cq, bj, L.notArr, aY, aW, aX, bH, bI, a1, a2, a3, a4, a5]
   simp [dQ, bK, a9, aK, aI, aJ, aQ, aE, ba, ar, aM, aA, av, aO, aN, aL, aP, thawT, bB, bw, cd, bG, bA, wp_seq, wp_block, bE, wp_cond, wp_skip, wp_exit, wp_ret, cN, cE, cK, cH, cS, cT, cR, cq, bj, L.notArr, aY, aW, aX, bH, bI, a1, a2, a3, a4, a5]
 ·simp [mH, bK, a9, aK, aI, aJ, aQ, aE, ba, ar, aM, aA, av, aO, aN, aL, aP, thawT, bB, bw, cd, bG, bA, wp_seq, wp_block, bE, wp_cond, wp_skip, wp_exit, wp_ret, cN, cE, cK, cH, cS, cT, cR, cq, bj, L.notArr, aY, aW, aX, bH, bI]
  refine bU bh Cl.fin [.f,.t,.f,.t,.f,.f,.f,.f,.f,.f,.f,.f,.f,.f,.f,.f,.f,.f,.f,.f,.f,.f,.f,.f,.f,.f,.f,.f,.f,.f,.f,.f,.f,.f,.f,.f,.f] (fun k => [(3, ae .i64 k)]) ps.length (fun k => !(pb k)) rfl ?_ ?_ ?_ ?_
  ·exact Kn.q [0]
  ·intro k hk hp
   have hw := ag (k := k) (by unfold maxLen at hlm; omega)
   have f1 := (hpb k hk).2
   have hx := XPage.e.eq_1 ps[k]
   have hq : pb k = true := by simpa using hp
   rw [hq] at f1
   simp [dU, bK, a9, aK, aI, aJ, aQ, aE, ba, ar, aM, aA, av, aO, aN, aL, aP, thawT, bB, bw, cd, bG, bA, wp_seq, wp_block, bE, wp_cond, wp_skip, wp_exit, wp_ret, cN, cE, cK, cH, cS, cT, cR, cq, bj, L.notArr, aY, aW, aX, bH, bI, hk, hw, hx, f1]
   exact Kn.q [0]
  ·intro k hk hp _
   rw [hF hk hp]
   have f1 := (hpb k hk).2
   have hx := XPage.e.eq_1 ps[k]
   have hq : pb k = false := by simpa using hp
   rw [hq] at f1
   simp [dU, bK, a9, aK, aI, aJ, aQ, aE, ba, ar, aM, aA, av, aO, aN, aL, aP, thawT, bB, bw, cd, bG, bA, wp_seq, wp_block, bE, wp_cond, wp_skip, wp_exit, wp_ret, cN, cE, cK, cH, cS, cT, cR, cq, bj, L.notArr, aY, aW, aX, bH, bI, hk, hx, f1]
  ·intro hp
   rw [hT hp]
   cases r1
   ·simp [dU, bK, a9, aK, aI, aJ, aQ, aE, ba, ar, aM, aA, av, aO, aN, aL, aP, thawT, bB, bw, cd, bG, bA, wp_seq, wp_block, bE, wp_cond, wp_skip, wp_exit, wp_ret, cN, cE, cK, cH, cS, cT, cR, cq, bj, L.notArr, aY, aW, aX, bH, bI, b1, b2, b3, b4, b5]
   cases r2
   ·simp [dU, bK, a9, aK, aI, aJ, aQ, aE, ba, ar, aM, aA, av, aO, aN, aL, aP, thawT, bB, bw, cd, bG, bA, wp_seq, wp_block, bE, wp_cond, wp_skip, wp_exit, wp_ret, cN, cE, cK, cH, cS, cT, cR, cq, bj, L.notArr, aY, aW, aX, bH, bI, b1, b2, b3, b4, b5]
   cases r3
   ·simp [dU, bK, a9, aK, aI, aJ, aQ, aE, ba, ar, aM, aA, av, aO, aN, aL, aP, thawT, bB, bw, cd, bG, bA, wp_seq, wp_block, bE, wp_cond, wp_skip, wp_exit, wp_ret, cN, cE, cK, cH, cS, cT, cR, cq, bj, L.notArr, aY, aW, aX, bH, bI, b1, b2, b3, b4, b5]
   cases r4
   ·simp [dU, bK, a9, aK, aI, aJ, aQ, aE, ba, ar, aM, aA, av, aO, aN, aL, aP, thawT, bB, bw, cd, bG, bA, wp_seq, wp_block, bE, wp_cond, wp_skip, wp_exit, wp_ret, cN, cE, cK, cH, cS, cT, cR, cq, bj, L.notArr, aY, aW, aX, bH, bI, b1, b2, b3, b4, b5]
   simp [dU, bK, a9, aK, aI, aJ, aQ, aE, ba, ar, aM, aA, av, aO, aN, aL, aP, thawT, bB, bw, cd, bG, bA, wp_seq, wp_block, bE, wp_cond, wp_skip, wp_exit, wp_ret, cN, cE, cK, cH, cS, cT, cR, cq, bj, L.notArr, aY, aW, aX, bH, bI, b1, b2, b3, b4, b5]
end
theorem Cw {r0 : List PV} (h0 : be sI r0) : aa Ph al 370 [.agg (r0.map .pv)] = some (aj true) := by
 obtain ⟨⟨c0, c1, c2, c3, c4, c5, c6, c7, c8, c9, _⟩, rfl, g0, g1, g2, g3, g4, g5, g6, g7, g8, g9, _⟩ := cf h0
 show aa Ph al 370 [.agg [.pv (.int .i64 c0), .pv (.bool c1), .pv (.int .i64 c2), .pv (.lst c3), .pv (.lst c4), .pv (.int .i64 c5), .pv (.lst c6), .pv (.lst c7), .pv (.lst c8), .pv (.lst c9)]] = _
 refine aH (fn := hS) rfl ?_
 have m0 : aa Ph al 104 [.agg [.pv (.int .i64 c0), .pv (.bool c1), .pv (.int .i64 c2), .pv (.lst c3), .pv (.lst c4), .pv (.int .i64 c5), .pv (.lst c6), .pv (.lst c7), .pv (.lst c8), .pv (.lst c9)], ae .i64 1048576] = some (ae .i64 (eI 1048576 (gO [.int .i64 c0, .bool c1, .int .i64 c2, .lst c3, .lst c4, .int .i64 c5, .lst c6, .lst c7, .lst c8, .lst c9]))) := IV (ext := al) h0 1048576 (by omega) (by omega)
 generalize q0 : eI 1048576 (gO [.int .i64 c0, .bool c1, .int .i64 c2, .lst c3, .lst c4, .int .i64 c5, .lst c6, .lst c7, .lst c8, .lst c9]) = l0 at m0
 by_cases n0 : l0 < 0
 ·simp [hS, eM, aq, done, a8, n0, m0]
 obtain ⟨le0, hz0⟩ := Mh (by omega) q0 n0
 have hs0 : gO [.int .i64 c0, .bool c1, .int .i64 c2, .lst c3, .lst c4, .int .i64 c5, .lst c6, .lst c7, .lst c8, .lst c9] ≤ 1048576 := by omega
 have to0 := I8 (ext := al) g0 g1 g2 g3 g4 g5 g6 g7 g8 g9 hs0
 have eq0 : aa Ph al 108 [.agg [.pv (.int .i64 c0), .pv (.bool c1), .pv (.int .i64 c2), .pv (.lst c3), .pv (.lst c4), .pv (.int .i64 c5), .pv (.lst c6), .pv (.lst c7), .pv (.lst c8), .pv (.lst c9)], .agg [.pv (.int .i64 c0), .pv (.bool c1), .pv (.int .i64 c2), .pv (.lst c3), .pv (.lst c4), .pv (.int .i64 c5), .pv (.lst c6), .pv (.lst c7), .pv (.lst c8), .pv (.lst c9)]] = some (aj true) := Ih (ext := al) h0
 have hz3 : sz (.lst c3) ≤ 1048576 := Nat.le_trans (sr (by simp)) hs0
 have hz4 : sz (.lst c4) ≤ 1048576 := Nat.le_trans (sr (by simp)) hs0
 have hz6 : sz (.lst c6) ≤ 1048576 := Nat.le_trans (sr (by simp)) hs0
 have hz7 : sz (.lst c7) ≤ 1048576 := Nat.le_trans (sr (by simp)) hs0
 have hz8 : sz (.lst c8) ≤ 1048576 := Nat.le_trans (sr (by simp)) hs0
 have hz9 : sz (.lst c9) ≤ 1048576 := Nat.le_trans (sr (by simp)) hs0
 obtain ⟨bs, rfl, hbs⟩ := ut XBucket.of (aD g3).2 hz3
 obtain ⟨ps, rfl, hps⟩ := ut XPage.of (aD g4).2 hz4
 obtain ⟨ls, rfl, hls⟩ := ut XLock.of (aD g6).2 hz6
 obtain ⟨ms, rfl, hms⟩ := ut XMail.of (aD g7).2 hz7
 obtain ⟨ss, rfl, hss⟩ := ut XSite.of (aD g8).2 hz8
 obtain ⟨vs, rfl, hvs⟩ := ut XServer.of (aD g9).2 hz9
 obtain ⟨R, e3, e2⟩ := H1 (now := c0) (onl := c1) (dev := c2) (nx := c5) (ms := ms) hbs hps hls hss hvs g3 hz3 g8 hz8 g9 hz9
 simp [hS, eM, aq, done, a8, m0, n0, to0, eq0, e2, e3]
end Gi
