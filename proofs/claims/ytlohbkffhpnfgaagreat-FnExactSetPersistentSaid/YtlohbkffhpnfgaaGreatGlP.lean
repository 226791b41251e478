/- Of this proof. -/
import Derived.Test.YtlohbkffhpnfgaaGreatGlL
import Derived.Test.YtlohbkffhpnfgaaGreatGki
set_option linter.unusedSimpArgs false
set_option linter.unusedVariables false
namespace Gi
open Go Go.RowKit
set_option maxHeartbeats 8000000
set_option maxRecDepth 4000
attribute [local simp] bt sJ bf bW dV fU dU fT fZ fY uF uO uG uP uH uQ uI uR uJ uS uK uT uL uU uM uV uN uW V.cells plain bm f4 isInt isStr isBool bin cT jJ cU jK fV un asList L.view am V.view viewL aR au cX cd bO comp aJ br dv cq bH bF bG bN bi cu aW bJ aP aX bL cy bK bI bM V.flat L.flat dF di bz putAt thaw thawL thawT V.ow fX dX dY cV fW cW dW freezeVs freezeLs freezeL V.mut L.mut aI fi iV aL bd aD dh bD bh bR L.ren aT dG cf dK bS bB wp_seq wp_block bE ed cY ce cZ wp_skip wp_exit wp_ret cK cJ cP cL df dg de cj aV L.notArr aO aM aN dZ bn storeD ba fK bq cB be ny L.mov L.closed V.closed PV.bare PV.flat
def MD (l : List XApplied) (k : Nat) : Bool := match l[k]?, l[k - 1]? with
 | some x, some y => !(rg x.dev 1 1000000) || (!(rg x.seq 0 1000000) || (dE 0 k && !(dE y.dev x.dev)))
 | _, _ => false
def wa (s : XServer) : Bool := !(fE s.applied.length (MD s.applied)) && (!(fE s.changes.length (iJ (fun w => !(Hx w)) s.changes)) && (lm s.store && (s.store.name == rB && !(dE 60 s.applied.length))))
theorem yb {s : XServer} (h : s.Ok maxLen) : ae Ph aF 382 [s.v] = some (ar (wa s)) := by
 obtain ⟨h1, ⟨h2, h3⟩, h4, h5⟩ := h
 have e1 := mY h1
 have e2 := fun v => aY v 1 1000000
 have e3 := fun v => aY v 0 1000000
 unfold wa
 refine ab (fn := mK) rfl ?_
 simp +contextual (maxSteps := 9999999) [mK]
 refine aA aQ Cl.fin [.f,.t,.f,.f,.f,.f,.f,.f,.t,.t,.t,.f,.f,.f,.f,.f,.f,.f,.f,.f,.f,.f,.f,.f,.f,.f,.f,.f,.f,.f,.f,.f,.f,.f,.f,.f,.f,.f,.f,.f,.f,.f,.f,.f,.f,.f,.f,.f,.f,.f,.f,.f,.f,.f,.f,.f,.f,.f,.f,.f,.f,.f,.f,.f,.f,.f,.f,.f] (fun k => [(10, aa .i64 k)]) s.applied.length (MD s.applied) rfl (by simp) (fun k hk _ => ?_) (fun _ hp => ?_)
 ·obtain ⟨q1, q2⟩ := sV h2 hk
  simp +contextual (maxSteps := 9999999) [gj, MD, hk, q1, q2, e2, e3, aE h2 hk, aU hk, XApplied.e.eq_1 s.applied[k], XApplied.e.eq_1 s.applied[k - 1]]
 ·simp (maxSteps := 9999999) [gj, hp]
  refine aA aQ Cl.fin [.f,.t,.f,.f,.f,.f,.f,.f,.f,.f,.f,.f,.f,.f,.f,.f,.f,.f,.f,.f,.f,.f,.f,.f,.f,.f,.f,.f,.f,.f,.f,.f,.f,.f,.f,.f,.f,.f,.f,.f,.f,.f,.f,.t,.t,.t,.f,.f,.f,.f,.f,.f,.f,.f,.f,.f,.f,.f,.f,.f,.f,.f,.f,.f,.f,.f,.f,.f] (fun k => [(45, aa .i64 k)]) s.changes.length (iJ (fun w => !(Hx w)) s.changes) rfl (by simp) (fun k hk _ => ?_) (fun _ hp => ?_)
  ·have e4 := lF (h5 _ (List.getElem_mem hk))
   simp +contextual (maxSteps := 9999999) [iM, iJ, hk, e4, aE h4 hk, aU hk, XWrite.e.eq_1 s.changes[k]]
  ·simp +contextual (maxSteps := 9999999) [iM, hp, e1, rB]
theorem yz {s : XServer} (h : s.Ok maxLen) : ae Ph aF 376 [s.v] = some (ar (wa s)) := by
 obtain ⟨h1, ⟨h2, h3⟩, h4, h5⟩ := h
 have e1 := m4 h1
 have e2 := fun v => bp v 1 1000000
 have e3 := fun v => bp v 0 1000000
 unfold wa
 refine ab (fn := mU) rfl ?_
 simp +contextual (maxSteps := 9999999) [mU]
 refine aA aQ Cl.fin [.f,.t,.f,.t,.f,.f,.f,.f,.f,.f,.f,.f,.f,.f,.f,.f,.f,.f,.f,.f,.f,.f,.f,.f,.f,.f,.f,.f,.f,.f,.f,.f,.f,.f,.f,.f,.f,.f,.f,.f,.f,.f,.f,.f,.f,.f,.f,.f,.f,.f,.f,.f,.f,.f,.f,.f,.f,.f,.f,.f,.f,.f,.f,.f,.f,.f,.f,.f,.f,.f,.f,.f,.f,.f,.f,.f,.f,.f,.f] (fun k => [(3, aa .i64 k)]) s.applied.length (MD s.applied) rfl (by simp) (fun k hk _ => ?_) (fun _ hp => ?_)
 ·obtain ⟨q1, q2⟩ := sV h2 hk
  simp +contextual (maxSteps := 9999999) [gk, MD, hk, q1, q2, e2, e3, aE h2 hk, aU hk, XApplied.e.eq_1 s.applied[k], XApplied.e.eq_1 s.applied[k - 1]]
 ·simp (maxSteps := 9999999) [gk, hp]
  refine aA aQ Cl.fin [.f,.t,.f,.f,.t,.f,.f,.f,.f,.f,.f,.f,.f,.f,.f,.f,.f,.f,.f,.f,.f,.f,.f,.f,.f,.f,.f,.f,.f,.f,.f,.f,.f,.f,.f,.f,.f,.f,.f,.f,.f,.f,.f,.f,.f,.f,.f,.f,.f,.f,.f,.f,.f,.f,.f,.f,.f,.f,.f,.f,.f,.f,.f,.f,.f,.f,.f,.f,.f,.f,.f,.f,.f,.f,.f,.f,.f,.f,.f] (fun k => [(4, aa .i64 k)]) s.changes.length (iJ (fun w => !(Hx w)) s.changes) rfl (by simp) (fun k hk _ => ?_) (fun _ hp => ?_)
  ·have e4 := lH (h5 _ (List.getElem_mem hk))
   simp +contextual (maxSteps := 9999999) [iQ, iJ, hk, e4, aE h4 hk, aU hk, XWrite.e.eq_1 s.changes[k]]
  ·simp +contextual (maxSteps := 9999999) [iQ, hp, e1, rB]
def MF (l : List (List UInt8)) (k : Nat) : Bool := match l[k]?, l[k - 1]? with
 | some x, some y => !(ct x) || (dE 0 k && !(Op.bytesLess y x))
 | _, _ => false
def qq (s : XSite) : Bool := !(fE s.files.length (MF s.files)) && (ct s.name && (rg s.version 1 1000000000000 && rg s.files.length 1 6))
theorem Ck {s : XSite} (h : s.Ok maxLen) : ae Ph aF 381 [s.v] = some (ar (qq s)) := by
 obtain ⟨h1, _, h2, h3⟩ := h
 have e1 := bg h1
 unfold qq
 refine ab (fn := pd) rfl ?_
 simp +contextual (maxSteps := 9999999) [pd]
 refine aA aQ Cl.fin [.f,.t,.f,.f,.f,.f,.t,.t,.t,.f,.f,.f,.f,.f,.f,.f,.f,.f,.f,.f,.f,.f,.f,.f,.f,.f,.f,.f,.f,.f,.f,.f,.f,.f,.f,.f,.f,.f,.f,.f,.f,.f,.f,.f,.f] (fun k => [(8, aa .i64 k)]) s.files.length (MF s.files) rfl (by simp) (fun k hk _ => ?_) (fun _ hp => ?_)
 ·obtain ⟨q1, q2⟩ := sV h2 hk
  have e2 := bg (h3 _ (List.getElem_mem hk))
  simp +contextual (maxSteps := 9999999) [jR, MF, hk, q1, q2, e2, aE h2 hk, aU hk, uq]
 ·simp +contextual (maxSteps := 9999999) [jR, hp, e1, aY]
theorem CM {s : XSite} (h : s.Ok maxLen) : ae Ph aF 375 [s.v] = some (ar (qq s)) := by
 obtain ⟨h1, _, h2, h3⟩ := h
 have e1 := bZ h1
 unfold qq
 refine ab (fn := ph) rfl ?_
 simp +contextual (maxSteps := 9999999) [ph]
 refine aA aQ Cl.fin [.f,.t,.f,.t,.f,.f,.f,.f,.f,.f,.f,.f,.f,.f,.f,.f,.f,.f,.f,.f,.f,.f,.f,.f,.f,.f,.f,.f,.f,.f,.f,.f,.f,.f,.f,.f,.f,.f,.f,.f,.f,.f,.f,.f,.f,.f,.f,.f,.f,.f] (fun k => [(3, aa .i64 k)]) s.files.length (MF s.files) rfl (by simp) (fun k hk _ => ?_) (fun _ hp => ?_)
 ·obtain ⟨q1, q2⟩ := sV h2 hk
  have e2 := bZ (h3 _ (List.getElem_mem hk))
  simp +contextual (maxSteps := 9999999) [jV, MF, hk, q1, q2, e2, aE h2 hk, aU hk, uq]
 ·simp +contextual (maxSteps := 9999999) [jV, hp, e1, bp]
def qp (p : XPage) : Bool := !(fE p.loaded.length (iJ (fun x => !(ct x.path) || !(x.version == p.version)) p.loaded)) && (rg p.id 1 1000000000000 && (ct p.site && (ct p.top && (rg p.version 1 1000000000000 && !(dE 8 p.loaded.length)))))
theorem Cj {p : XPage} (h : p.Ok maxLen) : ae Ph aF 151 [p.v] = some (ar (qp p)) := by
 obtain ⟨_, h1, h2, _, ⟨h3, h4⟩, _⟩ := h
 have e1 := bg h1
 have e2 := bg h2
 unfold qp
 refine ab (fn := pb) rfl ?_
 simp +contextual (maxSteps := 9999999) [pb]
 refine aA aQ Cl.fin [.f,.t,.f,.f,.f,.f,.t,.t,.t,.f,.f,.f,.f,.f,.f,.f,.f,.f,.f,.f,.f,.f,.f,.f,.f,.f,.f,.f,.f,.f,.f,.f,.f,.f,.f,.f,.f,.f,.f,.f,.f,.f,.f,.f,.f,.f,.f,.f] (fun k => [(8, aa .i64 k)]) p.loaded.length (iJ (fun x => !(ct x.path) || !(x.version == p.version)) p.loaded) rfl (by simp) (fun k hk _ => ?_) (fun _ hp => ?_)
 ·have e3 := bg (h4 _ (List.getElem_mem hk)).1
  simp +contextual (maxSteps := 9999999) [jQ, iJ, hk, e3, aE h3 hk, aU hk, XLoaded.e.eq_1 p.loaded[k]]
 ·simp +contextual (maxSteps := 9999999) [jQ, hp, e1, e2, aY]
theorem CL {p : XPage} (h : p.Ok maxLen) : ae Ph aF 149 [p.v] = some (ar (qp p)) := by
 obtain ⟨_, h1, h2, _, ⟨h3, h4⟩, _⟩ := h
 have e1 := bZ h1
 have e2 := bZ h2
 unfold qp
 refine ab (fn := pg) rfl ?_
 simp +contextual (maxSteps := 9999999) [pg]
 refine aA aQ Cl.fin [.f,.t,.f,.t,.f,.f,.f,.f,.f,.f,.f,.f,.f,.f,.f,.f,.f,.f,.f,.f,.f,.f,.f,.f,.f,.f,.f,.f,.f,.f,.f,.f,.f,.f,.f,.f,.f,.f,.f,.f,.f,.f,.f,.f,.f,.f,.f,.f,.f,.f,.f,.f,.f,.f] (fun k => [(3, aa .i64 k)]) p.loaded.length (iJ (fun x => !(ct x.path) || !(x.version == p.version)) p.loaded) rfl (by simp) (fun k hk _ => ?_) (fun _ hp => ?_)
 ·have e3 := bZ (h4 _ (List.getElem_mem hk)).1
  simp +contextual (maxSteps := 9999999) [jU, iJ, hk, e3, aE h3 hk, aU hk, XLoaded.e.eq_1 p.loaded[k]]
 ·simp +contextual (maxSteps := 9999999) [jU, hp, e1, e2, bp]
def v7 (b : XBucket) : Bool := ct b.site && (ct b.top && (Co b.reg && (b.reg.site == b.site && (I7 b.caches.caches && (I8 b.disk.base && (Cp b.replica && (rg b.lastUsed 0 1000000000000 && !(dE 2500 (Ix b : Nat)))))))))
theorem x5 {b : XBucket} (h : b.Ok 1048576) : ae Ph aF 387 [b.v] = some (ar (v7 b)) := by
 have hm := XBucket.Ok.mono (B := maxLen) (by unfold maxLen; omega) h
 have e1 := bg hm.1
 have e2 := bg hm.2.1
 have e3 := ql hm.2.2.1
 have e5 := t7 hm.2.2.2.1
 have e6 := t8 (Nat.le_refl 1048576) h.2.2.2.2.1.1
 have e7 := vW hm.2.2.2.2.2.1
 have e8 := aY b.lastUsed 0 1000000000000
 have e9 := Ak h
 unfold v7
 obtain ⟨b4, h4⟩ : ∃ g, (b.reg.site == b.site) = g := ⟨_, rfl⟩
 rw [h4]
 generalize ct b.site = b1 at e1 ⊢
 generalize ct b.top = b2 at e2 ⊢
 generalize Co b.reg = b3 at e3 ⊢
 generalize I7 b.caches.caches = b5 at e5 ⊢
 generalize I8 b.disk.base = b6 at e6 ⊢
 generalize Cp b.replica = b7 at e7 ⊢
 generalize rg b.lastUsed 0 1000000000000 = b8 at e8 ⊢
 refine ab (fn := cQ) rfl ?_
 cases b1
 ·simp (maxSteps := 9999999) [cQ, e1]
 cases b2
 ·simp (maxSteps := 9999999) [cQ, e1, e2]
 cases b3
 ·simp (maxSteps := 9999999) [cQ, e1, e2, e3]
 cases b4
 ·simp (maxSteps := 9999999) [cQ, e1, e2, e3, h4]
 cases b5
 ·simp (maxSteps := 9999999) [cQ, e1, e2, e3, h4, e5]
 cases b6
 ·simp (maxSteps := 9999999) [cQ, e1, e2, e3, h4, e5, e6]
 cases b7
 ·simp (maxSteps := 9999999) [cQ, e1, e2, e3, h4, e5, e6, e7]
 cases b8
 ·simp (maxSteps := 9999999) [cQ, e1, e2, e3, h4, e5, e6, e7, e8]
 simp (maxSteps := 9999999) [cQ, e1, e2, e3, h4, e5, e6, e7, e8, e9]
theorem yx {b : XBucket} (h : b.Ok 1048576) : ae Ph aF 384 [b.v] = some (ar (v7 b)) := by
 have hm := XBucket.Ok.mono (B := maxLen) (by unfold maxLen; omega) h
 have e1 := bZ hm.1
 have e2 := bZ hm.2.1
 have e3 := qv hm.2.2.1
 have e5 := ut hm.2.2.2.1
 have e6 := uu (Nat.le_refl 1048576) h.2.2.2.2.1.1
 have e7 := wz hm.2.2.2.2.2.1
 have e8 := bp b.lastUsed 0 1000000000000
 have e9 := As h
 unfold v7
 obtain ⟨b4, h4⟩ : ∃ g, (b.reg.site == b.site) = g := ⟨_, rfl⟩
 rw [h4]
 generalize ct b.site = b1 at e1 ⊢
 generalize ct b.top = b2 at e2 ⊢
 generalize Co b.reg = b3 at e3 ⊢
 generalize I7 b.caches.caches = b5 at e5 ⊢
 generalize I8 b.disk.base = b6 at e6 ⊢
 generalize Cp b.replica = b7 at e7 ⊢
 generalize rg b.lastUsed 0 1000000000000 = b8 at e8 ⊢
 refine ab (fn := cR) rfl ?_
 cases b1
 ·simp (maxSteps := 9999999) [cR, e1]
 cases b2
 ·simp (maxSteps := 9999999) [cR, e1, e2]
 cases b3
 ·simp (maxSteps := 9999999) [cR, e1, e2, e3]
 cases b4
 ·simp (maxSteps := 9999999) [cR, e1, e2, e3, h4]
 cases b5
 ·simp (maxSteps := 9999999) [cR, e1, e2, e3, h4, e5]
 cases b6
 ·simp (maxSteps := 9999999) [cR, e1, e2, e3, h4, e5, e6]
 cases b7
 ·simp (maxSteps := 9999999) [cR, e1, e2, e3, h4, e5, e6, e7]
 cases b8
 ·simp (maxSteps := 9999999) [cR, e1, e2, e3, h4, e5, e6, e7, e8]
 simp (maxSteps := 9999999) [cR, e1, e2, e3, h4, e5, e6, e7, e8, e9]
def II (l : List XBucket) (k : Nat) : Bool := match l[k]?, l[k - 1]? with
 | some x, some y => !(v7 x) || (dE 0 k && !(uY y x))
 | _, _ => false
def Cq (l : List XBucket) : Bool := !(fE l.length (II l)) && !(dE 9 l.length)
theorem vX {l : List XBucket} (hl : l.length ≤ 1048576) (h : ∀ x ∈ l, x.Ok 1048576) : ae Ph aF 379 [.agg [.pv (.lst (l.map XBucket.e))]] = some (ar (Cq l)) := by
 have hm : l.length ≤ maxLen := by unfold maxLen; omega
 unfold Cq
 refine ab (fn := lP) rfl ?_
 simp +contextual (maxSteps := 9999999) [lP]
 refine aA aQ Cl.fin [.f,.t,.f,.f,.f,.f,.t,.t,.t,.f,.f,.f,.f,.f,.f,.f,.f,.f,.f,.f,.f,.f,.f,.f,.f,.f,.f,.f,.f,.f,.f,.f,.f,.f,.f,.f] (fun k => [(8, aa .i64 k)]) l.length (II l) rfl (by simp) (fun k hk _ => ?_) (fun _ hp => ?_)
 ·obtain ⟨q1, q2⟩ := sV hm hk
  have e1 := x5 (h _ (List.getElem_mem hk))
  have e2 := re l[k - 1] l[k]
  have hx := XBucket.e.eq_1 l[k]
  have hy := XBucket.e.eq_1 l[k - 1]
  have hb : II l k = (!(v7 l[k]) || (dE 0 k && !(uY l[k - 1] l[k]))) := by simp [II, hk, q2]
  rw [hb]
  generalize v7 l[k] = b1 at e1 ⊢
  generalize uY l[k - 1] l[k] = b2 at e2 ⊢
  cases b1
  ·simp +contextual (maxSteps := 9999999) [eR, hk, hx, e1, aE hm hk, aU hk]
  cases b3 : dE 0 k
  ·simp +contextual (maxSteps := 9999999) [eR, hk, hx, e1, b3, aE hm hk, aU hk]
  have q3 := q1 b3
  cases b2 <;> simp +contextual (maxSteps := 9999999) [eR, hk, q2, q3, hx, hy, e1, e2, b3, aE hm hk, aU hk]
 ·simp (maxSteps := 9999999) [eR, hp]
theorem wA {l : List XBucket} (hl : l.length ≤ 1048576) (h : ∀ x ∈ l, x.Ok 1048576) : ae Ph aF 377 [.agg [.pv (.lst (l.map XBucket.e))]] = some (ar (Cq l)) := by
 have hm : l.length ≤ maxLen := by unfold maxLen; omega
 unfold Cq
 refine ab (fn := mc) rfl ?_
 simp +contextual (maxSteps := 9999999) [mc]
 refine aA aQ Cl.fin [.f,.t,.f,.t,.f,.f,.f,.f,.f,.f,.f,.f,.f,.f,.f,.f,.f,.f,.f,.f,.f,.f,.f,.f,.f,.f,.f,.f,.f,.f,.f,.f,.f,.f,.f,.f,.f,.f,.f,.f,.f,.f,.f,.f,.f,.f,.f,.f] (fun k => [(3, aa .i64 k)]) l.length (II l) rfl (by simp) (fun k hk _ => ?_) (fun _ hp => ?_)
 ·obtain ⟨q1, q2⟩ := sV hm hk
  have e1 := yx (h _ (List.getElem_mem hk))
  have e2 := AH l[k - 1] l[k]
  have hx := XBucket.e.eq_1 l[k]
  have hy := XBucket.e.eq_1 l[k - 1]
  have hb : II l k = (!(v7 l[k]) || (dE 0 k && !(uY l[k - 1] l[k]))) := by simp [II, hk, q2]
  rw [hb]
  generalize v7 l[k] = b1 at e1 ⊢
  generalize uY l[k - 1] l[k] = b2 at e2 ⊢
  cases b1
  ·simp +contextual (maxSteps := 9999999) [eT, hk, hx, e1, aE hm hk, aU hk]
  cases b3 : dE 0 k
  ·simp +contextual (maxSteps := 9999999) [eT, hk, hx, e1, b3, aE hm hk, aU hk]
  have q3 := q1 b3
  cases b2 <;> simp +contextual (maxSteps := 9999999) [eT, hk, q2, q3, hx, hy, e1, e2, b3, aE hm hk, aU hk]
 ·simp (maxSteps := 9999999) [eT, hp]
theorem LV {k : Nat} (hk : k < Jj.length) (s : List UInt8) : (yw s == (k : Int)) = (s == Jj[k]) := by
 have hk' : k < 3 := hk
 by_cases h1 : s = [98, 97, 110, 107]
 ·subst h1
  obtain rfl | rfl | rfl : k = 0 ∨ k = 1 ∨ k = 2 := by omega
  all_goals rfl
 by_cases h2 : s = [110, 101, 119, 115]
 ·subst h2
  obtain rfl | rfl | rfl : k = 0 ∨ k = 1 ∨ k = 2 := by omega
  all_goals rfl
 by_cases h3 : s = [115, 104, 111, 112]
 ·subst h3
  obtain rfl | rfl | rfl : k = 0 ∨ k = 1 ∨ k = 2 := by omega
  all_goals rfl
 have e : yw s = -1 := by simp [yw, gv, Jj, List.findIdx?_cons, h1, h2, h3]
 have q : ((-1 : Int) == (k : Int)) = false := by rw [beq_eq_false_iff_ne]; omega
 rw [e, q]
 symm
 rw [beq_eq_false_iff_ne]
 obtain rfl | rfl | rfl : k = 0 ∨ k = 1 ∨ k = 2 := by omega
 ·exact h1
 ·exact h2
 ·exact h3
def AZ (w : XWorld) (k : Nat) : Bool := match w.pages[k]?, w.pages[k - 1]? with
 | some x, some y => !(qp x) || (!(dE x.id w.nextPage) || ((dE 0 k && !(dE y.id x.id)) || dE (gv (ID x.site x.top) w.storage.buckets) 0))
 | _, _ => false
def A0 (w : XWorld) (k : Nat) : Bool := match w.sites[k]?, w.servers[k]?, Jj[k]? with
 | some s, some v, some n => !(qq s) || (!(s.name == n) || !(wa v))
 | _, _, _ => false
def wb (w : XWorld) : Bool := rg w.now 0 999999990000 && (rg w.device 1 1000000 && (Cq w.storage.buckets && (!(dE 6 w.pages.length) && (rg w.nextPage 1 1000000000000 && (qn w.locks.locks && (((w.sites.length : Int) == 3) && (((w.servers.length : Int) == 3) && (!(fE w.pages.length (AZ w)) && !(fE 3 (A0 w))))))))))
theorem Aj {w : XWorld} (h : w.Ok 1048576) : ae Ph aF 374 [w.v] = some (ar (wb w)) := by
 have hm : w.Ok maxLen := XWorld.Ok.mono (by unfold maxLen; omega) h
 obtain ⟨_, _, ⟨hsl, hsb⟩, ⟨hpl, hpp⟩, _, ⟨hll, hlk⟩, _, ⟨htl, hst⟩, hvl, hsv⟩ := hm
 have e1 := aY w.now 0 999999990000
 have e2 := aY w.device 1 1000000
 have e3 := vX h.2.2.1.1 h.2.2.1.2
 have e5 := aY w.nextPage 1 1000000000000
 have e6 := sO hll hlk
 unfold wb
 obtain ⟨b4, h4⟩ : ∃ g, dE 6 w.pages.length = g := ⟨_, rfl⟩
 obtain ⟨b7, h7⟩ : ∃ g, ((w.sites.length : Int) == 3) = g := ⟨_, rfl⟩
 obtain ⟨b8, h8⟩ : ∃ g, ((w.servers.length : Int) == 3) = g := ⟨_, rfl⟩
 rw [h4, h7, h8]
 generalize rg w.now 0 999999990000 = b1 at e1 ⊢
 generalize rg w.device 1 1000000 = b2 at e2 ⊢
 generalize Cq w.storage.buckets = b3 at e3 ⊢
 generalize rg w.nextPage 1 1000000000000 = b5 at e5 ⊢
 generalize qn w.locks.locks = b6 at e6 ⊢
 refine ab (fn := dz) rfl ?_
 cases b1
 ·simp (maxSteps := 9999999) [dz, e1]
 cases b2
 ·simp (maxSteps := 9999999) [dz, e1, e2]
 cases b3
 ·simp (maxSteps := 9999999) [dz, e1, e2, e3]
 cases b4
 rotate_left
 ·simp (maxSteps := 9999999) [dz, e1, e2, e3, h4]
 cases b5
 ·simp (maxSteps := 9999999) [dz, e1, e2, e3, h4, e5]
 cases b6
 ·simp (maxSteps := 9999999) [dz, e1, e2, e3, h4, e5, e6]
 cases b7
 ·simp (maxSteps := 9999999) [dz, e1, e2, e3, h4, e5, e6, h7]
 cases b8
 ·simp (maxSteps := 9999999) [dz, e1, e2, e3, h4, e5, e6, h7, h8]
 simp (maxSteps := 9999999) [dz, e1, e2, e3, h4, e5, e6, h7, h8]
 have h7 : w.sites.length = 3 := by have := beq_iff_eq.1 h7; omega
 have h8 : w.servers.length = 3 := by have := beq_iff_eq.1 h8; omega
 refine aA aQ Cl.fin [.f,.t,.f,.f,.f,.f,.f,.f,.f,.f,.f,.f,.f,.f,.f,.f,.f,.f,.f,.f,.f,.f,.f,.f,.f,.f,.f,.f,.f,.f,.f,.f,.f,.f,.f,.f,.f,.f,.f,.f,.f,.f,.f,.f,.f,.f,.f,.f,.f,.f,.f,.f,.f,.f,.t,.t,.t,.f,.f,.f,.f,.f,.f,.f,.f,.f,.f,.f,.f,.f,.f,.f,.f,.f,.f,.f,.f,.f,.f,.f,.f,.f,.f,.f,.f,.f,.f,.f,.f,.f,.f,.f,.f,.f,.f,.f,.f,.f,.f,.f,.f,.f,.f,.f,.f,.f,.f,.f,.f,.f,.f,.f,.f,.f,.f,.f,.f,.f,.f,.f,.f,.f,.f,.f,.f,.f] (fun k => [(56, aa .i64 k)]) w.pages.length (AZ w) rfl (by simp) (fun k hk _ => ?_) (fun _ hp => ?_)
 ·obtain ⟨q1, q2⟩ := sV hpl hk
  have e7 := Cj (hpp _ (List.getElem_mem hk))
  have e8 := og hsl w.pages[k].site w.pages[k].top
  have hx := XPage.e.eq_1 w.pages[k]
  have hy := XPage.e.eq_1 w.pages[k - 1]
  have hb : AZ w k = (!(qp w.pages[k]) || (!(dE w.pages[k].id w.nextPage) || ((dE 0 k && !(dE w.pages[k - 1].id w.pages[k].id)) || dE (gv (ID w.pages[k].site w.pages[k].top) w.storage.buckets) 0))) := by simp [AZ, hk, q2]
  rw [hb]
  generalize qp w.pages[k] = b9 at e7 ⊢
  generalize gv (ID w.pages[k].site w.pages[k].top) w.storage.buckets = F at e8 ⊢
  cases b9
  ·simp +contextual (maxSteps := 9999999) [dP, hk, hx, e7, aE hpl hk, aU hk]
  cases c1 : dE w.pages[k].id w.nextPage
  ·simp +contextual (maxSteps := 9999999) [dP, hk, hx, e7, c1, aE hpl hk, aU hk]
  cases c2 : dE 0 k
  ·simp +contextual (maxSteps := 9999999) [dP, hk, hx, e7, e8, c1, c2, aE hpl hk, aU hk]
  have q3 := q1 c2
  simp +contextual (maxSteps := 9999999) [dP, hk, q2, q3, hx, hy, e7, e8, c1, c2, aE hpl hk, aU hk]
 ·simp (maxSteps := 9999999) [dP, hp]
  refine aA aQ Cl.fin [.f,.t,.f,.f,.f,.f,.f,.f,.f,.f,.f,.f,.f,.f,.f,.f,.f,.f,.f,.f,.f,.f,.f,.f,.f,.f,.f,.f,.f,.f,.f,.f,.f,.f,.f,.f,.f,.f,.f,.f,.f,.f,.f,.f,.f,.f,.f,.f,.f,.f,.f,.f,.f,.f,.f,.f,.f,.f,.f,.f,.f,.f,.f,.f,.f,.f,.f,.f,.f,.f,.f,.f,.f,.f,.f,.f,.f,.f,.f,.f,.f,.f,.f,.f,.f,.f,.f,.f,.f,.f,.f,.f,.f,.f,.f,.f,.f,.f,.f,.t,.t,.t,.f,.f,.f,.f,.f,.f,.f,.f,.f,.f,.f,.f,.f,.f,.f,.f,.f,.f,.f,.f,.f,.f,.f,.f] (fun k => [(101, aa .i64 k)]) 3 (A0 w) rfl (by simp) (fun k hk _ => ?_) (fun _ hp => ?_)
  ·have k1 : k < w.sites.length := by omega
   have k2 : k < w.servers.length := by omega
   have k3 : k < Jj.length := hk
   have l3 : dE (k : Int) 3 = true := lG (by omega)
   have ws := aE (n := 3) (by decide) hk
   have e7 := Ck (hst _ (List.getElem_mem k1))
   have e8 := yb (hsv _ (List.getElem_mem k2))
   have hx := XSite.e.eq_1 w.sites[k]
   have hy := XServer.e.eq_1 w.servers[k]
   have e9 := ua w.sites[k].name
   have e10 := LV k3 w.sites[k].name
   have hb : A0 w k = (!(qq w.sites[k]) || (!(w.sites[k].name == Jj[k]) || !(wa w.servers[k]))) := by simp [A0, k1, k2, k3]
   rw [hb]
   generalize qq w.sites[k] = b9 at e7 ⊢
   generalize wa w.servers[k] = b10 at e8 ⊢
   rw [← e10]
   generalize yw w.sites[k].name = F at e9 ⊢
   obtain ⟨b11, h9⟩ : ∃ g, (F == (k : Int)) = g := ⟨_, rfl⟩
   rw [h9]
   cases b9
   ·simp +contextual (maxSteps := 9999999) [fG, hk, k1, hx, e7, ws, l3, h7, h8]
   cases b11
   ·simp +contextual (maxSteps := 9999999) [fG, hk, k1, k3, hx, e7, e9, h9, uq, ws, l3, h7, h8]
   simp +contextual (maxSteps := 9999999) [fG, hk, k1, k2, k3, hx, hy, e7, e8, e9, h9, uq, ws, l3, h7, h8]
  ·simp (maxSteps := 9999999) [fG, hp, h7, h8, show dE 3 3 = false from rfl]
theorem Ar {w : XWorld} (h : w.Ok 1048576) : ae Ph aF 373 [w.v] = some (ar (wb w)) := by
 have hm : w.Ok maxLen := XWorld.Ok.mono (by unfold maxLen; omega) h
 obtain ⟨_, _, ⟨hsl, hsb⟩, ⟨hpl, hpp⟩, _, ⟨hll, hlk⟩, _, ⟨htl, hst⟩, hvl, hsv⟩ := hm
 have e1 := bp w.now 0 999999990000
 have e2 := bp w.device 1 1000000
 have e3 := wA h.2.2.1.1 h.2.2.1.2
 have e5 := bp w.nextPage 1 1000000000000
 have e6 := sY hll hlk
 unfold wb
 obtain ⟨b4, h4⟩ : ∃ g, dE 6 w.pages.length = g := ⟨_, rfl⟩
 obtain ⟨b7, h7⟩ : ∃ g, ((w.sites.length : Int) == 3) = g := ⟨_, rfl⟩
 obtain ⟨b8, h8⟩ : ∃ g, ((w.servers.length : Int) == 3) = g := ⟨_, rfl⟩
 rw [h4, h7, h8]
 generalize rg w.now 0 999999990000 = b1 at e1 ⊢
 generalize rg w.device 1 1000000 = b2 at e2 ⊢
 generalize Cq w.storage.buckets = b3 at e3 ⊢
 generalize rg w.nextPage 1 1000000000000 = b5 at e5 ⊢
 generalize qn w.locks.locks = b6 at e6 ⊢
 refine ab (fn := gP) rfl ?_
 cases b7
 ·simp (maxSteps := 9999999) [gP, h7]
 cases b8
 ·simp (maxSteps := 9999999) [gP, h7, h8]
 cases b4
 rotate_left
 ·simp (maxSteps := 9999999) [gP, h4, h7, h8]
 simp (maxSteps := 9999999) [gP, h4, h7, h8]
 have h7 : w.sites.length = 3 := by have := beq_iff_eq.1 h7; omega
 have h8 : w.servers.length = 3 := by have := beq_iff_eq.1 h8; omega
 refine aA aQ Cl.fin [.f,.t,.f,.t,.f,.f,.f,.f,.f,.f,.f,.f,.f,.f,.f,.f,.f,.f,.f,.f,.f,.f,.f,.f,.f,.f,.f,.f,.f,.f,.f,.f,.f,.f,.f,.f,.f,.f,.f,.f,.f,.f,.f,.f,.f,.f,.f,.f,.f,.f,.f,.f,.f,.f,.f,.f,.f,.f,.f,.f,.f,.f,.f,.f,.f,.f,.f,.f,.f,.f,.f,.f,.f,.f,.f,.f,.f,.f,.f,.f,.f,.f,.f,.f,.f,.f,.f,.f,.f,.f,.f,.f,.f,.f,.f,.f,.f,.f,.f,.f,.f,.f,.f,.f,.f,.f,.f,.f,.f,.f,.f,.f,.f,.f,.f,.f,.f,.f,.f,.f,.f,.f,.f,.f,.f,.f] (fun k => [(3, aa .i64 k)]) 3 (A0 w) rfl (by simp) (fun k hk _ => ?_) (fun _ hp => ?_)
 ·have k1 : k < w.sites.length := by omega
  have k2 : k < w.servers.length := by omega
  have k3 : k < Jj.length := hk
  have l3 : dE (k : Int) 3 = true := lG (by omega)
  have ws := aE (n := 3) (by decide) hk
  have e7 := CM (hst _ (List.getElem_mem k1))
  have e8 := yz (hsv _ (List.getElem_mem k2))
  have hx := XSite.e.eq_1 w.sites[k]
  have hy := XServer.e.eq_1 w.servers[k]
  have e9 := yC
  have hb : A0 w k = (!(qq w.sites[k]) || (!(w.sites[k].name == Jj[k]) || !(wa w.servers[k]))) := by simp [A0, k1, k2, k3]
  rw [hb]
  generalize qq w.sites[k] = b9 at e7 ⊢
  generalize wa w.servers[k] = b10 at e8 ⊢
  obtain ⟨b11, h9⟩ : ∃ g, (w.sites[k].name == Jj[k]) = g := ⟨_, rfl⟩
  rw [h9]
  cases b9
  ·simp +contextual (maxSteps := 9999999) [eU, hk, k1, hx, e7, ws, l3, h7, h8]
  cases b11
  ·simp +contextual (maxSteps := 9999999) [eU, hk, k1, k3, hx, e7, e9, h9, uq, ws, l3, h7, h8]
  simp +contextual (maxSteps := 9999999) [eU, hk, k1, k2, k3, hx, hy, e7, e8, e9, h9, uq, ws, l3, h7, h8]
 ·simp (maxSteps := 9999999) [eU, hp, h7, h8, show dE 3 3 = false from rfl]
  refine aA aQ Cl.fin [.f,.t,.f,.f,.t,.f,.f,.f,.f,.f,.f,.f,.f,.f,.f,.f,.f,.f,.f,.f,.f,.f,.f,.f,.f,.f,.f,.f,.f,.f,.f,.f,.f,.f,.f,.f,.f,.f,.f,.f,.f,.f,.f,.f,.f,.f,.f,.f,.f,.f,.f,.f,.f,.f,.f,.f,.f,.f,.f,.f,.f,.f,.f,.f,.f,.f,.f,.f,.f,.f,.f,.f,.f,.f,.f,.f,.f,.f,.f,.f,.f,.f,.f,.f,.f,.f,.f,.f,.f,.f,.f,.f,.f,.f,.f,.f,.f,.f,.f,.f,.f,.f,.f,.f,.f,.f,.f,.f,.f,.f,.f,.f,.f,.f,.f,.f,.f,.f,.f,.f,.f,.f,.f,.f,.f,.f] (fun k => [(4, aa .i64 k)]) w.pages.length (AZ w) rfl (by simp) (fun k hk _ => ?_) (fun _ hp => ?_)
  ·obtain ⟨q1, q2⟩ := sV hpl hk
   have e7 := CL (hpp _ (List.getElem_mem hk))
   have e8 := oB hsl w.pages[k].site w.pages[k].top
   have hx := XPage.e.eq_1 w.pages[k]
   have hy := XPage.e.eq_1 w.pages[k - 1]
   have hb : AZ w k = (!(qp w.pages[k]) || (!(dE w.pages[k].id w.nextPage) || ((dE 0 k && !(dE w.pages[k - 1].id w.pages[k].id)) || dE (gv (ID w.pages[k].site w.pages[k].top) w.storage.buckets) 0))) := by simp [AZ, hk, q2]
   rw [hb]
   generalize qp w.pages[k] = b9 at e7 ⊢
   generalize gv (ID w.pages[k].site w.pages[k].top) w.storage.buckets = F at e8 ⊢
   cases b9
   ·simp +contextual (maxSteps := 9999999) [cH, hk, hx, e7, aE hpl hk, aU hk]
   cases c1 : dE w.pages[k].id w.nextPage
   ·simp +contextual (maxSteps := 9999999) [cH, hk, hx, e7, c1, aE hpl hk, aU hk]
   cases c2 : dE 0 k
   ·simp +contextual (maxSteps := 9999999) [cH, hk, hx, e7, e8, c1, c2, aE hpl hk, aU hk]
   have q3 := q1 c2
   simp +contextual (maxSteps := 9999999) [cH, hk, q2, q3, hx, hy, e7, e8, c1, c2, aE hpl hk, aU hk]
  ·cases b1
   ·simp (maxSteps := 9999999) [cH, hp, e1]
   cases b2
   ·simp (maxSteps := 9999999) [cH, hp, e1, e2]
   cases b3
   ·simp (maxSteps := 9999999) [cH, hp, e1, e2, e3]
   cases b5
   ·simp (maxSteps := 9999999) [cH, hp, e1, e2, e3, e5]
   simp (maxSteps := 9999999) [cH, hp, e1, e2, e3, e5, e6]
end Gi
