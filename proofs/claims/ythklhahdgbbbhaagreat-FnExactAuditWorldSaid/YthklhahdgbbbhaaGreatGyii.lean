/- Of this proof. -/
import Derived.Test.YthklhahdgbbbhaaGreatGyee
set_option linter.unusedSimpArgs false
set_option linter.unusedVariables false
namespace Gi
open Go Go.RowKit
set_option maxHeartbeats 80000000
set_option maxRecDepth 4000
attribute [local simp] bW am bg bt cF dN Opd.ev put V.cells plain bz hJ isInt isStr isBool bin bf aS aR un asList L.view aB V.view viewL bC aC aT cj comp bq bZ bK a9 aK aI aJ aQ aE ba ar aM aA av aO aN aL aP thawT bB bw cd bG bA bz V.flat L.flat dX dJ bS putAt thaw thawL freezeVs freezeLs freezeL V.mut L.mut bm aZ wp_seq wp_block bE wp_cond wp_skip wp_exit wp_ret cN cE cK cH cS cT cR cq bj L.notArr aY aW aX bH bI
def n8 (p : XPage) : Bool := tN p.id p.site p.top p.version (p.loaded.map XLoaded.e)
def GY (bs : List XBucket) (p : XPage) : Int := bN (Ln p.site p.top) (bs.map XBucket.e) 0
def Mr (bs : List XBucket) (nx : Int) : List XPage → Nat → Bool := Da (fun p => !(n8 p) || (decide (nx ≤ p.id) || decide (GY bs p < 0))) (fun y x => decide (x.id ≤ y.id))
def NP (ss : List XSite) (vs : List XServer) (k : Nat) : Bool := match ss[k]?, vs[k]? with
 | some s, some v => !(jk s) || (!(bX s.name == (k : Int)) || !(jv v))
 | _, _ => false
theorem FI {ss : List XSite} {vs : List XServer} {k : Nat} (h1 : k < ss.length) (h2 : k < vs.length) : NP ss vs k = (!(jk ss[k]) || (!(bX ss[k].name == (k : Int)) || !(jv vs[k]))) := by simp [NP, h1, h2]
def tb (now dev nx : Int) (bs : List XBucket) (ps : List XPage) (ls : List XLock) (ss : List XSite) (vs : List XServer) : Bool :=
 rg now 0 999999990000 && (rg dev 1 1000000 && (lP bs && (decide ((ps.length : Int) ≤ 6) && (rg nx 1 1000000000000 && (iI ls && (decide (ss.length = 3) && (decide (vs.length = 3) && (!((List.range ps.length).any (Mr bs nx ps)) && !((List.range 3).any (NP ss vs))))))))))
theorem Jv {now dev nx : Int} {bs : List XBucket} {ps : List XPage} {ls : List XLock} {ss : List XSite} {vs : List XServer} {k : Nat} (hk : k < ps.length) (h : Mr bs nx ps k = true) : tb now dev nx bs ps ls ss vs = false := by unfold tb; rw [cI hk h]; simp
theorem Jw {now dev nx : Int} {bs : List XBucket} {ps : List XPage} {ls : List XLock} {ss : List XSite} {vs : List XServer} {k : Nat} (hk : k < 3) (h : NP ss vs k = true) : tb now dev nx bs ps ls ss vs = false := by unfold tb; rw [cI hk h]; simp
theorem Ju {now dev nx : Int} {bs : List XBucket} {ps : List XPage} {ls : List XLock} {ss : List XSite} {vs : List XServer} (h1 : ∀ k, k < ps.length → Mr bs nx ps k = false) (h2 : ∀ k, k < 3 → NP ss vs k = false) (h3 : ss.length = 3) (h4 : vs.length = 3) : tb now dev nx bs ps ls ss vs = (rg now 0 999999990000 && (rg dev 1 1000000 && (lP bs && (decide ((ps.length : Int) ≤ 6) && (rg nx 1 1000000000000 && iI ls))))) := by unfold tb; rw [dM h1, dM h2, h3, h4]; simp
theorem Pq (s : List UInt8) : (bX s == 0) = (s == [98, 97, 110, 107]) := by
 unfold bX
 by_cases h0 : s = [98, 97, 110, 107]
 ·subst h0; decide
 ·have h0' : (s == [98, 97, 110, 107]) = false := by simpa using h0
  rw [h0', cond_false]
  cases (s == [110, 101, 119, 115]) <;> cases (s == [115, 104, 111, 112]) <;> rfl
theorem Pr (s : List UInt8) : (bX s == 1) = (s == [110, 101, 119, 115]) := by
 unfold bX
 by_cases h0 : s = [98, 97, 110, 107]
 ·subst h0; decide
 ·have h0' : (s == [98, 97, 110, 107]) = false := by simpa using h0
  rw [h0', cond_false]
  cases (s == [110, 101, 119, 115]) <;> cases (s == [115, 104, 111, 112]) <;> rfl
theorem Ps (s : List UInt8) : (bX s == 2) = (s == [115, 104, 111, 112]) := by
 unfold bX
 by_cases h0 : s = [98, 97, 110, 107]
 ·subst h0; decide
 ·have h0' : (s == [98, 97, 110, 107]) = false := by simpa using h0
  rw [h0', cond_false]
  by_cases h1 : s = [110, 101, 119, 115]
  ·subst h1; decide
  ·have h1' : (s == [110, 101, 119, 115]) = false := by simpa using h1
   rw [h1', cond_false]
   cases (s == [115, 104, 111, 112]) <;> rfl
theorem rq : aa Ph al 181 [] = some (.one (.own 1 [[.str [98, 97, 110, 107]], [.str [110, 101, 119, 115]], [.str [115, 104, 111, 112]]])) := by
 refine aw (fn := jM) rfl ?_
 simp [jM]
@[simp] abbrev wJ4 (l : List V) : List V := .one .junk :: .one .junk :: .one .junk :: .one .junk :: l
@[simp] abbrev wJ16 (l : List V) : List V := wJ4 (wJ4 (wJ4 (wJ4 l)))
def wsA0 (now dev nx : Int) (onl : Bool) (bs : List XBucket) (ps : List XPage) (ls : List XLock) (ms : List (List PV)) (ss : List XSite) (vs : List XServer) (k : Nat) : St := ⟨.one .junk :: .one (.ptr 0 0 0) :: wJ4 (wJ16 (wJ16 (wJ16 (.one (.pv (.lst (ps.map XPage.e))) :: ae .i64 (ps.length : Nat) :: ae .i64 k :: .one .junk :: wJ4 (wJ16 (wJ16 (wJ16 (wJ16 ([]))))))))), [.box [.pv (.int .i64 now), .pv (.bool onl), .pv (.int .i64 dev), .pv (.lst (bs.map XBucket.e)), .pv (.lst (ps.map XPage.e)), .pv (.int .i64 nx), .pv (.lst (ls.map XLock.e)), .pv (.lst ms), .pv (.lst (ss.map XSite.e)), .pv (.lst (vs.map XServer.e))]]⟩
def wsA1 (now dev nx : Int) (onl : Bool) (bs : List XBucket) (ps : List XPage) (ls : List XLock) (ms : List (List PV)) (ss : List XSite) (vs : List XServer) (k : Nat) : St := ⟨.one .junk :: .one (.ptr 0 0 0) :: .one .junk :: wJ16 (wJ16 (wJ16 (wJ16 (wJ16 (wJ16 (.one (.pv (.lst (ss.map XSite.e))) :: ae .i64 (ss.length : Nat) :: ae .i64 k :: wJ4 (wJ4 (wJ16 ([]))))))))), [.box [.pv (.int .i64 now), .pv (.bool onl), .pv (.int .i64 dev), .pv (.lst (bs.map XBucket.e)), .pv (.lst (ps.map XPage.e)), .pv (.int .i64 nx), .pv (.lst (ls.map XLock.e)), .pv (.lst ms), .pv (.lst (ss.map XSite.e)), .pv (.lst (vs.map XServer.e))]]⟩
def wsB0 (now dev nx : Int) (onl : Bool) (bs : List XBucket) (ps : List XPage) (ls : List XLock) (ms : List (List PV)) (ss : List XSite) (vs : List XServer) (k : Nat) : St := ⟨.one .junk :: .one (.ptr 0 0 0) :: .one .junk :: ae .i64 k :: .one .junk :: .one .junk :: wJ4 (wJ4 (wJ16 (wJ16 (wJ16 (wJ16 (wJ16 (wJ16 (wJ16 ([]))))))))), [.box [.pv (.int .i64 now), .pv (.bool onl), .pv (.int .i64 dev), .pv (.lst (bs.map XBucket.e)), .pv (.lst (ps.map XPage.e)), .pv (.int .i64 nx), .pv (.lst (ls.map XLock.e)), .pv (.lst ms), .pv (.lst (ss.map XSite.e)), .pv (.lst (vs.map XServer.e))]]⟩
def wsB1 (now dev nx : Int) (onl : Bool) (bs : List XBucket) (ps : List XPage) (ls : List XLock) (ms : List (List PV)) (ss : List XSite) (vs : List XServer) (k : Nat) : St := ⟨.one .junk :: .one (.ptr 0 0 0) :: .one .junk :: .one .junk :: ae .i64 k :: .one .junk :: wJ4 (wJ4 (wJ16 (wJ16 (wJ16 (wJ16 (wJ16 (wJ16 (wJ16 ([]))))))))), [.box [.pv (.int .i64 now), .pv (.bool onl), .pv (.int .i64 dev), .pv (.lst (bs.map XBucket.e)), .pv (.lst (ps.map XPage.e)), .pv (.int .i64 nx), .pv (.lst (ls.map XLock.e)), .pv (.lst ms), .pv (.lst (ss.map XSite.e)), .pv (.lst (vs.map XServer.e))]]⟩
theorem wretA {call : Nat → List V → Option V} {Q : Ex → St → Prop} {σ : St} : ∀ ks, wp call Q ks (some (.ret, σ)) = Q .ret σ
 | [] => cN
 | .sq _ :: ks => cK.trans (wretA ks)
 | .bk _ :: ks => cT.trans (wretA ks)
section
variable {B : Nat} {now dev nx : Int} {onl : Bool} {bs : List XBucket} {ps : List XPage} {ls : List XLock} {ms : List (List PV)} {ss : List XSite} {vs : List XServer}
theorem wlA0a (hB1 : B ≤ 1048576) (hb : bs.length ≤ B ∧ ∀ x ∈ bs, x.Ok B) (hpg : ps.length ≤ B ∧ ∀ x ∈ ps, x.Ok B) : ∀ k, k < ps.length → Mr bs nx ps k = false → wp (aa Ph al) (fun e τ => e = .normal ∧ Kn (wsA0 now dev nx onl bs ps ls ms ss vs (k + 1)) τ) [] (aq (aa Ph al) ah df (wsA0 now dev nx onl bs ps ls ms ss vs k)) := by
 have hB : B ≤ maxLen := by unfold maxLen; omega
 have eP : ∀ k (hk : k < ps.length), _ := fun k hk => tF (e0 := ps[k].id) (e1 := ps[k].site) (e2 := ps[k].top) (e3 := ps[k].version) (e4 := ps[k].loaded.map XLoaded.e) (e5 := ps[k].machine.script.map XInstr.e) (e6 := ps[k].machine.pc) (e7 := ps[k].machine.regs.map Cm) (e8 := ps[k].machine.steps) (e9 := ps[k].machine.done) (e10 := ps[k].machine.wait) (Nat.le_trans (hpg.2 _ (List.getElem_mem hk)).2.1 hB) (Nat.le_trans (hpg.2 _ (List.getElem_mem hk)).2.2.1 hB) (bY (fun _ q => XLoaded.has hB q) hB (hpg.2 _ (List.getElem_mem hk)).2.2.2.2.1)
 have eF : ∀ k (hk : k < ps.length), _ := fun k hk => lO (bY (fun _ q => XBucket.has hB q) hB hb) ps[k].site ps[k].top
 have hlm : ps.length ≤ maxLen := Nat.le_trans hpg.1 hB
 intro k hk hp
 simp only [wsA0]
 unfold Mr at hp
 cases k with
 | zero =>
  have f1 := (show aa _ _ _ _ = some (aj (n8 ps[0])) from eP (0) hk)
  have f4 := (show aa _ _ _ _ = some (ae .i64 (GY bs ps[0])) from eF (0) hk)
  have hx := XPage.e.eq_1 ps[0]
  rw [iB hk] at hp
  generalize GY bs ps[0] = I at hp f4
  generalize n8 ps[0] = b1 at hp f1
  cases b1
  ·simp [hk, bP, f1, f4, hx] at hp
  by_cases q1 : nx ≤ ps[0].id
  ·simp [hk, bP, f1, f4, hx, q1] at hp
  by_cases q3 : I < 0
  ·simp [hk, bP, f1, f4, hx, q1, q3] at hp
  simp [df, hk, bP, f1, f4, hx, q1, q3]
  exact Kn.q [0]
 | succ j =>
  have hj : j < ps.length := by omega
  obtain ⟨i1, i2, i3, i4, i5, i6⟩ := kJ hlm hk
  have f1 := (show aa _ _ _ _ = some (aj (n8 ps[j + 1])) from eP (j + 1) hk)
  have f4 := (show aa _ _ _ _ = some (ae .i64 (GY bs ps[j + 1])) from eF (j + 1) hk)
  have hx := XPage.e.eq_1 ps[j + 1]
  have hy := XPage.e.eq_1 ps[j]
  rw [iC hk] at hp
  generalize GY bs ps[j + 1] = I at hp f4
  generalize n8 ps[j + 1] = b1 at hp f1
  cases b1
  ·simp [hk, hj, i1, i2, i3, i4, i5, i6, f1, f4, hx, hy] at hp
  by_cases q1 : nx ≤ ps[j + 1].id
  ·simp [hk, hj, i1, i2, i3, i4, i5, i6, f1, f4, hx, hy, q1] at hp
  by_cases q2 : ps[j + 1].id ≤ ps[j].id
  ·simp [hk, hj, i1, i2, i3, i4, i5, i6, f1, f4, hx, hy, q1, q2] at hp
  by_cases q3 : I < 0
  ·simp [hk, hj, i1, i2, i3, i4, i5, i6, f1, f4, hx, hy, q1, q2, q3] at hp
  simp [df, hk, hj, i1, i2, i3, i4, i5, i6, f1, f4, hx, hy, q1, q2, q3]
  exact Kn.q [0]
theorem wlA0b (hB1 : B ≤ 1048576) (hb : bs.length ≤ B ∧ ∀ x ∈ bs, x.Ok B) (hpg : ps.length ≤ B ∧ ∀ x ∈ ps, x.Ok B) : ∀ k, k < ps.length → Mr bs nx ps k = true → ∀ ks, wp (aa Ph al) (Om [.tmp 2] (aj false)) (.sq qf :: ks) (aq (aa Ph al) ah df (wsA0 now dev nx onl bs ps ls ms ss vs k)) := by
 have hB : B ≤ maxLen := by unfold maxLen; omega
 have eP : ∀ k (hk : k < ps.length), _ := fun k hk => tF (e0 := ps[k].id) (e1 := ps[k].site) (e2 := ps[k].top) (e3 := ps[k].version) (e4 := ps[k].loaded.map XLoaded.e) (e5 := ps[k].machine.script.map XInstr.e) (e6 := ps[k].machine.pc) (e7 := ps[k].machine.regs.map Cm) (e8 := ps[k].machine.steps) (e9 := ps[k].machine.done) (e10 := ps[k].machine.wait) (Nat.le_trans (hpg.2 _ (List.getElem_mem hk)).2.1 hB) (Nat.le_trans (hpg.2 _ (List.getElem_mem hk)).2.2.1 hB) (bY (fun _ q => XLoaded.has hB q) hB (hpg.2 _ (List.getElem_mem hk)).2.2.2.2.1)
 have eF : ∀ k (hk : k < ps.length), _ := fun k hk => lO (bY (fun _ q => XBucket.has hB q) hB hb) ps[k].site ps[k].top
 have hlm : ps.length ≤ maxLen := Nat.le_trans hpg.1 hB
 intro k hk hp ks
 simp only [wsA0]
 unfold Mr at hp
 cases k with
 | zero =>
  have f1 := (show aa _ _ _ _ = some (aj (n8 ps[0])) from eP (0) hk)
  have f4 := (show aa _ _ _ _ = some (ae .i64 (GY bs ps[0])) from eF (0) hk)
  have hx := XPage.e.eq_1 ps[0]
  rw [iB hk] at hp
  generalize GY bs ps[0] = I at hp f4
  generalize n8 ps[0] = b1 at hp f1
  cases b1
  ·simp [wretA, df, hk, bP, f1, f4, hx]
  by_cases q1 : nx ≤ ps[0].id
  ·simp [wretA, df, hk, bP, f1, f4, hx, q1]
  by_cases q3 : I < 0
  ·simp [wretA, df, hk, bP, f1, f4, hx, q1, q3]
  simp [hk, bP, f1, f4, hx, q1, q3] at hp
 | succ j =>
  have hj : j < ps.length := by omega
  obtain ⟨i1, i2, i3, i4, i5, i6⟩ := kJ hlm hk
  have f1 := (show aa _ _ _ _ = some (aj (n8 ps[j + 1])) from eP (j + 1) hk)
  have f4 := (show aa _ _ _ _ = some (ae .i64 (GY bs ps[j + 1])) from eF (j + 1) hk)
  have hx := XPage.e.eq_1 ps[j + 1]
  have hy := XPage.e.eq_1 ps[j]
  rw [iC hk] at hp
  generalize GY bs ps[j + 1] = I at hp f4
  generalize n8 ps[j + 1] = b1 at hp f1
  cases b1
  ·simp [wretA, df, hk, hj, i1, i2, i3, i4, i5, i6, f1, f4, hx, hy]
  by_cases q1 : nx ≤ ps[j + 1].id
  ·simp [wretA, df, hk, hj, i1, i2, i3, i4, i5, i6, f1, f4, hx, hy, q1]
  by_cases q2 : ps[j + 1].id ≤ ps[j].id
  ·simp [wretA, df, hk, hj, i1, i2, i3, i4, i5, i6, f1, f4, hx, hy, q1, q2]
  by_cases q3 : I < 0
  ·simp [wretA, df, hk, hj, i1, i2, i3, i4, i5, i6, f1, f4, hx, hy, q1, q2, q3]
  simp [hk, hj, i1, i2, i3, i4, i5, i6, f1, f4, hx, hy, q1, q2, q3] at hp
theorem wlA1a (hB1 : B ≤ 1048576) (hsi : ss.length ≤ B ∧ ∀ x ∈ ss, x.Ok B) (hsv : vs.length ≤ B ∧ ∀ x ∈ vs, x.Ok B) (q7 : ss.length = 3) (q8 : vs.length = 3) : ∀ k, k < 3 → NP ss vs k = false → wp (aa Ph al) (fun e τ => e = .normal ∧ Kn (wsA1 now dev nx onl bs ps ls ms ss vs (k + 1)) τ) [] (aq (aa Ph al) ah gQ (wsA1 now dev nx onl bs ps ls ms ss vs k)) := by
 have hB : B ≤ maxLen := by unfold maxLen; omega
 have eS : ∀ k (hk : k < ss.length), _ := fun k hk => Cn hB (hsi.2 _ (List.getElem_mem hk))
 have eV : ∀ k (hk : k < vs.length), _ := fun k hk => yX hB (hsv.2 _ (List.getElem_mem hk))
 intro k hk hp
 simp only [wsA1]
 have hks : k < ss.length := by omega
 have hkv : k < vs.length := by omega
 have hki : (k : Int) < 3 := by omega
 have hw := ag (k := k) (by omega)
 have f1 := eS k hks
 have f3 := eV k hkv
 have hx := XSite.e.eq_1 ss[k]
 have hy := XServer.e.eq_1 vs[k]
 rw [FI hks hkv] at hp
 generalize jk ss[k] = c1 at hp f1
 generalize jv vs[k] = c3 at hp f3
 have f2 := fG ss[k].name
 have n2 : (bX ss[k].name != (k : Int)) = !(bX ss[k].name == (k : Int)) := rfl
 generalize (bX ss[k].name == (k : Int)) = c2 at hp n2
 generalize bX ss[k].name = sn at f2 n2
 cases c1
 ·simp at hp
 cases c2
 ·simp at hp
 cases c3
 ·simp at hp
 simp [gQ, hk, hks, hkv, hki, hw, f1, f2, n2, f3, hx, hy, q7, q8]
 exact Kn.q [0]
theorem wlA1b (hB1 : B ≤ 1048576) (hsi : ss.length ≤ B ∧ ∀ x ∈ ss, x.Ok B) (hsv : vs.length ≤ B ∧ ∀ x ∈ vs, x.Ok B) (q7 : ss.length = 3) (q8 : vs.length = 3) : ∀ k, k < 3 → NP ss vs k = true → ∀ ks, wp (aa Ph al) (Om [.tmp 2] (aj false)) (.sq qf :: ks) (aq (aa Ph al) ah gQ (wsA1 now dev nx onl bs ps ls ms ss vs k)) := by
 have hB : B ≤ maxLen := by unfold maxLen; omega
 have eS : ∀ k (hk : k < ss.length), _ := fun k hk => Cn hB (hsi.2 _ (List.getElem_mem hk))
 have eV : ∀ k (hk : k < vs.length), _ := fun k hk => yX hB (hsv.2 _ (List.getElem_mem hk))
 intro k hk hp ks
 simp only [wsA1]
 have hks : k < ss.length := by omega
 have hkv : k < vs.length := by omega
 have hki : (k : Int) < 3 := by omega
 have hw := ag (k := k) (by omega)
 have f1 := eS k hks
 have f3 := eV k hkv
 have hx := XSite.e.eq_1 ss[k]
 have hy := XServer.e.eq_1 vs[k]
 rw [FI hks hkv] at hp
 generalize jk ss[k] = c1 at hp f1
 generalize jv vs[k] = c3 at hp f3
 have f2 := fG ss[k].name
 have n2 : (bX ss[k].name != (k : Int)) = !(bX ss[k].name == (k : Int)) := rfl
 generalize (bX ss[k].name == (k : Int)) = c2 at hp n2
 generalize bX ss[k].name = sn at f2 n2
 cases c1
 ·simp [wretA, gQ, hk, hks, hkv, hki, hw, f1, f2, n2, f3, hx, hy, q7, q8]
 cases c2
 ·simp [wretA, gQ, hk, hks, hkv, hki, hw, f1, f2, n2, f3, hx, hy, q7, q8]
 cases c3
 ·simp [wretA, gQ, hk, hks, hkv, hki, hw, f1, f2, n2, f3, hx, hy, q7, q8]
 simp at hp
theorem AW (hB1 : B ≤ 1048576) (hb : bs.length ≤ B ∧ ∀ x ∈ bs, x.Ok B) (hpg : ps.length ≤ B ∧ ∀ x ∈ ps, x.Ok B) (hlk : ls.length ≤ B ∧ ∀ x ∈ ls, x.Ok B) (hsi : ss.length ≤ B ∧ ∀ x ∈ ss, x.Ok B) (hsv : vs.length ≤ B ∧ ∀ x ∈ vs, x.Ok B) : aa Ph al 374 [.agg [.pv (.int .i64 now), .pv (.bool onl), .pv (.int .i64 dev), .pv (.lst (bs.map XBucket.e)), .pv (.lst (ps.map XPage.e)), .pv (.int .i64 nx), .pv (.lst (ls.map XLock.e)), .pv (.lst ms), .pv (.lst (ss.map XSite.e)), .pv (.lst (vs.map XServer.e))]] = some (aj (tb now dev nx bs ps ls ss vs)) := by
 have hB : B ≤ maxLen := by unfold maxLen; omega
 have e1 := gG now 0 999999990000
 have e2 := gG dev 1 1000000
 have e3 := xe hB1 hb
 have e5 := gG nx 1 1000000000000
 have e6 := uM hB hlk
 have eP : ∀ k (hk : k < ps.length), _ := fun k hk => tF (e0 := ps[k].id) (e1 := ps[k].site) (e2 := ps[k].top) (e3 := ps[k].version) (e4 := ps[k].loaded.map XLoaded.e) (e5 := ps[k].machine.script.map XInstr.e) (e6 := ps[k].machine.pc) (e7 := ps[k].machine.regs.map Cm) (e8 := ps[k].machine.steps) (e9 := ps[k].machine.done) (e10 := ps[k].machine.wait) (Nat.le_trans (hpg.2 _ (List.getElem_mem hk)).2.1 hB) (Nat.le_trans (hpg.2 _ (List.getElem_mem hk)).2.2.1 hB) (bY (fun _ q => XLoaded.has hB q) hB (hpg.2 _ (List.getElem_mem hk)).2.2.2.2.1)
 have eF : ∀ k (hk : k < ps.length), _ := fun k hk => lO (bY (fun _ q => XBucket.has hB q) hB hb) ps[k].site ps[k].top
 have eS : ∀ k (hk : k < ss.length), _ := fun k hk => Cn hB (hsi.2 _ (List.getElem_mem hk))
 have eV : ∀ k (hk : k < vs.length), _ := fun k hk => yX hB (hsv.2 _ (List.getElem_mem hk))
 have hlm : ps.length ≤ maxLen := Nat.le_trans hpg.1 hB
 refine aw (fn := pf) rfl ?_
 obtain ⟨R, hX⟩ : ∃ R, tb now dev nx bs ps ls ss vs = R := ⟨_, rfl⟩
 have hpgF : ∀ {k : Nat}, k < ps.length → Mr bs nx ps k = true → R = false := fun hk h => by rw [← hX]; exact Jv hk h
 have hsiF : ∀ {k : Nat}, k < 3 → NP ss vs k = true → R = false := fun hk h => by rw [← hX]; exact Jw hk h
 have hokF : (∀ k, k < ps.length → Mr bs nx ps k = false) → (∀ k, k < 3 → NP ss vs k = false) → ss.length = 3 → vs.length = 3 → R = (rg now 0 999999990000 && (rg dev 1 1000000 && (lP bs && (decide ((ps.length : Int) ≤ 6) && (rg nx 1 1000000000000 && iI ls))))) := fun h1 h2 h3 h4 => by rw [← hX]; exact Ju h1 h2 h3 h4
 rw [hX]
 unfold tb at hX
 generalize rg now 0 999999990000 = b1 at e1 hX hokF
 generalize rg dev 1 1000000 = b2 at e2 hX hokF
 generalize lP bs = b3 at e3 hX hokF
 generalize rg nx 1 1000000000000 = b5 at e5 hX hokF
 generalize iI ls = b6 at e6 hX hokF
 simp [pf, e1]
 cases b1
 ·obtain rfl : R = false := by rw [← hX]; rfl
  simp
 simp [e2]
 cases b2
 ·obtain rfl : R = false := by rw [← hX]; rfl
  simp
 simp [e3]
 cases b3
 ·obtain rfl : R = false := by rw [← hX]; rfl
  simp
 simp
 by_cases q4 : (6 : Int) < (ps.length : Int)
 ·have r4 : 6 < ps.length := by omega
  have s4 : ¬ (ps.length : Int) ≤ 6 := by omega
  obtain rfl : R = false := by rw [← hX]; simp [s4]
  simp [q4, r4]
 have r4 : ¬ 6 < ps.length := by omega
 have s4 : (ps.length : Int) ≤ 6 := by omega
 simp [q4, r4, e5]
 cases b5
 ·obtain rfl : R = false := by rw [← hX]; simp
  simp
 simp [e6]
 cases b6
 ·obtain rfl : R = false := by rw [← hX]; simp
  simp
 simp
 by_cases q7 : ss.length = 3
 rotate_left
 ·have r7 : ((ss.length : Int) != 3) = true := by simp; omega
  obtain rfl : R = false := by rw [← hX]; simp [q7]
  simp [q7, r7]
 have r7 : ((ss.length : Int) != 3) = false := by rw [q7]; rfl
 have u7 : (ss.length : Int) = 3 := by omega
 simp [r7, u7]
 by_cases q8 : vs.length = 3
 rotate_left
 ·have r8 : ((vs.length : Int) != 3) = true := by simp; omega
  have u8 : ¬ (vs.length : Int) = 3 := by omega
  obtain rfl : R = false := by rw [← hX]; simp [q8]
  simp [q8, r8, u8]
 have r8 : ((vs.length : Int) != 3) = false := by rw [q8]; rfl
 have u8 : (vs.length : Int) = 3 := by omega
 simp [r8, u8]
 clear hX
 refine Gp bh Cl.fin (wsA0 now dev nx onl bs ps ls ms ss vs) ps.length (Mr bs nx ps) rfl ?_ ?_ ?_ ?_
 ·unfold wsA0
  exact Kn.q [0]
 ·exact wlA0a hB1 hb hpg
 ·intro k hk hp _
  obtain rfl : R = false := hpgF hk hp
  exact wlA0b hB1 hb hpg k hk hp _
 ·intro h1
  simp [wsA0, df]
  refine Gp bh Cl.fin (wsA1 now dev nx onl bs ps ls ms ss vs) 3 (NP ss vs) rfl ?_ ?_ ?_ ?_
  ·unfold wsA1
   exact Kn.q [0]
  ·exact wlA1a hB1 hsi hsv q7 q8
  ·intro k hk hp _
   obtain rfl : R = false := hsiF hk hp
   exact wlA1b hB1 hsi hsv q7 q8 k hk hp _
  · skip
    intro h2
    rw [hokF h1 h2 q7 q8]
    simp [wsA1, gQ, q7, s4]
end
section
variable {B : Nat} {now dev nx : Int} {onl : Bool} {bs : List XBucket} {ps : List XPage} {ls : List XLock} {ms : List (List PV)} {ss : List XSite} {vs : List XServer}
theorem wlB0a (hB1 : B ≤ 1048576) (hsi : ss.length ≤ B ∧ ∀ x ∈ ss, x.Ok B) (hsv : vs.length ≤ B ∧ ∀ x ∈ vs, x.Ok B) (q7 : ss.length = 3) (q8 : vs.length = 3) : ∀ k, k < 3 → NP ss vs k = false → wp (aa Ph al) (fun e τ => e = .normal ∧ Kn (wsB0 now dev nx onl bs ps ls ms ss vs (k + 1)) τ) [] (aq (aa Ph al) ah cB (wsB0 now dev nx onl bs ps ls ms ss vs k)) := by
 have hB : B ≤ maxLen := by unfold maxLen; omega
 have eS : ∀ k (hk : k < ss.length), _ := fun k hk => CM hB (hsi.2 _ (List.getElem_mem hk))
 have eV : ∀ k (hk : k < vs.length), _ := fun k hk => zw hB (hsv.2 _ (List.getElem_mem hk))
 intro k hk hp
 simp only [wsB0]
 have hks : k < ss.length := by omega
 have hkv : k < vs.length := by omega
 have hki : (k : Int) < 3 := by omega
 have hw := ag (k := k) (by omega)
 have f1 := eS k hks
 have f3 := eV k hkv
 have hx := XSite.e.eq_1 ss[k]
 have hy := XServer.e.eq_1 vs[k]
 rw [FI hks hkv] at hp
 generalize jk ss[k] = c1 at hp f1
 generalize jv vs[k] = c3 at hp f3
 have f2 := rq
 have w2 : IntKind.i64.wrap 2 = 2 := by rw [IntKind.wrap_i64]; rfl
 have w3 : IntKind.i64.wrap 3 = 3 := by rw [IntKind.wrap_i64]; rfl
 rcases (show k = 0 ∨ k = 1 ∨ k = 2 by omega) with rfl | rfl | rfl
 ·have g2 := Pq ss[0].name
  have g3 : (bX ss[0].name == ((0 : Nat) : Int)) = (ss[0].name == [98, 97, 110, 107]) := g2
  rw [g3] at hp
  clear g2 g3
  generalize n2 : (ss[0].name == [98, 97, 110, 107]) = c2 at hp
  cases c1
  ·simp at hp
  cases c2
  ·simp at hp
  cases c3
  ·simp at hp
  simp [cB, hks, hkv, hki, bP, w2, w3, hw, f1, f2, n2, f3, hx, hy, q7, q8]
  exact Kn.q [0]
 ·have g2 := Pr ss[1].name
  have g3 : (bX ss[1].name == ((1 : Nat) : Int)) = (ss[1].name == [110, 101, 119, 115]) := g2
  rw [g3] at hp
  clear g2 g3
  generalize n2 : (ss[1].name == [110, 101, 119, 115]) = c2 at hp
  cases c1
  ·simp at hp
  cases c2
  ·simp at hp
  cases c3
  ·simp at hp
  simp [cB, hks, hkv, hki, bP, w2, w3, hw, f1, f2, n2, f3, hx, hy, q7, q8]
  exact Kn.q [0]
 ·have g2 := Ps ss[2].name
  have g3 : (bX ss[2].name == ((2 : Nat) : Int)) = (ss[2].name == [115, 104, 111, 112]) := g2
  rw [g3] at hp
  clear g2 g3
  generalize n2 : (ss[2].name == [115, 104, 111, 112]) = c2 at hp
  cases c1
  ·simp at hp
  cases c2
  ·simp at hp
  cases c3
  ·simp at hp
  simp [cB, hks, hkv, hki, bP, w2, w3, hw, f1, f2, n2, f3, hx, hy, q7, q8]
  exact Kn.q [0]
theorem wlB0b (hB1 : B ≤ 1048576) (hsi : ss.length ≤ B ∧ ∀ x ∈ ss, x.Ok B) (hsv : vs.length ≤ B ∧ ∀ x ∈ vs, x.Ok B) (q7 : ss.length = 3) (q8 : vs.length = 3) : ∀ k, k < 3 → NP ss vs k = true → ∀ ks, wp (aa Ph al) (Om [.tmp 2] (aj false)) (.sq qf :: ks) (aq (aa Ph al) ah cB (wsB0 now dev nx onl bs ps ls ms ss vs k)) := by
 have hB : B ≤ maxLen := by unfold maxLen; omega
 have eS : ∀ k (hk : k < ss.length), _ := fun k hk => CM hB (hsi.2 _ (List.getElem_mem hk))
 have eV : ∀ k (hk : k < vs.length), _ := fun k hk => zw hB (hsv.2 _ (List.getElem_mem hk))
 intro k hk hp ks
 simp only [wsB0]
 have hks : k < ss.length := by omega
 have hkv : k < vs.length := by omega
 have hki : (k : Int) < 3 := by omega
 have hw := ag (k := k) (by omega)
 have f1 := eS k hks
 have f3 := eV k hkv
 have hx := XSite.e.eq_1 ss[k]
 have hy := XServer.e.eq_1 vs[k]
 rw [FI hks hkv] at hp
 generalize jk ss[k] = c1 at hp f1
 generalize jv vs[k] = c3 at hp f3
 have f2 := rq
 have w2 : IntKind.i64.wrap 2 = 2 := by rw [IntKind.wrap_i64]; rfl
 have w3 : IntKind.i64.wrap 3 = 3 := by rw [IntKind.wrap_i64]; rfl
 rcases (show k = 0 ∨ k = 1 ∨ k = 2 by omega) with rfl | rfl | rfl
 ·have g2 := Pq ss[0].name
  have g3 : (bX ss[0].name == ((0 : Nat) : Int)) = (ss[0].name == [98, 97, 110, 107]) := g2
  rw [g3] at hp
  clear g2 g3
  generalize n2 : (ss[0].name == [98, 97, 110, 107]) = c2 at hp
  cases c1
  ·simp [wretA, cB, hks, hkv, hki, bP, w2, w3, hw, f1, f2, n2, f3, hx, hy, q7, q8]
  cases c2
  ·simp [wretA, cB, hks, hkv, hki, bP, w2, w3, hw, f1, f2, n2, f3, hx, hy, q7, q8]
  cases c3
  ·simp [wretA, cB, hks, hkv, hki, bP, w2, w3, hw, f1, f2, n2, f3, hx, hy, q7, q8]
  simp at hp
 ·have g2 := Pr ss[1].name
  have g3 : (bX ss[1].name == ((1 : Nat) : Int)) = (ss[1].name == [110, 101, 119, 115]) := g2
  rw [g3] at hp
  clear g2 g3
  generalize n2 : (ss[1].name == [110, 101, 119, 115]) = c2 at hp
  cases c1
  ·simp [wretA, cB, hks, hkv, hki, bP, w2, w3, hw, f1, f2, n2, f3, hx, hy, q7, q8]
  cases c2
  ·simp [wretA, cB, hks, hkv, hki, bP, w2, w3, hw, f1, f2, n2, f3, hx, hy, q7, q8]
  cases c3
  ·simp [wretA, cB, hks, hkv, hki, bP, w2, w3, hw, f1, f2, n2, f3, hx, hy, q7, q8]
  simp at hp
 ·have g2 := Ps ss[2].name
  have g3 : (bX ss[2].name == ((2 : Nat) : Int)) = (ss[2].name == [115, 104, 111, 112]) := g2
  rw [g3] at hp
  clear g2 g3
  generalize n2 : (ss[2].name == [115, 104, 111, 112]) = c2 at hp
  cases c1
  ·simp [wretA, cB, hks, hkv, hki, bP, w2, w3, hw, f1, f2, n2, f3, hx, hy, q7, q8]
  cases c2
  ·simp [wretA, cB, hks, hkv, hki, bP, w2, w3, hw, f1, f2, n2, f3, hx, hy, q7, q8]
  cases c3
  ·simp [wretA, cB, hks, hkv, hki, bP, w2, w3, hw, f1, f2, n2, f3, hx, hy, q7, q8]
  simp at hp
theorem wlB1a (hB1 : B ≤ 1048576) (hb : bs.length ≤ B ∧ ∀ x ∈ bs, x.Ok B) (hpg : ps.length ≤ B ∧ ∀ x ∈ ps, x.Ok B) : ∀ k, k < ps.length → Mr bs nx ps k = false → wp (aa Ph al) (fun e τ => e = .normal ∧ Kn (wsB1 now dev nx onl bs ps ls ms ss vs (k + 1)) τ) [] (aq (aa Ph al) ah dy (wsB1 now dev nx onl bs ps ls ms ss vs k)) := by
 have hB : B ≤ maxLen := by unfold maxLen; omega
 have eP : ∀ k (hk : k < ps.length), _ := fun k hk => t4 (e0 := ps[k].id) (e1 := ps[k].site) (e2 := ps[k].top) (e3 := ps[k].version) (e4 := ps[k].loaded.map XLoaded.e) (e5 := ps[k].machine.script.map XInstr.e) (e6 := ps[k].machine.pc) (e7 := ps[k].machine.regs.map Cm) (e8 := ps[k].machine.steps) (e9 := ps[k].machine.done) (e10 := ps[k].machine.wait) (Nat.le_trans (hpg.2 _ (List.getElem_mem hk)).2.1 hB) (Nat.le_trans (hpg.2 _ (List.getElem_mem hk)).2.2.1 hB) (bY (fun _ q => XLoaded.has hB q) hB (hpg.2 _ (List.getElem_mem hk)).2.2.2.2.1)
 have eF : ∀ k (hk : k < ps.length), _ := fun k hk => pJ (bY (fun _ q => XBucket.has hB q) hB hb) ps[k].site ps[k].top
 have hlm : ps.length ≤ maxLen := Nat.le_trans hpg.1 hB
 intro k hk hp
 simp only [wsB1]
 unfold Mr at hp
 cases k with
 | zero =>
  have f1 := (show aa _ _ _ _ = some (aj (n8 ps[0])) from eP (0) hk)
  have f4 := (show aa _ _ _ _ = some (ae .i64 (GY bs ps[0])) from eF (0) hk)
  have hx := XPage.e.eq_1 ps[0]
  rw [iB hk] at hp
  generalize GY bs ps[0] = I at hp f4
  generalize n8 ps[0] = b1 at hp f1
  cases b1
  ·simp [hk, bP, f1, f4, hx] at hp
  by_cases q1 : nx ≤ ps[0].id
  ·simp [hk, bP, f1, f4, hx, q1] at hp
  by_cases q3 : I < 0
  ·simp [hk, bP, f1, f4, hx, q1, q3] at hp
  simp [dy, hk, bP, f1, f4, hx, q1, q3]
  exact Kn.q [0]
 | succ j =>
  have hj : j < ps.length := by omega
  obtain ⟨i1, i2, i3, i4, i5, i6⟩ := kJ hlm hk
  have f1 := (show aa _ _ _ _ = some (aj (n8 ps[j + 1])) from eP (j + 1) hk)
  have f4 := (show aa _ _ _ _ = some (ae .i64 (GY bs ps[j + 1])) from eF (j + 1) hk)
  have hx := XPage.e.eq_1 ps[j + 1]
  have hy := XPage.e.eq_1 ps[j]
  rw [iC hk] at hp
  generalize GY bs ps[j + 1] = I at hp f4
  generalize n8 ps[j + 1] = b1 at hp f1
  cases b1
  ·simp [hk, hj, i1, i2, i3, i4, i5, i6, f1, f4, hx, hy] at hp
  by_cases q1 : nx ≤ ps[j + 1].id
  ·simp [hk, hj, i1, i2, i3, i4, i5, i6, f1, f4, hx, hy, q1] at hp
  by_cases q2 : ps[j + 1].id ≤ ps[j].id
  ·simp [hk, hj, i1, i2, i3, i4, i5, i6, f1, f4, hx, hy, q1, q2] at hp
  by_cases q3 : I < 0
  ·simp [hk, hj, i1, i2, i3, i4, i5, i6, f1, f4, hx, hy, q1, q2, q3] at hp
  simp [dy, hk, hj, i1, i2, i3, i4, i5, i6, f1, f4, hx, hy, q1, q2, q3]
  exact Kn.q [0]
theorem wlB1bz (hB1 : B ≤ 1048576) (hb : bs.length ≤ B ∧ ∀ x ∈ bs, x.Ok B) (hpg : ps.length ≤ B ∧ ∀ x ∈ ps, x.Ok B) : 0 < ps.length → Mr bs nx ps 0 = true → ∀ ks, wp (aa Ph al) (Om [.tmp 2] (aj false)) (.sq qf :: ks) (aq (aa Ph al) ah dy (wsB1 now dev nx onl bs ps ls ms ss vs 0)) := by
 have hB : B ≤ maxLen := by unfold maxLen; omega
 have eP : ∀ k (hk : k < ps.length), _ := fun k hk => t4 (e0 := ps[k].id) (e1 := ps[k].site) (e2 := ps[k].top) (e3 := ps[k].version) (e4 := ps[k].loaded.map XLoaded.e) (e5 := ps[k].machine.script.map XInstr.e) (e6 := ps[k].machine.pc) (e7 := ps[k].machine.regs.map Cm) (e8 := ps[k].machine.steps) (e9 := ps[k].machine.done) (e10 := ps[k].machine.wait) (Nat.le_trans (hpg.2 _ (List.getElem_mem hk)).2.1 hB) (Nat.le_trans (hpg.2 _ (List.getElem_mem hk)).2.2.1 hB) (bY (fun _ q => XLoaded.has hB q) hB (hpg.2 _ (List.getElem_mem hk)).2.2.2.2.1)
 have eF : ∀ k (hk : k < ps.length), _ := fun k hk => pJ (bY (fun _ q => XBucket.has hB q) hB hb) ps[k].site ps[k].top
 have hlm : ps.length ≤ maxLen := Nat.le_trans hpg.1 hB
 intro hk hp ks
 simp only [wsB1]
 unfold Mr at hp
 have f1 := (show aa _ _ _ _ = some (aj (n8 ps[0])) from eP (0) hk)
 have f4 := (show aa _ _ _ _ = some (ae .i64 (GY bs ps[0])) from eF (0) hk)
 have hx := XPage.e.eq_1 ps[0]
 rw [iB hk] at hp
 generalize GY bs ps[0] = I at hp f4
 generalize n8 ps[0] = b1 at hp f1
 cases b1
 ·simp [wretA, dy, hk, bP, f1, f4, hx]
 by_cases q1 : nx ≤ ps[0].id
 ·simp [wretA, dy, hk, bP, f1, f4, hx, q1]
 by_cases q3 : I < 0
 ·simp [wretA, dy, hk, bP, f1, f4, hx, q1, q3]
 simp [hk, bP, f1, f4, hx, q1, q3] at hp
theorem wlB1bs (hB1 : B ≤ 1048576) (hb : bs.length ≤ B ∧ ∀ x ∈ bs, x.Ok B) (hpg : ps.length ≤ B ∧ ∀ x ∈ ps, x.Ok B) : ∀ j : Nat, j + 1 < ps.length → Mr bs nx ps (j + 1) = true → ∀ ks, wp (aa Ph al) (Om [.tmp 2] (aj false)) (.sq qf :: ks) (aq (aa Ph al) ah dy (wsB1 now dev nx onl bs ps ls ms ss vs (j + 1))) := by
 have hB : B ≤ maxLen := by unfold maxLen; omega
 have eP : ∀ k (hk : k < ps.length), _ := fun k hk => t4 (e0 := ps[k].id) (e1 := ps[k].site) (e2 := ps[k].top) (e3 := ps[k].version) (e4 := ps[k].loaded.map XLoaded.e) (e5 := ps[k].machine.script.map XInstr.e) (e6 := ps[k].machine.pc) (e7 := ps[k].machine.regs.map Cm) (e8 := ps[k].machine.steps) (e9 := ps[k].machine.done) (e10 := ps[k].machine.wait) (Nat.le_trans (hpg.2 _ (List.getElem_mem hk)).2.1 hB) (Nat.le_trans (hpg.2 _ (List.getElem_mem hk)).2.2.1 hB) (bY (fun _ q => XLoaded.has hB q) hB (hpg.2 _ (List.getElem_mem hk)).2.2.2.2.1)
 have eF : ∀ k (hk : k < ps.length), _ := fun k hk => pJ (bY (fun _ q => XBucket.has hB q) hB hb) ps[k].site ps[k].top
 have hlm : ps.length ≤ maxLen := Nat.le_trans hpg.1 hB
 intro j hk hp ks
 simp only [wsB1]
 unfold Mr at hp
 have hj : j < ps.length := by omega
 obtain ⟨i1, i2, i3, i4, i5, i6⟩ := kJ hlm hk
 have f1 := (show aa _ _ _ _ = some (aj (n8 ps[j + 1])) from eP (j + 1) hk)
 have f4 := (show aa _ _ _ _ = some (ae .i64 (GY bs ps[j + 1])) from eF (j + 1) hk)
 have hx := XPage.e.eq_1 ps[j + 1]
 have hy := XPage.e.eq_1 ps[j]
 rw [iC hk] at hp
 generalize GY bs ps[j + 1] = I at hp f4
 generalize n8 ps[j + 1] = b1 at hp f1
 cases b1
 ·simp [wretA, dy, hk, hj, i1, i2, i3, i4, i5, i6, f1, f4, hx, hy]
 by_cases q1 : nx ≤ ps[j + 1].id
 ·simp [wretA, dy, hk, hj, i1, i2, i3, i4, i5, i6, f1, f4, hx, hy, q1]
 by_cases q2 : ps[j + 1].id ≤ ps[j].id
 ·simp [wretA, dy, hk, hj, i1, i2, i3, i4, i5, i6, f1, f4, hx, hy, q1, q2]
 by_cases q3 : I < 0
 ·simp [wretA, dy, hk, hj, i1, i2, i3, i4, i5, i6, f1, f4, hx, hy, q1, q2, q3]
 simp [hk, hj, i1, i2, i3, i4, i5, i6, f1, f4, hx, hy, q1, q2, q3] at hp
theorem wlB1b (hB1 : B ≤ 1048576) (hb : bs.length ≤ B ∧ ∀ x ∈ bs, x.Ok B) (hpg : ps.length ≤ B ∧ ∀ x ∈ ps, x.Ok B) : ∀ k, k < ps.length → Mr bs nx ps k = true → ∀ ks, wp (aa Ph al) (Om [.tmp 2] (aj false)) (.sq qf :: ks) (aq (aa Ph al) ah dy (wsB1 now dev nx onl bs ps ls ms ss vs k))
 | 0 => wlB1bz hB1 hb hpg
 | j + 1 => wlB1bs hB1 hb hpg j
theorem A2 (hB1 : B ≤ 1048576) (hb : bs.length ≤ B ∧ ∀ x ∈ bs, x.Ok B) (hpg : ps.length ≤ B ∧ ∀ x ∈ ps, x.Ok B) (hlk : ls.length ≤ B ∧ ∀ x ∈ ls, x.Ok B) (hsi : ss.length ≤ B ∧ ∀ x ∈ ss, x.Ok B) (hsv : vs.length ≤ B ∧ ∀ x ∈ vs, x.Ok B) : aa Ph al 373 [.agg [.pv (.int .i64 now), .pv (.bool onl), .pv (.int .i64 dev), .pv (.lst (bs.map XBucket.e)), .pv (.lst (ps.map XPage.e)), .pv (.int .i64 nx), .pv (.lst (ls.map XLock.e)), .pv (.lst ms), .pv (.lst (ss.map XSite.e)), .pv (.lst (vs.map XServer.e))]] = some (aj (tb now dev nx bs ps ls ss vs)) := by
 have hB : B ≤ maxLen := by unfold maxLen; omega
 have e1 := gH now 0 999999990000
 have e2 := gH dev 1 1000000
 have e3 := xH hB1 hb
 have e5 := gH nx 1 1000000000000
 have e6 := uS hB hlk
 have eP : ∀ k (hk : k < ps.length), _ := fun k hk => t4 (e0 := ps[k].id) (e1 := ps[k].site) (e2 := ps[k].top) (e3 := ps[k].version) (e4 := ps[k].loaded.map XLoaded.e) (e5 := ps[k].machine.script.map XInstr.e) (e6 := ps[k].machine.pc) (e7 := ps[k].machine.regs.map Cm) (e8 := ps[k].machine.steps) (e9 := ps[k].machine.done) (e10 := ps[k].machine.wait) (Nat.le_trans (hpg.2 _ (List.getElem_mem hk)).2.1 hB) (Nat.le_trans (hpg.2 _ (List.getElem_mem hk)).2.2.1 hB) (bY (fun _ q => XLoaded.has hB q) hB (hpg.2 _ (List.getElem_mem hk)).2.2.2.2.1)
 have eF : ∀ k (hk : k < ps.length), _ := fun k hk => pJ (bY (fun _ q => XBucket.has hB q) hB hb) ps[k].site ps[k].top
 have eS : ∀ k (hk : k < ss.length), _ := fun k hk => CM hB (hsi.2 _ (List.getElem_mem hk))
 have eV : ∀ k (hk : k < vs.length), _ := fun k hk => zw hB (hsv.2 _ (List.getElem_mem hk))
 have hlm : ps.length ≤ maxLen := Nat.le_trans hpg.1 hB
 refine aw (fn := pp) rfl ?_
 have q7F : ¬ ss.length = 3 → tb now dev nx bs ps ls ss vs = false := fun h => by simp [tb, h]
 have q8F : ¬ vs.length = 3 → tb now dev nx bs ps ls ss vs = false := fun h => by simp [tb, h]
 have q4F : ¬ (ps.length : Int) ≤ 6 → tb now dev nx bs ps ls ss vs = false := fun h => by simp [tb, h]
 simp [pp]
 by_cases q7 : ss.length = 3
 rotate_left
 ·have r7 : ((ss.length : Int) != 3) = true := by simp; omega
  have u7 : ¬ (ss.length : Int) = 3 := by omega
  rw [q7F q7]
  simp [q7, r7, u7]
 have r7 : ((ss.length : Int) != 3) = false := by rw [q7]; rfl
 have u7 : (ss.length : Int) = 3 := by omega
 simp [r7, u7]
 by_cases q8 : vs.length = 3
 rotate_left
 ·have r8 : ((vs.length : Int) != 3) = true := by simp; omega
  have u8 : ¬ (vs.length : Int) = 3 := by omega
  rw [q8F q8]
  simp [q8, r8, u8]
 have r8 : ((vs.length : Int) != 3) = false := by rw [q8]; rfl
 have u8 : (vs.length : Int) = 3 := by omega
 simp [r8, u8]
 by_cases q4 : (6 : Int) < (ps.length : Int)
 ·have r4 : 6 < ps.length := by omega
  have s4 : ¬ (ps.length : Int) ≤ 6 := by omega
  rw [q4F s4]
  simp [q4, r4]
 have r4 : ¬ 6 < ps.length := by omega
 have s4 : (ps.length : Int) ≤ 6 := by omega
 clear q7F q8F q4F
 simp [q4, r4]
 refine Gp bh Cl.fin (wsB0 now dev nx onl bs ps ls ms ss vs) 3 (NP ss vs) rfl ?_ ?_ ?_ ?_
 ·unfold wsB0
  exact Kn.q [0]
 ·exact wlB0a hB1 hsi hsv q7 q8
 ·intro k hk hp _
  rw [Jw hk hp]
  exact wlB0b hB1 hsi hsv q7 q8 k hk hp _
 ·intro h2
  simp [wsB0, cB]
  refine Gp bh Cl.fin (wsB1 now dev nx onl bs ps ls ms ss vs) ps.length (Mr bs nx ps) rfl ?_ ?_ ?_ ?_
  ·unfold wsB1
   exact Kn.q [0]
  ·exact wlB1a hB1 hb hpg
  ·intro k hk hp _
   have hF : tb now dev nx bs ps ls ss vs = false := by exact Jv hk hp
   rw [hF]
   exact wlB1b hB1 hb hpg k hk hp _
  · skip
    intro h1
    rw [Ju h1 h2 q7 q8]
    generalize rg now 0 999999990000 = b1 at e1 ⊢
    generalize rg dev 1 1000000 = b2 at e2 ⊢
    generalize lP bs = b3 at e3 ⊢
    generalize rg nx 1 1000000000000 = b5 at e5 ⊢
    generalize iI ls = b6 at e6 ⊢
    simp [wsB1, dy, e1, s4]
    cases b1
    ·simp
    simp [e2]
    cases b2
    ·simp
    simp [e3]
    cases b3
    ·simp
    simp [e5]
    cases b5
    ·simp
    simp [e6]
end
end Gi
