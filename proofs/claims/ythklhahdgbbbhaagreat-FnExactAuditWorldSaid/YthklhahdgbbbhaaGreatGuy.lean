/- Of this proof. -/
import Derived.Test.YthklhahdgbbbhaaGreatGxl
import Derived.Test.YthklhahdgbbbhaaGreatGxjc
import Derived.Test.YthklhahdgbbbhaaGreatGyh
set_option linter.unusedSimpArgs false
namespace Gi
open Go Go.RowKit
set_option maxHeartbeats 8000000
set_option maxRecDepth 4000
attribute [local simp] bW am bg bt cF dN Opd.ev put V.cells plain bz hJ isInt isStr isBool bin bf aS aR un asList L.view aB V.view viewL bC aC aT cj comp bq bZ bK a9 aK aI aJ aQ aE ba ar aM aA av aO aN aL aP thawT bB bw cd bG bA bz V.flat L.flat dX dJ bS putAt thaw thawL freezeVs freezeLs freezeL V.mut L.mut bm aZ wp_seq wp_block bE wp_cond wp_skip wp_exit wp_ret cN cE cK cH cS cT cR cq bj L.notArr aY aW aX bH bI
theorem Ib (a b : XKey) : kF [.i, .i, .s] [.pv (.int .i64 a.kind), .pv (.int .i64 a.n), .pv (.str a.text)] [.pv (.int .i64 b.kind), .pv (.int .i64 b.n), .pv (.str b.text)] = some (Ia a b) := by simp [kF, GP, Ia]
section
variable {B : Nat}
theorem vQ (hB : B ≤ maxLen) {a b : XItem} (ha : a.Ok B) (hb : b.Ok B) : aa Ph al 325 [.agg [.pv (.int .i64 a.key.kind), .pv (.int .i64 a.key.n), .pv (.str a.key.text), .pv (.lst (a.rcd.fs.map XField.e))], .agg [.pv (.int .i64 b.key.kind), .pv (.int .i64 b.key.n), .pv (.str b.key.text), .pv (.lst (b.rcd.fs.map XField.e))]] = some (aj (Jk a b)) := by
 have e1 := tE (a := a.rcd) (b := b.rcd) (Nat.le_trans ha.2.1 hB) (Nat.le_trans hb.2.1 hB)
 have e2 := Ib a.key b.key
 refine aw (fn := j4) rfl ?_
 unfold Jk
 generalize Ia a.key b.key = K at e2 ⊢
 generalize Dj a.rcd b.rcd = R at e1 ⊢
 cases K
 ·simp [j4, e2]
 ·simp [j4, e2, e1]
theorem Fk (hB : B ≤ maxLen) {a b : List XItem} (ha : a.length ≤ B ∧ ∀ x ∈ a, x.Ok B) (hb : b.length ≤ B ∧ ∀ x ∈ b, x.Ok B) : aa Ph al 324 [bJ (a.map XItem.e), bJ (b.map XItem.e), .one (.fn 325 [])] = some (aj (pY Jk a b)) := by
 have hbm := Nat.le_trans hb.1 hB
 have e1 : ∀ k (h1 : k < a.length) (h2 : k < b.length), _ := fun k h1 h2 => vQ hB (ha.2 _ (List.getElem_mem h1)) (hb.2 _ (List.getElem_mem h2))
 refine aw (fn := cg) rfl ?_
 by_cases hl : a.length = b.length
 ·have hlb : ((a.length : Int) != (b.length : Int)) = false := by simp [hl]
  simp [cg, hl, hlb]
  refine bU bh Cl.fin [.f,.t,.t,.f,.f,.f,.f,.f,.f,.f,.f,.f,.f,.f,.f,.t,.t,.t,.f,.f,.f,.f,.f,.f,.f,.f,.f,.f,.f,.f,.f,.f] (fun k => [(17, ae .i64 k)]) b.length (AZ Jk a b) rfl ?_ ?_ ?_ ?_
  ·exact Kn.q []
  ·intro k hk hp
   have hka : k < a.length := by omega
   have hw := ag (k := k) (by unfold maxLen at hbm; omega)
   have hx := XItem.e.eq_1 a[k]
   have hy := XItem.e.eq_1 b[k]
   have e1k := e1 k hka hk
   rw [p8 hka hk] at hp
   have hq : Jk a[k] b[k] = true := by simpa using hp
   rw [hq] at e1k
   simp [bM, hk, hka, hl, hx, hy, e1k, hw]
   exact Kn.q []
  ·intro k hk hp _
   have hka : k < a.length := by omega
   have hx := XItem.e.eq_1 a[k]
   have hy := XItem.e.eq_1 b[k]
   have e1k := e1 k hka hk
   rw [wy hka hp]
   rw [p8 hka hk] at hp
   have hq : Jk a[k] b[k] = false := by simpa using hp
   rw [hq] at e1k
   simp [bM, hk, hka, hl, hx, hy, e1k]
  ·intro hp
   rw [uo hl (fun k hk => hp k (by omega))]
   simp [bM, hl]
 ·have hlb : ((a.length : Int) != (b.length : Int)) = true := by simp; omega
  rw [oY hl]
  simp [cg, hl, hlb]
theorem oI (hB : B ≤ maxLen) {a b : XStore} (ha : a.Ok B) (hb : b.Ok B) : aa Ph al 312 [.agg [.pv (.str a.name), .pv (.lst (a.items.map XItem.e)), .pv (.int .i64 a.auto)], .agg [.pv (.str b.name), .pv (.lst (b.items.map XItem.e)), .pv (.int .i64 b.auto)]] = some (aj (yc a b)) := by
 have e1 := Fk hB ha.2.1 hb.2.1
 refine aw (fn := iG) rfl ?_
 unfold yc
 generalize pY Jk a.items b.items = R at e1 ⊢
 have l1 : fE .eql a.name b.name = some (aj (a.name == b.name)) := rfl
 generalize hn : (a.name == b.name) = N at l1 ⊢
 generalize hu : (a.auto == b.auto) = U
 cases N
 ·simp [iG, ↓l1, hn, hu]
 ·cases U
  ·simp [iG, ↓l1, hn, hu]
  ·simp [iG, ↓l1, hn, hu, e1]
theorem oL (hB : B ≤ maxLen) {a b : XStore} (ha : a.Ok B) (hb : b.Ok B) : aa Ph al 310 [.agg [.pv (.str a.name), .pv (.lst (a.items.map XItem.e)), .pv (.int .i64 a.auto)], .agg [.pv (.str b.name), .pv (.lst (b.items.map XItem.e)), .pv (.int .i64 b.auto)]] = some (aj (yc a b)) := by
 have hbm := Nat.le_trans hb.2.1.1 hB
 have e1 : ∀ k (h1 : k < a.items.length) (h2 : k < b.items.length), aa Ph al 322 [.agg [.pv (.lst (a.items[k].rcd.fs.map XField.e))], .agg [.pv (.lst (b.items[k].rcd.fs.map XField.e))]] = some (aj (Dj a.items[k].rcd b.items[k].rcd)) := fun k h1 h2 => tZ (Nat.le_trans (ha.2.1.2 _ (List.getElem_mem h1)).2.1 hB) (Nat.le_trans (hb.2.1.2 _ (List.getElem_mem h2)).2.1 hB)
 obtain ⟨an, ai, au⟩ := a
 obtain ⟨bn, bi, bu⟩ := b
 simp only at e1 hbm ⊢
 refine aw (fn := gX) rfl ?_
 unfold yc
 simp only
 cases hn : (an == bn)
 ·simp [gX, hn]
 by_cases hu : au = bu
 ·subst hu
  by_cases hl : ai.length = bi.length
  ·have hlb : ((ai.length : Int) != (bi.length : Int)) = false := by simp [hl]
   simp [gX, hn, hl, hlb]
   refine bU bh Cl.fin [.f,.f,.t,.t,.f,.t,.f,.f,.f,.f,.f,.f,.f,.f,.f,.f,.f,.f,.f,.f,.f,.f,.f,.f,.f,.f,.f,.f,.f,.f,.f,.f,.f,.f,.f,.f,.f,.f,.f,.f,.f,.f,.f,.f,.f,.f,.f,.f,.f,.f,.f,.f,.f,.f,.f,.f,.f,.f,.f,.f,.f,.f,.f] (fun k => [(5, ae .i64 k)]) bi.length (AZ Jk ai bi) rfl ?_ ?_ ?_ ?_
   ·exact Kn.q [0, 1]
   ·intro k hk hp
    have hka : k < ai.length := by omega
    have hw := ag (k := k) (by unfold maxLen at hbm; omega)
    have hx := XItem.e.eq_1 ai[k]
    have hy := XItem.e.eq_1 bi[k]
    have e1k := e1 k hka hk
    have e2 := Ib ai[k].key bi[k].key
    rw [p8 hka hk] at hp
    have hq : Ia ai[k].key bi[k].key = true ∧ Dj ai[k].rcd bi[k].rcd = true := by simpa [Jk] using hp
    rw [hq.1] at e2
    rw [hq.2] at e1k
    simp [gg, hk, hka, hl, hx, hy, e1k, e2, hw]
    exact Kn.q [0, 1]
   ·intro k hk hp _
    have hka : k < ai.length := by omega
    have hx := XItem.e.eq_1 ai[k]
    have hy := XItem.e.eq_1 bi[k]
    have e1k := e1 k hka hk
    have e2 := Ib ai[k].key bi[k].key
    rw [wy hka hp]
    rw [p8 hka hk] at hp
    unfold Jk at hp
    cases h1 : Ia ai[k].key bi[k].key <;> rw [h1] at e2 hp
    ·simp [gg, hk, hka, hl, hx, hy, e2]
    ·have h2 : Dj ai[k].rcd bi[k].rcd = false := by simpa using hp
     rw [h2] at e1k
     simp [gg, hk, hka, hl, hx, hy, e2, e1k]
   ·intro hp
    rw [uo hl (fun k hk => hp k (by omega))]
    simp [gg, hl]
  ·have hlb : ((ai.length : Int) != (bi.length : Int)) = true := by simp; omega
   rw [oY hl]
   simp [gX, hn, hl, hlb]
 ·have hub : (au != bu) = true := by simpa using hu
  simp [gX, hn, hu, hub]
end
section
variable {B : Nat} {c0 : Int} {c1 : Bool} {c2 : Int} {c3 c4 : List (List PV)} {c5 : Int} {c6 c7 c8 : List (List PV)} {srv : List XServer}
end
def hH : XStore := ⟨[110, 111, 116, 101, 115], [], 0⟩
theorem ma {B : Nat} (h : 5 ≤ B) : hH.Ok B := ⟨by simpa [hH] using h, ⟨by simp [hH], by simp [hH]⟩, by unfold nb; simp [hH]⟩
def sV (srv : List XServer) (b : XBucket) : Bool := cond (decide (bX b.site < 0)) false (match srv[(bX b.site).toNat]? with
 | some s => !(decide (0 ≤ b.replica.seen) && decide (b.replica.seen ≤ (s.changes.length : Int))) || !(yc (cJ hH (s.changes.take b.replica.seen.toNat)) b.replica.base)
 | none => true)
theorem xy (srv : List XServer) (b : XBucket) : (bX b.site < 0 ∧ sV srv b = false) ∨ (∃ i : Nat, bX b.site = (i : Int) ∧ srv.length ≤ i ∧ sV srv b = true) ∨
 ∃ i, ∃ hi : i < srv.length, bX b.site = (i : Int) ∧ (((decide (0 ≤ b.replica.seen) && decide (b.replica.seen ≤ (srv[i].changes.length : Int))) = false ∧ sV srv b = true) ∨
  ∃ m : Nat, b.replica.seen = (m : Int) ∧ m ≤ srv[i].changes.length ∧ sV srv b = !(yc (cJ hH (srv[i].changes.take m)) b.replica.base)) := by
 unfold sV
 by_cases h1 : bX b.site < 0
 ·exact .inl ⟨h1, by simp [h1]⟩
 ·obtain ⟨i, hi⟩ := Int.eq_ofNat_of_zero_le (show 0 ≤ bX b.site by omega)
  have hd : decide (bX b.site < 0) = false := by simpa using h1
  rw [hd, hi]
  simp only [cond_false, Int.toNat_natCast]
  by_cases h2 : i < srv.length
  ·refine .inr (.inr ⟨i, h2, rfl, ?_⟩)
   rw [List.getElem?_eq_getElem h2]
   simp only
   cases h3 : (decide (0 ≤ b.replica.seen) && decide (b.replica.seen ≤ (srv[i].changes.length : Int))) with
   | false => exact .inl ⟨rfl, by simp⟩
   | true =>
    simp only [Bool.and_eq_true, decide_eq_true_eq] at h3
    obtain ⟨m, hm⟩ := Int.eq_ofNat_of_zero_le h3.1
    refine .inr ⟨m, hm, by omega, ?_⟩
    rw [hm]
    simp
  ·refine .inr (.inl ⟨i, rfl, by omega, ?_⟩)
   rw [List.getElem?_eq_none (by omega)]
section
variable {c0 : Int} {c1 : Bool} {c2 : Int} {c4 : List (List PV)} {c5 : Int} {c6 c7 c8 : List (List PV)} {bs : List XBucket} {srv : List XServer}
theorem ta (hb : bs.length ≤ 1048576 ∧ ∀ x ∈ bs, x.Ok 1048576) (hs : srv.length ≤ 1048576 ∧ ∀ x ∈ srv, x.Ok 1048576) : aa Ph al 301 [.agg [.pv (.int .i64 c0), .pv (.bool c1), .pv (.int .i64 c2), .pv (.lst (bs.map XBucket.e)), .pv (.lst c4), .pv (.int .i64 c5), .pv (.lst c6), .pv (.lst c7), .pv (.lst c8), .pv (.lst (srv.map XServer.e))]] = some (aj (!(bs.any (sV srv)))) := by
 refine aw (fn := ko) rfl ?_
 generalize hA : bs.any (sV srv) = A
 simp [ko]
 refine zB bh Cl.fin bs (sV srv) [.f,.t,.f,.f,.f,.f,.f,.f,.t,.t,.t,.f,.f,.f,.f,.f,.f,.f,.f,.f,.f,.f,.f,.f,.f,.f,.f,.f,.f,.f,.f,.f,.f,.f,.f,.f,.f,.f,.f,.f,.f,.f,.f,.f,.f,.f,.f,.f,.f,.f,.f,.f,.f,.f,.f,.f] (fun k => [(10, ae .i64 k)]) rfl ?_ ?_ ?_ ?_
 ·exact Kn.q [0]
 ·intro k hk hp
  have hw := ag (k := k) (by omega)
  have e1 := fG bs[k].site
  have hx := XBucket.e.eq_1 bs[k]
  rcases xy srv bs[k] with ⟨h1, _⟩ | ⟨i, _, _, h1⟩ | ⟨i, hi, hn, ⟨_, h1⟩ | ⟨m, hm, hml, h1⟩⟩
  ·generalize bX bs[k].site = n at e1 h1
   simp [dC, hk, hx, e1, h1, hw]
   exact Kn.q [0]
  ·rw [h1] at hp; cases hp
  ·rw [h1] at hp; cases hp
  ·rw [h1] at hp
   have hsi := hs.2 _ (List.getElem_mem hi)
   have hbk := (hb.2 _ (List.getElem_mem hk)).2.2.2.2.2.1
   have hT := nf (B := 1048576) (by omega) (s := hH) (ws := srv[i].changes.take m) (ma (by omega)) (fun w hw => hsi.2.2.2 w (List.mem_of_mem_take hw))
   have e2 := dz bs[k].replica.seen 0 srv[i].changes.length
   have e3 := sR (by omega) (by omega) (s := hH) (ws := srv[i].changes.take m) (ma (by omega)) (by have := hsi.2.2.1; simp; omega) (fun w hw => hsi.2.2.2 w (List.mem_of_mem_take hw))
   have e4 := oI (by unfold maxLen; omega) hT hbk.1
   have hq : yc (cJ hH (srv[i].changes.take m)) bs[k].replica.base = true := by simpa using hp
   rw [hq] at e4
   rw [hn] at e1
   rw [hm] at hx e2
   have hb2 : (decide ((0 : Int) ≤ (m : Int)) && decide ((m : Int) ≤ (srv[i].changes.length : Int))) = true := by simp; omega
   rw [hb2] at e2
   rw [List.map_take] at e3
   unfold tt at e3
   generalize cJ hH (srv[i].changes.take m) = T at e3 e4
   simp only [hH, List.map_nil] at e3
   have hxs := XServer.e.eq_1 srv[i]
   have q0 : ¬ (i : Int) < 0 := by omega
   have q1 : ¬ (srv.length : Int) ≤ (i : Int) := by omega
   have q2 := Nat.not_le.2 hi
   have q7 := kL XWrite.len srv[i].changes
   rcases fM 4 (T.items.map XItem.e) with ⟨r1, _, o1⟩ | ⟨_, _, o1⟩ <;> rw [o1] at e3 <;> (try rw [r1] at e4) <;> simp [dC, hk, hx, e1, q0, hi, hxs, q1, q2, ↓q7, hml, e2, e3, e4, hw]
   ·exact Kn.q [0]
   ·exact Kn.q [0]
 ·intro k hk hp hany
  have hA2 : A = true := by rw [← hA]; exact hany
  rw [hA2]
  have e1 := fG bs[k].site
  have hx := XBucket.e.eq_1 bs[k]
  rcases xy srv bs[k] with ⟨_, h1⟩ | ⟨i, hn, hge, h1⟩ | ⟨i, hi, hn, ⟨hr, h1⟩ | ⟨m, hm, hml, h1⟩⟩
  ·rw [h1] at hp; cases hp
  ·rw [hn] at e1
   have q0 : ¬ (i : Int) < 0 := by omega
   have q1 : (srv.length : Int) ≤ (i : Int) := by omega
   simp [dC, hk, hx, e1, q0, q1, hge]
  ·rw [hn] at e1
   have e2 := dz bs[k].replica.seen 0 srv[i].changes.length
   rw [hr] at e2
   have hxs := XServer.e.eq_1 srv[i]
   have q0 : ¬ (i : Int) < 0 := by omega
   have q1 : ¬ (srv.length : Int) ≤ (i : Int) := by omega
   have q2 := Nat.not_le.2 hi
   simp [dC, hk, hx, e1, q0, hi, hxs, q1, q2, e2]
  ·rw [h1] at hp
   have hsi := hs.2 _ (List.getElem_mem hi)
   have hbk := (hb.2 _ (List.getElem_mem hk)).2.2.2.2.2.1
   have hT := nf (B := 1048576) (by omega) (s := hH) (ws := srv[i].changes.take m) (ma (by omega)) (fun w hw => hsi.2.2.2 w (List.mem_of_mem_take hw))
   have e2 := dz bs[k].replica.seen 0 srv[i].changes.length
   have e3 := sR (by omega) (by omega) (s := hH) (ws := srv[i].changes.take m) (ma (by omega)) (by have := hsi.2.2.1; simp; omega) (fun w hw => hsi.2.2.2 w (List.mem_of_mem_take hw))
   have e4 := oI (by unfold maxLen; omega) hT hbk.1
   have hq : yc (cJ hH (srv[i].changes.take m)) bs[k].replica.base = false := by simpa using hp
   rw [hq] at e4
   rw [hn] at e1
   rw [hm] at hx e2
   have hb2 : (decide ((0 : Int) ≤ (m : Int)) && decide ((m : Int) ≤ (srv[i].changes.length : Int))) = true := by simp; omega
   rw [hb2] at e2
   rw [List.map_take] at e3
   unfold tt at e3
   generalize cJ hH (srv[i].changes.take m) = T at e3 e4
   simp only [hH, List.map_nil] at e3
   have hxs := XServer.e.eq_1 srv[i]
   have q0 : ¬ (i : Int) < 0 := by omega
   have q1 : ¬ (srv.length : Int) ≤ (i : Int) := by omega
   have q2 := Nat.not_le.2 hi
   have q7 := kL XWrite.len srv[i].changes
   rcases fM 4 (T.items.map XItem.e) with ⟨r1, _, o1⟩ | ⟨_, _, o1⟩ <;> rw [o1] at e3 <;> (try rw [r1] at e4) <;> simp [dC, hk, hx, e1, q0, hi, hxs, q1, q2, ↓q7, hml, e2, e3, e4]
 ·intro hany
  have hA2 : A = false := by rw [← hA]; exact hany
  rw [hA2]
  simp [dC]
end
section
variable {c0 : Int} {c1 : Bool} {c2 : Int} {c4 : List (List PV)} {c5 : Int} {c6 c7 c8 : List (List PV)} {bs : List XBucket} {srv : List XServer}
theorem tf (hb : bs.length ≤ 1048576 ∧ ∀ x ∈ bs, x.Ok 1048576) (hs : srv.length ≤ 1048576 ∧ ∀ x ∈ srv, x.Ok 1048576) : aa Ph al 300 [.agg [.pv (.int .i64 c0), .pv (.bool c1), .pv (.int .i64 c2), .pv (.lst (bs.map XBucket.e)), .pv (.lst c4), .pv (.int .i64 c5), .pv (.lst c6), .pv (.lst c7), .pv (.lst c8), .pv (.lst (srv.map XServer.e))]] = some (aj (!(bs.any (sV srv)))) := by
 refine aw (fn := ky) rfl ?_
 generalize hA : bs.any (sV srv) = A
 simp [ky]
 refine zB bh Cl.fin bs (sV srv) [.f,.t,.f,.t,.f,.f,.f,.f,.f,.f,.f,.f,.f,.f,.f,.f,.f,.f,.f,.f,.f,.f,.f,.f,.f,.f,.f,.f,.f,.f,.f,.f,.f,.f,.f,.f,.f,.f,.f,.f,.f,.f,.f,.f,.f,.f,.f,.f,.f,.f,.f,.f,.f,.f,.f,.f,.f,.f] (fun k => [(3, ae .i64 k)]) rfl ?_ ?_ ?_ ?_
 ·exact Kn.q [0]
 ·intro k hk hp
  have hw := ag (k := k) (by omega)
  have e1 := iK bs[k].site
  have hx := XBucket.e.eq_1 bs[k]
  rcases xy srv bs[k] with ⟨h1, _⟩ | ⟨i, _, _, h1⟩ | ⟨i, hi, hn, ⟨_, h1⟩ | ⟨m, hm, hml, h1⟩⟩
  ·generalize bX bs[k].site = n at e1 h1
   simp [dG, hk, hx, e1, h1, hw]
   exact Kn.q [0]
  ·rw [h1] at hp; cases hp
  ·rw [h1] at hp; cases hp
  ·rw [h1] at hp
   have hsi := hs.2 _ (List.getElem_mem hi)
   have hbk := (hb.2 _ (List.getElem_mem hk)).2.2.2.2.2.1
   have hT := nf (B := 1048576) (by omega) (s := hH) (ws := srv[i].changes.take m) (ma (by omega)) (fun w hw => hsi.2.2.2 w (List.mem_of_mem_take hw))
   have e2 := fv bs[k].replica.seen 0 srv[i].changes.length
   have e3 := rp (by omega) (by omega) (s := hH) (ws := srv[i].changes.take m) (ma (by omega)) (by have := hsi.2.2.1; simp; omega) (fun w hw => hsi.2.2.2 w (List.mem_of_mem_take hw))
   have e4 := oL (by unfold maxLen; omega) hbk.1 hT
   have hq : yc (cJ hH (srv[i].changes.take m)) bs[k].replica.base = true := by simpa using hp
   rw [Ef, hq] at e4
   rw [hn] at e1
   rw [hm] at hx e2
   have hb2 : (decide ((0 : Int) ≤ (m : Int)) && decide ((m : Int) ≤ (srv[i].changes.length : Int))) = true := by simp; omega
   rw [hb2] at e2
   rw [List.map_take] at e3
   unfold tt at e3
   generalize cJ hH (srv[i].changes.take m) = T at e3 e4
   simp only [hH, List.map_nil] at e3
   have hxs := XServer.e.eq_1 srv[i]
   have q0 : ¬ (i : Int) < 0 := by omega
   have q1 : ¬ (srv.length : Int) ≤ (i : Int) := by omega
   have q2 := Nat.not_le.2 hi
   have q7 := kL XWrite.len srv[i].changes
   rcases fM 4 (T.items.map XItem.e) with ⟨r1, _, o1⟩ | ⟨_, _, o1⟩ <;> rw [o1] at e3 <;> (try rw [r1] at e4) <;> simp [dG, hk, hx, e1, q0, hi, hxs, q1, q2, ↓q7, hml, e2, e3, e4, hw]
   ·exact Kn.q [0]
   ·exact Kn.q [0]
 ·intro k hk hp hany
  have hA2 : A = true := by rw [← hA]; exact hany
  rw [hA2]
  have e1 := iK bs[k].site
  have hx := XBucket.e.eq_1 bs[k]
  rcases xy srv bs[k] with ⟨_, h1⟩ | ⟨i, hn, hge, h1⟩ | ⟨i, hi, hn, ⟨hr, h1⟩ | ⟨m, hm, hml, h1⟩⟩
  ·rw [h1] at hp; cases hp
  ·rw [hn] at e1
   have q0 : ¬ (i : Int) < 0 := by omega
   have q1 : (srv.length : Int) ≤ (i : Int) := by omega
   simp [dG, hk, hx, e1, q0, q1, hge]
  ·rw [hn] at e1
   have e2 := fv bs[k].replica.seen 0 srv[i].changes.length
   rw [hr] at e2
   have hxs := XServer.e.eq_1 srv[i]
   have q0 : ¬ (i : Int) < 0 := by omega
   have q1 : ¬ (srv.length : Int) ≤ (i : Int) := by omega
   have q2 := Nat.not_le.2 hi
   simp [dG, hk, hx, e1, q0, hi, hxs, q1, q2, e2]
  ·rw [h1] at hp
   have hsi := hs.2 _ (List.getElem_mem hi)
   have hbk := (hb.2 _ (List.getElem_mem hk)).2.2.2.2.2.1
   have hT := nf (B := 1048576) (by omega) (s := hH) (ws := srv[i].changes.take m) (ma (by omega)) (fun w hw => hsi.2.2.2 w (List.mem_of_mem_take hw))
   have e2 := fv bs[k].replica.seen 0 srv[i].changes.length
   have e3 := rp (by omega) (by omega) (s := hH) (ws := srv[i].changes.take m) (ma (by omega)) (by have := hsi.2.2.1; simp; omega) (fun w hw => hsi.2.2.2 w (List.mem_of_mem_take hw))
   have e4 := oL (by unfold maxLen; omega) hbk.1 hT
   have hq : yc (cJ hH (srv[i].changes.take m)) bs[k].replica.base = false := by simpa using hp
   rw [Ef, hq] at e4
   rw [hn] at e1
   rw [hm] at hx e2
   have hb2 : (decide ((0 : Int) ≤ (m : Int)) && decide ((m : Int) ≤ (srv[i].changes.length : Int))) = true := by simp; omega
   rw [hb2] at e2
   rw [List.map_take] at e3
   unfold tt at e3
   generalize cJ hH (srv[i].changes.take m) = T at e3 e4
   simp only [hH, List.map_nil] at e3
   have hxs := XServer.e.eq_1 srv[i]
   have q0 : ¬ (i : Int) < 0 := by omega
   have q1 : ¬ (srv.length : Int) ≤ (i : Int) := by omega
   have q2 := Nat.not_le.2 hi
   have q7 := kL XWrite.len srv[i].changes
   rcases fM 4 (T.items.map XItem.e) with ⟨r1, _, o1⟩ | ⟨_, _, o1⟩ <;> rw [o1] at e3 <;> (try rw [r1] at e4) <;> simp [dG, hk, hx, e1, q0, hi, hxs, q1, q2, ↓q7, hml, e2, e3, e4]
 ·intro hany
  have hA2 : A = false := by rw [← hA]; exact hany
  rw [hA2]
  simp [dG]
end
end Gi
namespace Gi
open Go Go.RowKit
set_option maxHeartbeats 4000000
set_option maxRecDepth 4000
attribute [local simp] bW eM aq am bg bt cF dN Opd.ev put V.cells plain bz hJ isInt isStr isBool bin bf aS aR un asList L.view aB V.view viewL done bC aC aT cj comp bq bZ a8 V.flat L.flat dX dJ bS putAt thaw thawL freezeVs freezeLs freezeL V.mut L.mut bm aZ
def pG : List PV → Bool
 | [_, _, _, _, _, _, .lst d6, _, _, .lst d9, _, .lst d11, _, _, .lst d14, _, _, _, _, .lst d19, _, _, _, _] => decide (2500 < qI d6 d9 d11 d14 d19)
 | _ => false
theorem Mf {c3 : List (List PV)} (hl : c3.length ≤ maxLen) (hr : ∀ r ∈ c3, be dm r) : ∀ (m k : Nat) (i : Int), i = k → k + m = c3.length → ∀ (x0 x1 x2 x3 x4 x5 x6 x10 x11 x12 x13 x14 x15 x16 : V) (h : List AObj),
 jm (ah (aq (aa Ph al) ah dD) ⟨(x0 :: x1 :: x2 :: x3 :: x4 :: x5 :: x6 :: bJ c3 :: ae .i64 c3.length :: ae .i64 i :: x10 :: x11 :: x12 :: x13 :: x14 :: x15 :: x16 :: []), h⟩) fun e σ' => (e = .exit 0 ∧ (c3.drop k).any (pG) = false ∧ ∃ (x0 x1 x2 x3 x4 x5 x6 x10 x11 x12 x13 x14 x15 x16 : V) (h' : List AObj), σ' = ⟨(x0 :: x1 :: x2 :: x3 :: x4 :: x5 :: x6 :: bJ c3 :: ae .i64 c3.length :: ae .i64 (c3.length : Nat) :: x10 :: x11 :: x12 :: x13 :: x14 :: x15 :: x16 :: []), h'⟩) ∨ (e = .ret ∧ (c3.drop k).any (pG) = true ∧ σ'.t.length = 17 ∧ σ'.t[2]? = some (aj false)) := by
 generalize hF : aq (aa Ph al) ah dD = F
 intro m
 induction m with
 | zero =>
  intro k i hi hk x0 x1 x2 x3 x4 x5 x6 x10 x11 x12 x13 x14 x15 x16 h
  subst hi
  have hk' : k = c3.length := by omega
  subst hk'
  rw [aG hF]
  simp (maxSteps := 4000000) [dD, bN, bD]
 | succ m ih =>
  intro k i hi hk x0 x1 x2 x3 x4 x5 x6 x10 x11 x12 x13 x14 x15 x16 h
  subst hi
  have hlt : k < c3.length := by omega
  have hw := ag (k := k) (by unfold maxLen at hl; omega)
  obtain ⟨d0, d1, d2, d3, d4, d5, d6, d7, d8, d9, d10, d11, d12, d13, d14, d15, d16, d17, d18, d19, d20, d21, d22, d23, hrk, _, _, _, _, _, _, h6, _, _, h9, _, _, _, _, h14, _⟩ := mj (hr _ (List.getElem_mem hlt))
  have e1 := sQ (d0 := d0) (d1 := d1) (d2 := d2) (d3 := d3) (d4 := d4) (d5 := d5) (d7 := d7) (d8 := d8) (d10 := d10) (d11 := d11) (d12 := d12) (d13 := d13) (d15 := d15) (d16 := d16) (d17 := d17) (d18 := d18) (d19 := d19) (d20 := d20) (d21 := d21) (d22 := d22) (d23 := d23) h6 h9 h14
  have hp : pG c3[k] = decide (2500 < qI d6 d9 d11 d14 d19) := by rw [hrk]; rfl
  generalize qI d6 d9 d11 d14 d19 = u at e1 hp
  have key := ih (k + 1) ((k : Int) + 1) (by omega) (by omega)
  clear ih
  rw [List.drop_eq_getElem_cons hlt]
  rw [List.any_cons]
  generalize (c3.drop (k + 1)).any (pG) = B at key ⊢
  rw [aG hF]
  rw [hp]; by_cases c1 : 2500 < u <;>
   first
   | omega
   | (simp [dD, hlt, hw, hrk, e1, c1]
      exact key _ _ _ _ _ _ _ _ _ _ _ _ _ _ _)
   | (simp [dD, hlt, hw, hrk, e1, c1, bD]; done)
theorem KK {c3 : List (List PV)} (hl : c3.length ≤ maxLen) (hr : ∀ r ∈ c3, be dm r) : ∀ (m k : Nat) (i : Int), i = k → k + m = c3.length → ∀ (x0 x1 x2 x3 x4 x5 x6 x10 x11 x12 x13 x14 x15 x16 : V) (h : List AObj) (σ : St), σ = ⟨(x0 :: x1 :: x2 :: x3 :: x4 :: x5 :: x6 :: bJ c3 :: ae .i64 c3.length :: ae .i64 i :: x10 :: x11 :: x12 :: x13 :: x14 :: x15 :: x16 :: []), h⟩ →
 jm (ah (aq (aa Ph al) ah dD) σ) fun e σ' => (e = .exit 0 ∧ (c3.drop k).any (pG) = false ∧ ∃ (x0 x1 x2 x3 x4 x5 x6 x10 x11 x12 x13 x14 x15 x16 : V) (h' : List AObj), σ' = ⟨(x0 :: x1 :: x2 :: x3 :: x4 :: x5 :: x6 :: bJ c3 :: ae .i64 c3.length :: ae .i64 (c3.length : Nat) :: x10 :: x11 :: x12 :: x13 :: x14 :: x15 :: x16 :: []), h'⟩) ∨ (e = .ret ∧ (c3.drop k).any (pG) = true ∧ σ'.t.length = 17 ∧ σ'.t[2]? = some (aj false)) := by
 intro m k i hi hk x0 x1 x2 x3 x4 x5 x6 x10 x11 x12 x13 x14 x15 x16 h σ hσ
 subst hσ
 exact Mf hl hr m k i hi hk x0 x1 x2 x3 x4 x5 x6 x10 x11 x12 x13 x14 x15 x16 h
theorem MT {c0 : Int} {c1 : Bool} {c2 : Int} {c3 c4 : List (List PV)} {c5 : Int} {c6 c7 c8 c9 : List (List PV)} (hl : c3.length ≤ maxLen) (hr : ∀ r ∈ c3, be dm r) : ∀ (m k : Nat) (i : Int), i = k → k + m = c3.length → ∀ (x0 x2 x4 x5 x6 x7 x8 x9 x10 x11 x12 x13 x14 x15 x16 x17 x18 x19 : V) (h : List AObj),
 jm (ah (aq (aa Ph al) ah dH) ⟨(x0 :: .one (.ptr 0 0 0) :: x2 :: ae .i64 i :: x4 :: x5 :: x6 :: x7 :: x8 :: x9 :: x10 :: x11 :: x12 :: x13 :: x14 :: x15 :: x16 :: x17 :: x18 :: x19 :: []), .box [.pv (.int .i64 c0), .pv (.bool c1), .pv (.int .i64 c2), .pv (.lst c3), .pv (.lst c4), .pv (.int .i64 c5), .pv (.lst c6), .pv (.lst c7), .pv (.lst c8), .pv (.lst c9)] :: h⟩) fun e σ' => (e = .exit 0 ∧ (c3.drop k).any (pG) = false ∧ ∃ (x0 x2 x4 x5 x6 x7 x8 x9 x10 x11 x12 x13 x14 x15 x16 x17 x18 x19 : V) (h' : List AObj), σ' = ⟨(x0 :: .one (.ptr 0 0 0) :: x2 :: ae .i64 (c3.length : Nat) :: x4 :: x5 :: x6 :: x7 :: x8 :: x9 :: x10 :: x11 :: x12 :: x13 :: x14 :: x15 :: x16 :: x17 :: x18 :: x19 :: []), .box [.pv (.int .i64 c0), .pv (.bool c1), .pv (.int .i64 c2), .pv (.lst c3), .pv (.lst c4), .pv (.int .i64 c5), .pv (.lst c6), .pv (.lst c7), .pv (.lst c8), .pv (.lst c9)] :: h'⟩) ∨ (e = .ret ∧ (c3.drop k).any (pG) = true ∧ σ'.t.length = 20 ∧ σ'.t[2]? = some (aj false)) := by
 generalize hF : aq (aa Ph al) ah dH = F
 intro m
 induction m with
 | zero =>
  intro k i hi hk x0 x2 x4 x5 x6 x7 x8 x9 x10 x11 x12 x13 x14 x15 x16 x17 x18 x19 h
  subst hi
  have hk' : k = c3.length := by omega
  subst hk'
  rw [aG hF]
  simp (maxSteps := 4000000) [dH, bN, bD]
 | succ m ih =>
  intro k i hi hk x0 x2 x4 x5 x6 x7 x8 x9 x10 x11 x12 x13 x14 x15 x16 x17 x18 x19 h
  subst hi
  have hlt : k < c3.length := by omega
  have hw := ag (k := k) (by unfold maxLen at hl; omega)
  obtain ⟨d0, d1, d2, d3, d4, d5, d6, d7, d8, d9, d10, d11, d12, d13, d14, d15, d16, d17, d18, d19, d20, d21, d22, d23, hrk, _, _, _, _, _, _, h6, _, _, h9, _, _, _, _, h14, _⟩ := mj (hr _ (List.getElem_mem hlt))
  have e1 := sX (d0 := d0) (d1 := d1) (d2 := d2) (d3 := d3) (d4 := d4) (d5 := d5) (d7 := d7) (d8 := d8) (d10 := d10) (d11 := d11) (d12 := d12) (d13 := d13) (d15 := d15) (d16 := d16) (d17 := d17) (d18 := d18) (d19 := d19) (d20 := d20) (d21 := d21) (d22 := d22) (d23 := d23) h6 h9 h14
  have hp : pG c3[k] = decide (2500 < qI d6 d9 d11 d14 d19) := by rw [hrk]; rfl
  generalize qI d6 d9 d11 d14 d19 = u at e1 hp
  have key := ih (k + 1) ((k : Int) + 1) (by omega) (by omega)
  clear ih
  rw [List.drop_eq_getElem_cons hlt]
  rw [List.any_cons]
  generalize (c3.drop (k + 1)).any (pG) = B at key ⊢
  rw [aG hF]
  rw [hp]; by_cases c1 : 2500 < u <;>
   first
   | omega
   | (simp [dH, hlt, hw, hrk, e1, c1]
      exact key _ _ _ _ _ _ _ _ _ _ _ _ _ _ _ _ _ _ _)
   | (simp [dH, hlt, hw, hrk, e1, c1, bD]; done)
theorem K5 {c0 : Int} {c1 : Bool} {c2 : Int} {c3 c4 : List (List PV)} {c5 : Int} {c6 c7 c8 c9 : List (List PV)} (hl : c3.length ≤ maxLen) (hr : ∀ r ∈ c3, be dm r) : ∀ (m k : Nat) (i : Int), i = k → k + m = c3.length → ∀ (x0 x2 x4 x5 x6 x7 x8 x9 x10 x11 x12 x13 x14 x15 x16 x17 x18 x19 : V) (h : List AObj) (σ : St), σ = ⟨(x0 :: .one (.ptr 0 0 0) :: x2 :: ae .i64 i :: x4 :: x5 :: x6 :: x7 :: x8 :: x9 :: x10 :: x11 :: x12 :: x13 :: x14 :: x15 :: x16 :: x17 :: x18 :: x19 :: []), .box [.pv (.int .i64 c0), .pv (.bool c1), .pv (.int .i64 c2), .pv (.lst c3), .pv (.lst c4), .pv (.int .i64 c5), .pv (.lst c6), .pv (.lst c7), .pv (.lst c8), .pv (.lst c9)] :: h⟩ →
 jm (ah (aq (aa Ph al) ah dH) σ) fun e σ' => (e = .exit 0 ∧ (c3.drop k).any (pG) = false ∧ ∃ (x0 x2 x4 x5 x6 x7 x8 x9 x10 x11 x12 x13 x14 x15 x16 x17 x18 x19 : V) (h' : List AObj), σ' = ⟨(x0 :: .one (.ptr 0 0 0) :: x2 :: ae .i64 (c3.length : Nat) :: x4 :: x5 :: x6 :: x7 :: x8 :: x9 :: x10 :: x11 :: x12 :: x13 :: x14 :: x15 :: x16 :: x17 :: x18 :: x19 :: []), .box [.pv (.int .i64 c0), .pv (.bool c1), .pv (.int .i64 c2), .pv (.lst c3), .pv (.lst c4), .pv (.int .i64 c5), .pv (.lst c6), .pv (.lst c7), .pv (.lst c8), .pv (.lst c9)] :: h'⟩) ∨ (e = .ret ∧ (c3.drop k).any (pG) = true ∧ σ'.t.length = 20 ∧ σ'.t[2]? = some (aj false)) := by
 intro m k i hi hk x0 x2 x4 x5 x6 x7 x8 x9 x10 x11 x12 x13 x14 x15 x16 x17 x18 x19 h σ hσ
 subst hσ
 exact MT hl hr m k i hi hk x0 x2 x4 x5 x6 x7 x8 x9 x10 x11 x12 x13 x14 x15 x16 x17 x18 x19 h
end Gi
