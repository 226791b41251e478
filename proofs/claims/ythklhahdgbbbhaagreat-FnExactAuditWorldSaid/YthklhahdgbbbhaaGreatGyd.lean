/- Of this proof. -/
import Derived.Test.YthklhahdgbbbhaaGreatGyb
set_option linter.unusedSimpArgs false
namespace Gi
open Go Go.RowKit
set_option maxHeartbeats 8000000
set_option maxRecDepth 4000
attribute [local simp] bW am bg bt cF dN Opd.ev put V.cells plain bz hJ isInt isStr isBool bin bf aS aR un asList L.view aB V.view viewL bC aC aT cj comp bq bZ bK a9 aK aI aJ aQ aE ba ar aM aA av aO aN aL aP thawT bB bw cd bG bA bz V.flat L.flat dX dJ bS putAt thaw thawL freezeVs freezeLs freezeL V.mut L.mut bm aZ wp_seq wp_block bE wp_cond wp_skip wp_exit wp_ret cN cE cK cH cS cT cR cq bj L.notArr aY aW aX bH bI
def EP : List XApplied → Nat → Bool := Da (fun a => !(rg a.dev 1 1000000) || !(rg a.seq 0 1000000)) (fun y x => decide (x.dev ≤ y.dev))
def jv (s : XServer) : Bool := !((List.range s.applied.length).any (EP s.applied)) && (!(s.changes.any (fun w => !(nZ w))) && (bT s.store && ((s.store.name == qD) && decide ((s.applied.length : Int) ≤ 60))))
def Mq (d x : Int) (ws : List XWrite) (k : Nat) : Bool := match ws[k]? with
 | none => false
 | some w => !(nZ w) || (!(w.dev == d) || !(w.seq == IntKind.i64.wrap (IntKind.i64.wrap (x - (ws.length : Int)) + (k : Int))))
theorem Bb {d x : Int} {ws : List XWrite} {k : Nat} (hk : k < ws.length) : Mq d x ws k = (!(nZ ws[k]) || (!(ws[k].dev == d) || !(ws[k].seq == IntKind.i64.wrap (IntKind.i64.wrap (x - (ws.length : Int)) + (k : Int))))) := by simp [Mq, hk]
def k7 (o : XOutbox) : Bool := !((List.range o.writes.length).any (Mq o.dev o.next o.writes)) && (rg o.dev 1 1000000 && (rg o.next 1 1000000 && decide ((o.writes.length : Int) ≤ 20)))
def sd (r : XReplica) : Bool := bT r.base && ((r.base.name == qD) && (rg r.seen 0 1000000000000 && k7 r.sync.outbox))
section
variable {B : Nat}
theorem yX (hB : B ≤ maxLen) {s : XServer} (h : s.Ok B) : aa Ph al 382 [.agg [.pv (.str s.store.name), .pv (.lst (s.store.items.map XItem.e)), .pv (.int .i64 s.store.auto), .pv (.lst (s.applied.map XApplied.e)), .pv (.lst (s.changes.map XWrite.e))]] = some (aj (jv s)) := by
 have e1 := fI hB h.1
 have hB1 := h.2.1.1
 have hC1 := h.2.2.1
 have eQ : ∀ k (hk : k < s.changes.length), _ := fun k hk => na hB (h.2.2.2 _ (List.getElem_mem hk))
 clear h
 obtain ⟨st, ap, ch⟩ := s
 obtain ⟨sn, si, su⟩ := st
 simp only at e1 hB1 hC1 eQ ⊢
 have eA : ∀ k (hk : k < ap.length), _ := fun k hk => gG ap[k].dev 1 1000000
 have eB : ∀ k (hk : k < ap.length), _ := fun k hk => gG ap[k].seq 0 1000000
 have hlm : ap.length ≤ maxLen := Nat.le_trans hB1 hB
 have hcm : ch.length ≤ maxLen := Nat.le_trans hC1 hB
 have lq : (sn == [110, 111, 116, 101, 115]) = (sn == qD) := rfl
 refine aw (fn := om) rfl ?_
 simp [om]
 refine bU bh Cl.fin [.f,.t,.f,.f,.f,.f,.f,.f,.t,.t,.t,.f,.f,.f,.f,.f,.f,.f,.f,.f,.f,.f,.f,.f,.f,.f,.f,.f,.f,.f,.f,.f,.f,.f,.f,.f,.f,.f,.f,.f,.f,.f,.f,.f,.f,.f,.f,.f,.f,.f,.f,.f,.f,.f,.f,.f,.f,.f,.f,.f,.f,.f,.f,.f,.f,.f,.f,.f] (fun k => [(10, ae .i64 k)]) ap.length (EP ap) rfl ?_ ?_ ?_ ?_
 ·exact Kn.q [0]
 ·intro k hk hp
  unfold EP at hp
  cases k with
  | zero =>
   have f1 := eA (0) hk
   have f2 := eB (0) hk
   rw [iB hk] at hp
   generalize rg ap[0].dev 1 1000000 = b1 at hp f1
   generalize rg ap[0].seq 0 1000000 = b2 at hp f2
   cases b1
   ·simp [hk, bP, f1, f2, XApplied.e] at hp
   cases b2
   ·simp [hk, bP, f1, f2, XApplied.e] at hp
   simp [dB, hk, bP, f1, f2, XApplied.e]
   exact Kn.q [0]
  | succ j =>
   have hj : j < ap.length := by omega
   obtain ⟨i1, i2, i3, i4, i5, i6⟩ := kJ hlm hk
   have f1 := eA (j + 1) hk
   have f2 := eB (j + 1) hk
   rw [iC hk] at hp
   generalize rg ap[j + 1].dev 1 1000000 = b1 at hp f1
   generalize rg ap[j + 1].seq 0 1000000 = b2 at hp f2
   cases b1
   ·simp [hk, hj, i1, i2, i3, i4, i5, i6, f1, f2, XApplied.e] at hp
   cases b2
   ·simp [hk, hj, i1, i2, i3, i4, i5, i6, f1, f2, XApplied.e] at hp
   by_cases q1 : ap[j + 1].dev ≤ ap[j].dev
   ·simp [hk, hj, i1, i2, i3, i4, i5, i6, f1, f2, XApplied.e, q1] at hp
   simp [dB, hk, hj, i1, i2, i3, i4, i5, i6, f1, f2, XApplied.e, q1]
   exact Kn.q [0]
 ·intro k hk hp _
  have hF : jv ⟨⟨sn, si, su⟩, ap, ch⟩ = false := by unfold jv; rw [cI hk hp]; rfl
  rw [hF]
  clear hF
  unfold EP at hp
  cases k with
  | zero =>
   have f1 := eA (0) hk
   have f2 := eB (0) hk
   rw [iB hk] at hp
   generalize rg ap[0].dev 1 1000000 = b1 at hp f1
   generalize rg ap[0].seq 0 1000000 = b2 at hp f2
   cases b1
   ·simp [dB, hk, bP, f1, f2, XApplied.e]
   cases b2
   ·simp [dB, hk, bP, f1, f2, XApplied.e]
   simp [hk, bP, f1, f2, XApplied.e] at hp
  | succ j =>
   have hj : j < ap.length := by omega
   obtain ⟨i1, i2, i3, i4, i5, i6⟩ := kJ hlm hk
   have f1 := eA (j + 1) hk
   have f2 := eB (j + 1) hk
   rw [iC hk] at hp
   generalize rg ap[j + 1].dev 1 1000000 = b1 at hp f1
   generalize rg ap[j + 1].seq 0 1000000 = b2 at hp f2
   cases b1
   ·simp [dB, hk, hj, i1, i2, i3, i4, i5, i6, f1, f2, XApplied.e]
   cases b2
   ·simp [dB, hk, hj, i1, i2, i3, i4, i5, i6, f1, f2, XApplied.e]
   by_cases q1 : ap[j + 1].dev ≤ ap[j].dev
   ·simp [dB, hk, hj, i1, i2, i3, i4, i5, i6, f1, f2, XApplied.e, q1]
   simp [hk, hj, i1, i2, i3, i4, i5, i6, f1, f2, XApplied.e, q1] at hp
 ·intro hp
  have hA0 : ((List.range ap.length).any (EP ap)) = false := dM hp
  simp [dB]
  refine zB bh Cl.fin ch (fun w => !(nZ w)) [.f,.t,.f,.f,.f,.f,.f,.f,.f,.f,.f,.f,.f,.f,.f,.f,.f,.f,.f,.f,.f,.f,.f,.f,.f,.f,.f,.f,.f,.f,.f,.f,.f,.f,.f,.f,.f,.f,.f,.f,.f,.f,.f,.t,.t,.t,.f,.f,.f,.f,.f,.f,.f,.f,.f,.f,.f,.f,.f,.f,.f,.f,.f,.f,.f,.f,.f,.f] (fun k => [(45, ae .i64 k)]) rfl ?_ ?_ ?_ ?_
  ·exact Kn.q [0]
  ·intro k hk hq
   have hw := ag (k := k) (by unfold maxLen at hcm; omega)
   have f1 := eQ k hk
   have hx := XWrite.e.eq_1 ch[k]
   have hq' : nZ ch[k] = true := by simpa using hq
   rw [hq'] at f1
   simp [gi, hk, hw, hx, f1]
   exact Kn.q [0]
  ·intro k hk hq hany
   have hF : jv ⟨⟨sn, si, su⟩, ap, ch⟩ = false := by unfold jv; rw [hA0, hany]; rfl
   rw [hF]
   have f1 := eQ k hk
   have hx := XWrite.e.eq_1 ch[k]
   have hq' : nZ ch[k] = false := by simpa using hq
   rw [hq'] at f1
   simp [gi, hk, hx, f1]
  ·intro hany
   have hT : jv ⟨⟨sn, si, su⟩, ap, ch⟩ = (bT ⟨sn, si, su⟩ && ((sn == qD) && decide ((ap.length : Int) ≤ 60))) := by unfold jv; rw [hA0, hany]; rfl
   rw [hT]
   clear hT
   rw [← lq]
   clear lq
   generalize bT ⟨sn, si, su⟩ = b1 at e1 ⊢
   generalize hN : (sn == [110, 111, 116, 101, 115]) = b2
   cases b1
   ·simp [gi, e1, hN]
   cases b2
   ·simp [gi, e1, hN]
   simp [gi, e1, hN]
theorem zw (hB : B ≤ maxLen) {s : XServer} (h : s.Ok B) : aa Ph al 376 [.agg [.pv (.str s.store.name), .pv (.lst (s.store.items.map XItem.e)), .pv (.int .i64 s.store.auto), .pv (.lst (s.applied.map XApplied.e)), .pv (.lst (s.changes.map XWrite.e))]] = some (aj (jv s)) := by
 have e1 := ly hB h.1
 have hB1 := h.2.1.1
 have hC1 := h.2.2.1
 have eQ : ∀ k (hk : k < s.changes.length), _ := fun k hk => nc hB (h.2.2.2 _ (List.getElem_mem hk))
 clear h
 obtain ⟨st, ap, ch⟩ := s
 obtain ⟨sn, si, su⟩ := st
 simp only at e1 hB1 hC1 eQ ⊢
 have eA : ∀ k (hk : k < ap.length), _ := fun k hk => gH ap[k].dev 1 1000000
 have eB : ∀ k (hk : k < ap.length), _ := fun k hk => gH ap[k].seq 0 1000000
 have hlm : ap.length ≤ maxLen := Nat.le_trans hB1 hB
 have hcm : ch.length ≤ maxLen := Nat.le_trans hC1 hB
 have lq : (sn == [110, 111, 116, 101, 115]) = (sn == qD) := rfl
 refine aw (fn := oB) rfl ?_
 simp [oB]
 refine bU bh Cl.fin [.f,.t,.f,.t,.f,.f,.f,.f,.f,.f,.f,.f,.f,.f,.f,.f,.f,.f,.f,.f,.f,.f,.f,.f,.f,.f,.f,.f,.f,.f,.f,.f,.f,.f,.f,.f,.f,.f,.f,.f,.f,.f,.f,.f,.f,.f,.f,.f,.f,.f,.f,.f,.f,.f,.f,.f,.f,.f,.f,.f,.f,.f,.f,.f,.f,.f,.f,.f,.f,.f,.f,.f,.f,.f,.f,.f,.f,.f,.f] (fun k => [(3, ae .i64 k)]) ap.length (EP ap) rfl ?_ ?_ ?_ ?_
 ·exact Kn.q [0]
 ·intro k hk hp
  unfold EP at hp
  cases k with
  | zero =>
   have f1 := eA (0) hk
   have f2 := eB (0) hk
   rw [iB hk] at hp
   generalize rg ap[0].dev 1 1000000 = b1 at hp f1
   generalize rg ap[0].seq 0 1000000 = b2 at hp f2
   cases b1
   ·simp [hk, bP, f1, f2, XApplied.e] at hp
   cases b2
   ·simp [hk, bP, f1, f2, XApplied.e] at hp
   simp [dF, hk, bP, f1, f2, XApplied.e]
   exact Kn.q [0]
  | succ j =>
   have hj : j < ap.length := by omega
   obtain ⟨i1, i2, i3, i4, i5, i6⟩ := kJ hlm hk
   have f1 := eA (j + 1) hk
   have f2 := eB (j + 1) hk
   rw [iC hk] at hp
   generalize rg ap[j + 1].dev 1 1000000 = b1 at hp f1
   generalize rg ap[j + 1].seq 0 1000000 = b2 at hp f2
   cases b1
   ·simp [hk, hj, i1, i2, i3, i4, i5, i6, f1, f2, XApplied.e] at hp
   cases b2
   ·simp [hk, hj, i1, i2, i3, i4, i5, i6, f1, f2, XApplied.e] at hp
   by_cases q1 : ap[j + 1].dev ≤ ap[j].dev
   ·simp [hk, hj, i1, i2, i3, i4, i5, i6, f1, f2, XApplied.e, q1] at hp
   simp [dF, hk, hj, i1, i2, i3, i4, i5, i6, f1, f2, XApplied.e, q1]
   exact Kn.q [0]
 ·intro k hk hp _
  have hF : jv ⟨⟨sn, si, su⟩, ap, ch⟩ = false := by unfold jv; rw [cI hk hp]; rfl
  rw [hF]
  clear hF
  unfold EP at hp
  cases k with
  | zero =>
   have f1 := eA (0) hk
   have f2 := eB (0) hk
   rw [iB hk] at hp
   generalize rg ap[0].dev 1 1000000 = b1 at hp f1
   generalize rg ap[0].seq 0 1000000 = b2 at hp f2
   cases b1
   ·simp [dF, hk, bP, f1, f2, XApplied.e]
   cases b2
   ·simp [dF, hk, bP, f1, f2, XApplied.e]
   simp [hk, bP, f1, f2, XApplied.e] at hp
  | succ j =>
   have hj : j < ap.length := by omega
   obtain ⟨i1, i2, i3, i4, i5, i6⟩ := kJ hlm hk
   have f1 := eA (j + 1) hk
   have f2 := eB (j + 1) hk
   rw [iC hk] at hp
   generalize rg ap[j + 1].dev 1 1000000 = b1 at hp f1
   generalize rg ap[j + 1].seq 0 1000000 = b2 at hp f2
   cases b1
   ·simp [dF, hk, hj, i1, i2, i3, i4, i5, i6, f1, f2, XApplied.e]
   cases b2
   ·simp [dF, hk, hj, i1, i2, i3, i4, i5, i6, f1, f2, XApplied.e]
   by_cases q1 : ap[j + 1].dev ≤ ap[j].dev
   ·simp [dF, hk, hj, i1, i2, i3, i4, i5, i6, f1, f2, XApplied.e, q1]
   simp [hk, hj, i1, i2, i3, i4, i5, i6, f1, f2, XApplied.e, q1] at hp
 ·intro hp
  have hA0 : ((List.range ap.length).any (EP ap)) = false := dM hp
  simp [dF]
  refine zB bh Cl.fin ch (fun w => !(nZ w)) [.f,.t,.f,.f,.t,.f,.f,.f,.f,.f,.f,.f,.f,.f,.f,.f,.f,.f,.f,.f,.f,.f,.f,.f,.f,.f,.f,.f,.f,.f,.f,.f,.f,.f,.f,.f,.f,.f,.f,.f,.f,.f,.f,.f,.f,.f,.f,.f,.f,.f,.f,.f,.f,.f,.f,.f,.f,.f,.f,.f,.f,.f,.f,.f,.f,.f,.f,.f,.f,.f,.f,.f,.f,.f,.f,.f,.f,.f,.f] (fun k => [(4, ae .i64 k)]) rfl ?_ ?_ ?_ ?_
  ·exact Kn.q [0]
  ·intro k hk hq
   have hw := ag (k := k) (by unfold maxLen at hcm; omega)
   have f1 := eQ k hk
   have hx := XWrite.e.eq_1 ch[k]
   have hq' : nZ ch[k] = true := by simpa using hq
   rw [hq'] at f1
   simp [gn, hk, hw, hx, f1]
   exact Kn.q [0]
  ·intro k hk hq hany
   have hF : jv ⟨⟨sn, si, su⟩, ap, ch⟩ = false := by unfold jv; rw [hA0, hany]; rfl
   rw [hF]
   have f1 := eQ k hk
   have hx := XWrite.e.eq_1 ch[k]
   have hq' : nZ ch[k] = false := by simpa using hq
   rw [hq'] at f1
   simp [gn, hk, hx, f1]
  ·intro hany
   have hT : jv ⟨⟨sn, si, su⟩, ap, ch⟩ = (bT ⟨sn, si, su⟩ && ((sn == qD) && decide ((ap.length : Int) ≤ 60))) := by unfold jv; rw [hA0, hany]; rfl
   rw [hT]
   clear hT
   rw [← lq]
   clear lq
   generalize bT ⟨sn, si, su⟩ = b1 at e1 ⊢
   generalize hN : (sn == [110, 111, 116, 101, 115]) = b2
   cases b1
   ·simp [gn, e1, hN]
   cases b2
   ·simp [gn, e1, hN]
   simp [gn, e1, hN]
theorem yW (hB : B ≤ maxLen) {o : XOutbox} (h : o.Ok B) : aa Ph al 407 [.agg [.pv (.int .i64 o.dev), .pv (.int .i64 o.next), .pv (.lst (o.writes.map XWrite.e))]] = some (aj (k7 o)) := by
 have hB1 := h.2.2.1
 have eQ : ∀ k (hk : k < o.writes.length), _ := fun k hk => na hB (h.2.2.2 _ (List.getElem_mem hk))
 clear h
 obtain ⟨d, x, ws⟩ := o
 simp only at hB1 eQ ⊢
 have e1 := gG d 1 1000000
 have e2 := gG x 1 1000000
 have hlm : ws.length ≤ maxLen := Nat.le_trans hB1 hB
 refine aw (fn := oh) rfl ?_
 simp [oh]
 refine bU bh Cl.fin [.f,.t,.f,.t,.f,.f,.f,.f,.f,.f,.t,.t,.t,.f,.f,.f,.f,.f,.f,.f,.f,.f,.f,.f,.f,.f,.f,.f,.f,.f,.f,.f,.f,.f,.f,.f,.f,.f,.f,.f,.f,.f,.f,.f,.f,.f,.f,.f,.f,.f,.f] (fun k => [(12, ae .i64 k)]) ws.length (Mq d x ws) rfl ?_ ?_ ?_ ?_
 ·exact Kn.q [0]
 ·intro k hk hp
  have hw := ag (k := k) (by unfold maxLen at hlm; omega)
  have f1 := eQ (k) hk
  have n2 := (show (ws[k].dev != d) = !(ws[k].dev == d) from rfl)
  have n3 := (show (ws[k].seq != IntKind.i64.wrap (IntKind.i64.wrap (x - (ws.length : Int)) + ((k : Nat) : Int))) = !(ws[k].seq == IntKind.i64.wrap (IntKind.i64.wrap (x - (ws.length : Int)) + ((k : Nat) : Int))) from rfl)
  have hx := XWrite.e.eq_1 ws[k]
  rw [Bb hk] at hp
  generalize nZ ws[k] = b3 at hp f1
  generalize (ws[k].dev == d) = b4 at hp n2
  generalize (ws[k].seq == IntKind.i64.wrap (IntKind.i64.wrap (x - (ws.length : Int)) + ((k : Nat) : Int))) = b5 at hp n3
  cases b3
  ·simp [hk, hw, f1, n2, n3, hx] at hp
  cases b4
  ·simp [hk, hw, f1, n2, n3, hx] at hp
  cases b5
  ·simp [hk, hw, f1, n2, n3, hx] at hp
  simp [fm, hk, hw, f1, n2, n3, hx]
  exact Kn.q [0]
 ·intro k hk hp _
  have hF : k7 ⟨d, x, ws⟩ = false := by unfold k7; rw [cI hk hp]; rfl
  rw [hF]
  clear hF
  have hw := ag (k := k) (by unfold maxLen at hlm; omega)
  have f1 := eQ (k) hk
  have n2 := (show (ws[k].dev != d) = !(ws[k].dev == d) from rfl)
  have n3 := (show (ws[k].seq != IntKind.i64.wrap (IntKind.i64.wrap (x - (ws.length : Int)) + ((k : Nat) : Int))) = !(ws[k].seq == IntKind.i64.wrap (IntKind.i64.wrap (x - (ws.length : Int)) + ((k : Nat) : Int))) from rfl)
  have hx := XWrite.e.eq_1 ws[k]
  rw [Bb hk] at hp
  generalize nZ ws[k] = b3 at hp f1
  generalize (ws[k].dev == d) = b4 at hp n2
  generalize (ws[k].seq == IntKind.i64.wrap (IntKind.i64.wrap (x - (ws.length : Int)) + ((k : Nat) : Int))) = b5 at hp n3
  cases b3
  ·simp [fm, hk, hw, f1, n2, n3, hx]
  cases b4
  ·simp [fm, hk, hw, f1, n2, n3, hx]
  cases b5
  ·simp [fm, hk, hw, f1, n2, n3, hx]
  simp [hk, hw, f1, n2, n3, hx] at hp
 ·intro hp
  have hT : k7 ⟨d, x, ws⟩ = (rg d 1 1000000 && (rg x 1 1000000 && decide ((ws.length : Int) ≤ 20))) := by unfold k7; rw [dM hp]; rfl
  rw [hT]
  generalize rg d 1 1000000 = b1 at e1 ⊢
  generalize rg x 1 1000000 = b2 at e2 ⊢
  cases b1
  ·simp [fm, e1, e2]
  cases b2
  ·simp [fm, e1, e2]
  simp [fm, e1, e2]
theorem zv (hB : B ≤ maxLen) {o : XOutbox} (h : o.Ok B) : aa Ph al 402 [.agg [.pv (.int .i64 o.dev), .pv (.int .i64 o.next), .pv (.lst (o.writes.map XWrite.e))]] = some (aj (k7 o)) := by
 have hB1 := h.2.2.1
 have eQ : ∀ k (hk : k < o.writes.length), _ := fun k hk => nc hB (h.2.2.2 _ (List.getElem_mem hk))
 clear h
 obtain ⟨d, x, ws⟩ := o
 simp only at hB1 eQ ⊢
 have e1 := gH d 1 1000000
 have e2 := gH x 1 1000000
 have hlm : ws.length ≤ maxLen := Nat.le_trans hB1 hB
 refine aw (fn := iU) rfl ?_
 cases b1 : rg d 1 1000000 <;> rw [b1] at e1
 ·simp [iU, e1, k7, b1]
 cases b2 : rg x 1 1000000 <;> rw [b2] at e2
 ·simp [iU, e1, e2, k7, b1, b2]
 by_cases q3 : (20 : Int) < (ws.length : Int)
 ·have q4 : ¬ ws.length ≤ 20 := by omega
  have q5 : 20 < ws.length := by omega
  simp [iU, e1, e2, q3, k7, b1, b2, q4, q5]
 have q4 : ws.length ≤ 20 := by omega
 have q5 : ¬ 20 < ws.length := by omega
 simp [iU, e1, e2, q3, q5]
 refine bU bh Cl.fin [.f,.t,.f,.t,.t,.f,.f,.f,.f,.f,.f,.f,.f,.f,.f,.f,.f,.f,.f,.f,.f,.f,.f,.f,.f,.f,.f,.f,.f,.f,.f,.f,.f,.f,.f,.f,.f,.f,.f,.f,.f,.f,.f,.f,.f,.f,.f,.f,.f,.f,.f,.f,.f,.f,.f,.f,.f,.f,.f,.f] (fun k => [(4, ae .i64 k)]) ws.length (Mq d x ws) rfl ?_ ?_ ?_ ?_
 ·exact Kn.q [0]
 ·intro k hk hp
  have hw := ag (k := k) (by unfold maxLen at hlm; omega)
  have f1 := eQ (k) hk
  have n2 := (show (ws[k].dev != d) = !(ws[k].dev == d) from rfl)
  have n3 := (show (ws[k].seq != IntKind.i64.wrap (IntKind.i64.wrap (x - (ws.length : Int)) + ((k : Nat) : Int))) = !(ws[k].seq == IntKind.i64.wrap (IntKind.i64.wrap (x - (ws.length : Int)) + ((k : Nat) : Int))) from rfl)
  have hx := XWrite.e.eq_1 ws[k]
  rw [Bb hk] at hp
  generalize nZ ws[k] = b3 at hp f1
  generalize (ws[k].dev == d) = b4 at hp n2
  generalize (ws[k].seq == IntKind.i64.wrap (IntKind.i64.wrap (x - (ws.length : Int)) + ((k : Nat) : Int))) = b5 at hp n3
  cases b3
  ·simp [hk, hw, f1, n2, n3, hx] at hp
  cases b4
  ·simp [hk, hw, f1, n2, n3, hx] at hp
  cases b5
  ·simp [hk, hw, f1, n2, n3, hx] at hp
  simp [gm, hk, hw, f1, n2, n3, hx]
  exact Kn.q [0]
 ·intro k hk hp _
  have hF : k7 ⟨d, x, ws⟩ = false := by unfold k7; rw [cI hk hp]; rfl
  rw [hF]
  clear hF
  have hw := ag (k := k) (by unfold maxLen at hlm; omega)
  have f1 := eQ (k) hk
  have n2 := (show (ws[k].dev != d) = !(ws[k].dev == d) from rfl)
  have n3 := (show (ws[k].seq != IntKind.i64.wrap (IntKind.i64.wrap (x - (ws.length : Int)) + ((k : Nat) : Int))) = !(ws[k].seq == IntKind.i64.wrap (IntKind.i64.wrap (x - (ws.length : Int)) + ((k : Nat) : Int))) from rfl)
  have hx := XWrite.e.eq_1 ws[k]
  rw [Bb hk] at hp
  generalize nZ ws[k] = b3 at hp f1
  generalize (ws[k].dev == d) = b4 at hp n2
  generalize (ws[k].seq == IntKind.i64.wrap (IntKind.i64.wrap (x - (ws.length : Int)) + ((k : Nat) : Int))) = b5 at hp n3
  cases b3
  ·simp [gm, hk, hw, f1, n2, n3, hx]
  cases b4
  ·simp [gm, hk, hw, f1, n2, n3, hx]
  cases b5
  ·simp [gm, hk, hw, f1, n2, n3, hx]
  simp [hk, hw, f1, n2, n3, hx] at hp
 ·intro hp
  have q6 : (ws.length : Int) ≤ 20 := by omega
  have hT : k7 ⟨d, x, ws⟩ = true := by unfold k7; rw [dM hp, b1, b2]; simp [q6]
  rw [hT]
  simp [gm]
theorem xd (hB : B ≤ maxLen) {r : XReplica} (h : r.Ok B) : aa Ph al 398 [.agg [.pv (.str r.base.name), .pv (.lst (r.base.items.map XItem.e)), .pv (.int .i64 r.base.auto), .pv (.int .i64 r.seen), .pv (.int .i64 r.sync.outbox.dev), .pv (.int .i64 r.sync.outbox.next), .pv (.lst (r.sync.outbox.writes.map XWrite.e)), .pv (.int .i64 r.sync.tries), .pv (.int .i64 r.sync.wait)]] = some (aj (sd r)) := by
 have e1 := fI hB h.1
 have e3 := gG r.seen 0 1000000000000
 have e4 := yW hB h.2.2.1
 have lq := (show (r.base.name == [110, 111, 116, 101, 115]) = (r.base.name == qD) from rfl)
 refine aw (fn := gU) rfl ?_
 unfold sd
 generalize bT r.base = b1 at e1 ⊢
 generalize (r.base.name == qD) = b2 at lq ⊢
 generalize rg r.seen 0 1000000000000 = b3 at e3 ⊢
 generalize k7 r.sync.outbox = b4 at e4 ⊢
 cases b1
 ·simp [gU, e1, e3, e4, lq]
 cases b2
 ·simp [gU, e1, e3, e4, lq]
 cases b3
 ·simp [gU, e1, e3, e4, lq]
 cases b4
 ·simp [gU, e1, e3, e4, lq]
 simp [gU, e1, e3, e4, lq]
theorem xG (hB : B ≤ maxLen) {r : XReplica} (h : r.Ok B) : aa Ph al 394 [.agg [.pv (.str r.base.name), .pv (.lst (r.base.items.map XItem.e)), .pv (.int .i64 r.base.auto), .pv (.int .i64 r.seen), .pv (.int .i64 r.sync.outbox.dev), .pv (.int .i64 r.sync.outbox.next), .pv (.lst (r.sync.outbox.writes.map XWrite.e)), .pv (.int .i64 r.sync.tries), .pv (.int .i64 r.sync.wait)]] = some (aj (sd r)) := by
 have e1 := ly hB h.1
 have e3 := gH r.seen 0 1000000000000
 have e4 := zv hB h.2.2.1
 have lq := (show (r.base.name == [110, 111, 116, 101, 115]) = (r.base.name == qD) from rfl)
 refine aw (fn := gY) rfl ?_
 unfold sd
 generalize bT r.base = b1 at e1 ⊢
 generalize (r.base.name == qD) = b2 at lq ⊢
 generalize rg r.seen 0 1000000000000 = b3 at e3 ⊢
 generalize k7 r.sync.outbox = b4 at e4 ⊢
 cases b1
 ·simp [gY, e1, e3, e4, lq]
 cases b2
 ·simp [gY, e1, e3, e4, lq]
 cases b3
 ·simp [gY, e1, e3, e4, lq]
 cases b4
 ·simp [gY, e1, e3, e4, lq]
 simp [gY, e1, e3, e4, lq]
end
end Gi
