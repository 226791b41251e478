/- Of this proof. -/
import Derived.Test.YtlohbkffhpnfgaaGreatGky
import Derived.Test.YtlohbkffhpnfgaaGreatGkd
import Derived.Test.YtlohbkffhpnfgaaGreatGkr
set_option linter.unusedSimpArgs false
set_option linter.unusedVariables false
namespace Gi
open Go Go.RowKit
set_option maxHeartbeats 8000000
set_option maxRecDepth 4000
attribute [local simp] bt sJ bf bW dV fU dU fT fZ fY uF uO uG uP uH uQ uI uR uJ uS uK uT uL uU uM uV uN uW V.cells plain bm f4 isInt isStr isBool bin cT jJ cU jK fV un asList L.view am V.view viewL aR au cX cd bO comp aJ br dv cq bH bF bG bN bi cu aW bJ aP aX bL cy bK bI bM V.flat L.flat dF di bz putAt thaw thawL thawT V.ow fX dX dY cV fW cW dW freezeVs freezeLs freezeL V.mut L.mut aI fi iV aL bd aD dh bD bh bR L.ren aT dG cf dK bS bB wp_seq wp_block bE ed cY ce cZ wp_skip wp_exit wp_ret cK cJ cP cL df dg de cj aV L.notArr aO aM aN dZ bn storeD ba fK bq cB be ny L.mov L.closed V.closed PV.bare PV.flat
theorem mr {α : Type} {f : α → Nat} {c : Nat} : ∀ {xs : List α}, (∀ x ∈ xs, f x ≤ c) → gV f xs ≤ c * xs.length
 | [], _ => by simp [gV]
 | x :: xs, h => by
  have h1 := mr (xs := xs) (fun y hy => h y (by simp [hy]))
  have h2 := h x (by simp)
  simp only [gV, List.map_cons, List.sum_cons, List.length_cons, Nat.mul_add] at *
  omega
def qD (d : XDatabase) : Nat := gV kG d.stores
theorem ww {d : XDatabase} (h : d.Ok 1048576) : qD d ≤ 115343360 * 1048576 := Nat.le_trans (mr (c := 115343360) fun s hs => Nat.le_trans (pz lw _) (by have := (h.2.2.1.2 s hs).2.1.1; omega)) (Nat.mul_le_mul_left _ h.2.2.1.1)
theorem rc {d : XDatabase} (h : d.Ok 1048576) : ae Ph aF 224 [d.v] = some (aa .i64 (qD d : Nat)) := by
 refine ab (fn := jz) rfl ?_
 simp +contextual (maxSteps := 9999999) [jz]
 refine aA aQ Cl.fin [.f,.f,.f,.t,.f,.f,.f,.t,.t,.t,.f,.f,.f,.f,.f,.f,.f,.f,.f] (fun k => [(3, aa .i64 (gV kG (d.stores.take k) : Nat)), (9, aa .i64 k)]) d.stores.length (fun _ => false) rfl (by simp [gV]) (fun k hk _ => ?_) (fun _ _ => ?_)
 ·have hx := XStore.e.eq_1 d.stores[k]
  have hi := h.2.2.1.2 _ (List.getElem_mem hk)
  have e1 := oW hi
  have l1 : kG d.stores[k] ≤ 115343360 := Nat.le_trans (pz lw _) (by have := hi.2.1.1; omega)
  have l3 := mr (f := kG) (c := 115343360) (xs := d.stores.take k) (fun s hs => Nat.le_trans (pz lw _) (by have := (h.2.2.1.2 s (List.mem_of_mem_take hs)).2.1.1; omega))
  have l4 : (d.stores.take k).length ≤ 1048576 := by rw [List.length_take]; have := h.2.2.1.1; omega
  rw [mC hk]
  generalize gV kG (d.stores.take k) = A at l3 ⊢
  generalize kG d.stores[k] = a at l1 e1 ⊢
  have w1 : IntKind.i64.wrap ((A : Int) + (a : Int)) = (A : Int) + (a : Int) := by rw [IntKind.wrap_i64]; omega
  simp (maxSteps := 9999999) [fQ, hk, hx, e1, w1, aE (n := d.stores.length) (by have := h.2.2.1.1; unfold maxLen; omega) hk, aU hk]
 ·rw [List.take_length]
  simp (maxSteps := 9999999) [fQ, qD]
theorem yc {x : XDisk} (h : x.Ok 1048576) : ae Ph aF 196 [x.v] = some (aa .i64 (qD x.base + x.log.length : Nat)) := by
 have e1 := rc h.1
 have l1 := ww h.1
 have l2 := h.2.1
 generalize qD x.base = A at e1 l1 ⊢
 have w1 : IntKind.i64.wrap ((A : Int) + (x.log.length : Int)) = (A : Int) + (x.log.length : Int) := by rw [IntKind.wrap_i64]; omega
 refine ab (fn := mL) rfl ?_
 simp +contextual (maxSteps := 9999999) [mL, e1, w1, bo]
theorem rU {d : XDatabase} (h : d.Ok 1048576) : ae Ph aF 220 [d.v] = some (aa .i64 (qD d : Nat)) := by
 refine ab (fn := jE) rfl ?_
 simp +contextual (maxSteps := 9999999) [jE]
 refine aA aQ Cl.fin [.f,.t,.f,.t,.t,.f,.f,.f,.f,.f,.f,.f,.f,.f,.f,.f,.f,.f,.f,.f,.f] (fun k => [(3, aa .i64 (gV kG (d.stores.take k) : Nat)), (4, aa .i64 k)]) d.stores.length (fun _ => false) rfl (by simp [gV]) (fun k hk _ => ?_) (fun _ _ => ?_)
 ·have hx := XStore.e.eq_1 d.stores[k]
  have hi := h.2.2.1.2 _ (List.getElem_mem hk)
  have e1 := oY hi
  have l1 : kG d.stores[k] ≤ 115343360 := Nat.le_trans (pz lw _) (by have := hi.2.1.1; omega)
  have l3 := mr (f := kG) (c := 115343360) (xs := d.stores.take k) (fun s hs => Nat.le_trans (pz lw _) (by have := (h.2.2.1.2 s (List.mem_of_mem_take hs)).2.1.1; omega))
  have l4 : (d.stores.take k).length ≤ 1048576 := by rw [List.length_take]; have := h.2.2.1.1; omega
  rw [mC hk]
  generalize gV kG (d.stores.take k) = A at l3 ⊢
  generalize kG d.stores[k] = a at l1 e1 ⊢
  have w1 : IntKind.i64.wrap ((A : Int) + (a : Int)) = (A : Int) + (a : Int) := by rw [IntKind.wrap_i64]; omega
  simp (maxSteps := 9999999) [fS, hk, hx, e1, w1, aE (n := d.stores.length) (by have := h.2.2.1.1; unfold maxLen; omega) hk, aU hk]
 ·rw [List.take_length]
  simp (maxSteps := 9999999) [fS, qD]
theorem yA {x : XDisk} (h : x.Ok 1048576) : ae Ph aF 193 [x.v] = some (aa .i64 (qD x.base + x.log.length : Nat)) := by
 have e1 := rU h.1
 have l1 := ww h.1
 have l2 := h.2.1
 generalize qD x.base = A at e1 l1 ⊢
 have w1 : IntKind.i64.wrap ((A : Int) + (x.log.length : Int)) = (A : Int) + (x.log.length : Int) := by rw [IntKind.wrap_i64]; omega
 refine ab (fn := mV) rfl ?_
 simp +contextual (maxSteps := 9999999) [mV, e1, w1, bo]
def zh (b : Bool) (x : XResponse) : Nat := cond b 76 (16 + x.body.length)
def pU (e : XCached) : Nat := zh (e.resp.type == 3) e.resp
theorem rI {e : XCached} (h : e.Ok 1048576) : pU e ≤ 1048592 := by
 have := h.2.2.2.2.2
 unfold pU zh
 cases (e.resp.type == 3) <;> simp only [cond_true, cond_false] <;> omega
def tx (c : XCache) : Nat := gV pU c.entries
theorem CJ {c : XCache} (h : c.Ok 1048576) : tx c ≤ 1048592 * 1048576 := Nat.le_trans (mr fun e he => rI (h.2.2 e he)) (Nat.mul_le_mul_left _ h.2.1)
def zg (s : XCacheSet) : Nat := gV tx s.caches
theorem uc {x : XResponse} (h : x.body.length ≤ 1048576) (b : Bool) : ae Ph aF 223 [x.v, ar b] = some (aa .i64 (zh b x : Nat)) := by
 have w1 : IntKind.i64.wrap (16 + (x.body.length : Int)) = 16 + (x.body.length : Int) := by rw [IntKind.wrap_i64]; omega
 refine ab (fn := kU) rfl ?_
 cases b <;> simp (maxSteps := 9999999) [kU, zh, w1, bo]
theorem ub {s : XCacheSet} (h : s.Ok 1048576) : ae Ph aF 195 [s.v] = some (aa .i64 (zg s : Nat)) := by
 refine ab (fn := kT) rfl ?_
 simp +contextual (maxSteps := 9999999) [kT]
 refine aA aQ Cl.fin [.f,.f,.f,.t,.f,.f,.f,.f,.f,.t,.t,.t,.f,.f,.f,.f,.f,.f,.f,.f,.f,.f,.f,.f,.f,.f,.f,.f,.f,.f,.f,.f,.f,.f] (fun k => [(3, aa .i64 (gV tx (s.caches.take k) : Nat)), (11, aa .i64 k)]) s.caches.length (fun _ => false) rfl (by simp [gV]) (fun k hk _ => ?_) (fun _ _ => ?_)
 ·have hx := XCache.e.eq_1 s.caches[k]
  have hc := h.2 _ (List.getElem_mem hk)
  have wk := aE (n := s.caches.length) (by have := h.1; unfold maxLen; omega) hk
  have l4 := mr (f := tx) (c := 1048592 * 1048576) (xs := s.caches.take k) (fun c hm => CJ (h.2 c (List.mem_of_mem_take hm)))
  have l5 : (s.caches.take k).length ≤ 1048576 := by rw [List.length_take]; have := h.1; omega
  rw [mC hk]
  generalize gV tx (s.caches.take k) = A at l4 ⊢
  simp (maxSteps := 9999999) [gx, hk, hx, aU hk]
  refine aA aQ Cl.kn [.f,.f,.f,.t,.f,.f,.f,.f,.f,.t,.t,.t,.f,.f,.f,.f,.t,.t,.t,.f,.f,.f,.f,.f,.f,.f,.f,.f,.f,.f,.f,.f,.f,.f] (fun j => [(3, aa .i64 (A + gV pU (s.caches[k].entries.take j) : Nat)), (18, aa .i64 j)]) s.caches[k].entries.length (fun _ => false) rfl (by simp [gV]) (fun j hj _ => ?_) (fun _ _ => ?_)
  ·have hy := XCached.e.eq_1 s.caches[k].entries[j]
   have he := hc.2.2 _ (List.getElem_mem hj)
   have e1 := fun b => uc (x := s.caches[k].entries[j].resp) he.2.2.2.2.2 b
   have wj := aE (n := s.caches[k].entries.length) (by have := hc.2.1; unfold maxLen; omega) hj
   have l1 := rI he
   have l2 := mr (f := pU) (c := 1048592) (xs := s.caches[k].entries.take j) (fun c hm => rI (hc.2.2 c (List.mem_of_mem_take hm)))
   have l3 : (s.caches[k].entries.take j).length ≤ 1048576 := by rw [List.length_take]; have := hc.2.1; omega
   have hs : zh (s.caches[k].entries[j].resp.type == 3) s.caches[k].entries[j].resp = pU s.caches[k].entries[j] := rfl
   have e2 := e1 (s.caches[k].entries[j].resp.type == 3)
   rw [hs] at e2
   rw [mC hj]
   generalize gV pU (s.caches[k].entries.take j) = D at l2 ⊢
   generalize pU s.caches[k].entries[j] = a at l1 e2 ⊢
   have w1 : IntKind.i64.wrap ((A : Int) + (D : Int) + (a : Int)) = (A : Int) + ((D : Int) + (a : Int)) := by rw [IntKind.wrap_i64]; omega
   simp (maxSteps := 9999999) [fA, hk, hj, hx, hy, e2, w1, wj, aU hj]
  ·rw [List.take_length]
   simp (maxSteps := 9999999) [fA, hk, hx, wk, tx]
 ·rw [List.take_length]
  simp (maxSteps := 9999999) [gx, zg]
theorem uA {x : XResponse} (h : x.body.length ≤ 1048576) (b : Bool) : ae Ph aF 219 [x.v, ar b] = some (aa .i64 (zh b x : Nat)) := by
 have w1 : IntKind.i64.wrap (16 + (x.body.length : Int)) = 16 + (x.body.length : Int) := by rw [IntKind.wrap_i64]; omega
 refine ab (fn := lb) rfl ?_
 cases b <;> simp (maxSteps := 9999999) [lb, zh, w1, bo]
theorem uz {s : XCacheSet} (h : s.Ok 1048576) : ae Ph aF 192 [s.v] = some (aa .i64 (zg s : Nat)) := by
 refine ab (fn := la) rfl ?_
 simp +contextual (maxSteps := 9999999) [la]
 refine aA aQ Cl.fin [.f,.t,.f,.t,.t,.f,.f,.f,.f,.f,.f,.f,.f,.f,.f,.f,.f,.f,.f,.f,.f,.f,.f,.f,.f,.f,.f,.f,.f,.f,.f,.f,.f,.f,.f,.f,.f,.f,.f,.f,.f,.f,.f] (fun k => [(3, aa .i64 (gV tx (s.caches.take k) : Nat)), (4, aa .i64 k)]) s.caches.length (fun _ => false) rfl (by simp [gV]) (fun k hk _ => ?_) (fun _ _ => ?_)
 ·have hx := XCache.e.eq_1 s.caches[k]
  have hc := h.2 _ (List.getElem_mem hk)
  have wk := aE (n := s.caches.length) (by have := h.1; unfold maxLen; omega) hk
  have l4 := mr (f := tx) (c := 1048592 * 1048576) (xs := s.caches.take k) (fun c hm => CJ (h.2 c (List.mem_of_mem_take hm)))
  have l5 : (s.caches.take k).length ≤ 1048576 := by rw [List.length_take]; have := h.1; omega
  rw [mC hk]
  generalize gV tx (s.caches.take k) = A at l4 ⊢
  simp (maxSteps := 9999999) [gB, hk, hx, aU hk]
  refine aA aQ Cl.kn [.f,.t,.f,.t,.t,.t,.f,.f,.f,.f,.f,.f,.f,.f,.f,.f,.f,.f,.f,.f,.f,.f,.f,.f,.f,.f,.f,.f,.f,.f,.f,.f,.f,.f,.f,.f,.f,.f,.f,.f,.f,.f,.f] (fun j => [(3, aa .i64 (A + gV pU (s.caches[k].entries.take j) : Nat)), (5, aa .i64 j)]) s.caches[k].entries.length (fun _ => false) rfl (by simp [gV]) (fun j hj _ => ?_) (fun _ _ => ?_)
  ·have hy := XCached.e.eq_1 s.caches[k].entries[j]
   have he := hc.2.2 _ (List.getElem_mem hj)
   have e1 := fun b => uA (x := s.caches[k].entries[j].resp) he.2.2.2.2.2 b
   have wj := aE (n := s.caches[k].entries.length) (by have := hc.2.1; unfold maxLen; omega) hj
   have l1 := rI he
   have l2 := mr (f := pU) (c := 1048592) (xs := s.caches[k].entries.take j) (fun c hm => rI (hc.2.2 c (List.mem_of_mem_take hm)))
   have l3 : (s.caches[k].entries.take j).length ≤ 1048576 := by rw [List.length_take]; have := hc.2.1; omega
   have hs : zh (s.caches[k].entries[j].resp.type == 3) s.caches[k].entries[j].resp = pU s.caches[k].entries[j] := rfl
   have e2 := e1 (s.caches[k].entries[j].resp.type == 3)
   rw [hs] at e2
   rw [mC hj]
   generalize gV pU (s.caches[k].entries.take j) = D at l2 ⊢
   generalize pU s.caches[k].entries[j] = a at l1 e2 ⊢
   have w1 : IntKind.i64.wrap ((A : Int) + (D : Int) + (a : Int)) = (A : Int) + ((D : Int) + (a : Int)) := by rw [IntKind.wrap_i64]; omega
   simp (maxSteps := 9999999) [fB, hk, hj, hx, hy, e2, w1, wj, aU hj]
  ·rw [List.take_length]
   simp (maxSteps := 9999999) [fB, hk, hx, wk, tx]
 ·rw [List.take_length]
  simp (maxSteps := 9999999) [gB, zg]
theorem HZ {s : XCacheSet} (h : s.Ok 1048576) : zg s ≤ 1048592 * 1048576 * 1048576 := Nat.le_trans (mr fun c hm => CJ (h.2 c hm)) (Nat.mul_le_mul_left _ h.1)
def Ix (x : XBucket) : Nat := zg x.caches + (qD x.disk.base + x.disk.log.length) + kG x.replica.base + 40 * x.replica.sync.outbox.writes.length
theorem Ak {x : XBucket} (h : x.Ok 1048576) : ae Ph aF 162 [x.v] = some (aa .i64 (Ix x : Nat)) := by
 obtain ⟨_, _, _, hc, hd, hr, _⟩ := h
 have e1 := ub hc
 have e2 := yc hd
 have e3 := oW hr.1
 have l1 := HZ hc
 have l2 := ww hd.1
 have l3 : kG x.replica.base ≤ 115343360 := Nat.le_trans (pz lw _) (by have := hr.1.2.1.1; omega)
 have l4 := hd.2.1
 have l5 : x.replica.sync.outbox.writes.length ≤ 1048576 := hr.2.2.1.2.2.1
 unfold Ix
 generalize zg x.caches = A at e1 l1 ⊢
 generalize qD x.disk.base = B at e2 l2 ⊢
 generalize kG x.replica.base = C at e3 l3 ⊢
 have w1 : IntKind.i64.wrap ((A : Int) + ((B : Int) + (x.disk.log.length : Int))) = (A : Int) + ((B : Int) + (x.disk.log.length : Int)) := by rw [IntKind.wrap_i64]; omega
 have w2 : IntKind.i64.wrap ((A : Int) + ((B : Int) + (x.disk.log.length : Int)) + (C : Int)) = (A : Int) + ((B : Int) + (x.disk.log.length : Int)) + (C : Int) := by rw [IntKind.wrap_i64]; omega
 have w3 : IntKind.i64.wrap (40 * (x.replica.sync.outbox.writes.length : Int)) = 40 * (x.replica.sync.outbox.writes.length : Int) := by rw [IntKind.wrap_i64]; omega
 have w4 : IntKind.i64.wrap ((A : Int) + ((B : Int) + (x.disk.log.length : Int)) + (C : Int) + 40 * (x.replica.sync.outbox.writes.length : Int)) = (A : Int) + ((B : Int) + (x.disk.log.length : Int)) + (C : Int) + 40 * (x.replica.sync.outbox.writes.length : Int) := by rw [IntKind.wrap_i64]; omega
 refine ab (fn := nH) rfl ?_
 simp +contextual (maxSteps := 9999999) [nH, e1, e2, e3, w1, w2, w3, w4]
theorem As {x : XBucket} (h : x.Ok 1048576) : ae Ph aF 161 [x.v] = some (aa .i64 (Ix x : Nat)) := by
 obtain ⟨_, _, _, hc, hd, hr, _⟩ := h
 have e1 := uz hc
 have e2 := yA hd
 have e3 := oY hr.1
 have l1 := HZ hc
 have l2 := ww hd.1
 have l3 : kG x.replica.base ≤ 115343360 := Nat.le_trans (pz lw _) (by have := hr.1.2.1.1; omega)
 have l4 := hd.2.1
 have l5 : x.replica.sync.outbox.writes.length ≤ 1048576 := hr.2.2.1.2.2.1
 unfold Ix
 generalize zg x.caches = A at e1 l1 ⊢
 generalize qD x.disk.base = B at e2 l2 ⊢
 generalize kG x.replica.base = C at e3 l3 ⊢
 have w1 : IntKind.i64.wrap ((A : Int) + ((B : Int) + (x.disk.log.length : Int))) = (A : Int) + ((B : Int) + (x.disk.log.length : Int)) := by rw [IntKind.wrap_i64]; omega
 have w2 : IntKind.i64.wrap ((A : Int) + ((B : Int) + (x.disk.log.length : Int)) + (C : Int)) = (A : Int) + ((B : Int) + (x.disk.log.length : Int)) + (C : Int) := by rw [IntKind.wrap_i64]; omega
 have w3 : IntKind.i64.wrap (40 * (x.replica.sync.outbox.writes.length : Int)) = 40 * (x.replica.sync.outbox.writes.length : Int) := by rw [IntKind.wrap_i64]; omega
 have w4 : IntKind.i64.wrap ((A : Int) + ((B : Int) + (x.disk.log.length : Int)) + (C : Int) + 40 * (x.replica.sync.outbox.writes.length : Int)) = (A : Int) + ((B : Int) + (x.disk.log.length : Int)) + (C : Int) + 40 * (x.replica.sync.outbox.writes.length : Int) := by rw [IntKind.wrap_i64]; omega
 refine ab (fn := nM) rfl ?_
 simp +contextual (maxSteps := 9999999) [nM, e1, e2, e3, w1, w2, w3, w4]
abbrev qm (s : List UInt8) : Bool := px s 30 true
theorem t9 {s : List UInt8} (h : s.length ≤ maxLen) : ae Ph aF 389 [dM s] = some (ar (qm s)) := by
 refine ab (fn := kQ) rfl ?_
 simp (maxSteps := 9999999) [kQ, rl h]
theorem uw {s : List UInt8} (h : s.length ≤ maxLen) : ae Ph aF 386 [dM s] = some (ar (qm s)) := by
 refine ab (fn := k8) rfl ?_
 simp +contextual (maxSteps := 9999999) [k8]
 refine aA aQ Cl.fin [.t,.f,.f,.t,.f,.f,.f,.f,.f,.f,.f,.f,.f,.f,.f,.f,.f,.f,.f,.f,.f,.f,.f,.f,.f,.f,.f,.f,.f] (fun k => [(3, aa .i64 k)]) s.length (IK true s) rfl (by simp) (fun k hk _ => ?_) (fun _ hp => ?_)
 ·simp +contextual (maxSteps := 9999999) [gA, IK, qm, px, hk, aE h hk, aU hk]
 ·simp +contextual (maxSteps := 9999999) [gA, qm, px, hp, bp]
def ol (x : XResponse) : Bool := rg x.type 1 4 && (rg x.status 0 999 && (rg x.version 0 1000000000000 && !(dE 60 x.body.length)))
theorem ij (x : XResponse) : ae Ph aF 403 [x.v] = some (ar (ol x)) := by
 refine ab (fn := kR) rfl ?_
 simp +contextual (maxSteps := 9999999) [kR, aY, ol, bo]
theorem uy (x : XResponse) : ae Ph aF 408 [x.v] = some (ar (ol x)) := by
 refine ab (fn := k9) rfl ?_
 simp +contextual (maxSteps := 9999999) [k9, bp, ol, bo]
def Hx (x : XWrite) : Bool := rg x.dev 1 1000000 && (rg x.seq 1 1000000 && (pO x.key && (ct x.field && rg x.n 0 1000000000)))
theorem lF {x : XWrite} (h : x.Ok maxLen) : ae Ph aF 390 [x.v] = some (ar (Hx x)) := by
 refine ab (fn := iZ) rfl ?_
 simp +contextual (maxSteps := 9999999) [iZ, aY, mo h.2.2.1, bg h.2.2.2.1, Hx]
theorem lH {x : XWrite} (h : x.Ok maxLen) : ae Ph aF 383 [x.v] = some (ar (Hx x)) := by
 refine ab (fn := i9) rfl ?_
 simp +contextual (maxSteps := 9999999) [i9, bp, mq h.2.2.1, bZ h.2.2.2.1, Hx]
def uY (a b : XBucket) : Bool := Op.bytesLess a.site b.site || (a.site == b.site && Op.bytesLess a.top b.top)
theorem re (a b : XBucket) : ae Ph aF 388 [a.v, b.v] = some (ar (uY a b)) := by
 refine ab (fn := jA) rfl ?_
 simp +contextual (maxSteps := 9999999) [jA, uY]
theorem AH (a b : XBucket) : ae Ph aF 385 [a.v, dM b.site, dM b.top] = some (ar (uY a b)) := by
 refine ab (fn := n6) rfl ?_
 simp +contextual (maxSteps := 9999999) [n6, uY]
def Jj : List (List UInt8) := [[98, 97, 110, 107], [110, 101, 119, 115], [115, 104, 111, 112]]
theorem yC : ae Ph aF 181 [] = some (.one (.own 1 (Jj.map uq))) := by
 refine ab (fn := mX) rfl ?_
 simp (maxSteps := 9999999) [mX, Jj, uq]
theorem Cg {us : List (List UInt8)} (hl : us.length ≤ maxLen) (x : List UInt8) : ae Ph aF 182 [bu (us.map uq), dM x] = some (aa .i64 (gv (fun u => x == u) us)) := by
 refine ab (fn := fu) rfl ?_
 simp +contextual (maxSteps := 9999999) [fu]
 refine aA aQ Cl.fin [.t,.t,.f,.f,.f,.f,.f,.t,.t,.f,.f,.f,.f,.f,.f,.f,.f,.f,.f] (fun k => [(8, aa .i64 k)]) us.length (iJ (fun u => x == u) us) rfl (by simp) (fun k hk hj => ?_) (fun hj _ => ?_)
 ·have hf := xV hk hj
  have hs : (us.map uq)[k]'(by simpa using hk) = [.str us[k]] := by simp [uq]
  cases hg : (x == us[k])
  ·simp (maxSteps := 9999999) [cF, iJ, hk, hg, aE hl hk, aU hk, uq]
  ·have hf2 := hf hg
   have ha : iJ (fun u => x == u) us k = true := by simp only [iJ, hk, List.getElem?_eq_getElem, hg]
   generalize gv (fun u => x == u) us = F at hf2 ⊢
   generalize iJ (fun u => x == u) us = A at ha ⊢
   simp (maxSteps := 9999999) [cF, ha, hk, hg, hf2, aE hl hk, aU hk, uq]
 ·simp +contextual (maxSteps := 9999999) [cF, B2 hj]
def yw (s : List UInt8) : Int := gv (fun u => s == u) Jj
theorem ua (s : List UInt8) : ae Ph aF 154 [dM s] = some (aa .i64 (yw s)) := by
 have e1 := Cg (us := Jj) (by decide) s
 simp only [Jj, List.map_cons, List.map_nil, uq] at e1
 refine ab (fn := kS) rfl ?_
 simp (maxSteps := 9999999) [kS, e1, yw, Jj]
def E4 (l v : Int) : Bool := !(rg v 0 1000000000000) || (!(v == 0) && !(dE l v))
def On (l v : Int) : Int := if v = 0 then l else v
def LH (V : List Int) (k : Nat) : Int := (V.take k).foldl On 0
def E5 (V : List Int) (k : Nat) : Bool := match V[k]? with
 | some v => E4 (LH V k) v
 | none => false
def Co (r : XRegistration) : Bool := !(fE [r.active, r.waiting, r.installing].length (E5 [r.active, r.waiting, r.installing])) && ct r.site
theorem OH {l v : Int} (h : E4 l v = true) : (rg v 0 1000000000000 = true → (v == 0) = false) ∧ (rg v 0 1000000000000 = true → dE l v = false) := by
 refine ⟨fun g => ?_, fun g => ?_⟩ <;> rw [E4, g] at h <;> simp at h
 ·simpa using h.1
 ·exact h.2
theorem MJ {l v : Int} (h : E4 l v = false) (hl : 0 ≤ l) : rg v 0 1000000000000 = true ∧ ((v == 0) = false → dE l v = true) ∧ (if l < v then v else l) = On l v ∧ 0 ≤ On l v := by
 simp only [E4, Bool.or_eq_false_iff, Bool.not_eq_false', Bool.and_eq_false_iff, beq_iff_eq] at h
 obtain ⟨h1, h2⟩ := h
 unfold On
 by_cases z : v = 0
 ·rw [if_pos z]; subst z; exact ⟨h1, fun q => by simp at q, by rw [if_neg (by omega)], hl⟩
 ·rw [if_neg z]
  have h3 := h2.resolve_left z
  have := of_decide_eq_true h3
  exact ⟨h1, fun _ => h3, by rw [if_pos this], by omega⟩
theorem Nd {V : List Int} {k : Nat} (hk : k < V.length) : LH V (k + 1) = On (LH V k) V[k] := by
 unfold LH; rw [List.take_succ_eq_append_getElem hk, List.foldl_append]; rfl
theorem FL {V : List Int} : ∀ {k : Nat}, k ≤ V.length → (∀ j, j < k → E5 V j = false) → 0 ≤ LH V k
 | 0, _, _ => Int.le_refl 0
 | k + 1, hk, hj => by
  have ih := FL (V := V) (k := k) (by omega) (fun j h => hj j (by omega))
  have hb := hj k (by omega)
  have hk' : k < V.length := hk
  simp only [E5, hk', List.getElem?_eq_getElem] at hb
  rw [Nd hk']
  exact (MJ hb ih).2.2.2
theorem ql {r : XRegistration} (h : r.Ok maxLen) : ae Ph aF 395 [r.v] = some (ar (Co r)) := by
 have e1 := bg h.1
 unfold Co
 obtain ⟨V, hV⟩ : ∃ V, V = [r.active, r.waiting, r.installing] := ⟨_, rfl⟩
 have hR : [[PV.int .i64 r.active], [PV.int .i64 r.waiting], [PV.int .i64 r.installing]] = V.map sM := by rw [hV]; rfl
 have hl : V.length = 3 := by rw [hV]; rfl
 rw [← hV]
 refine ab (fn := iA) rfl ?_
 simp (maxSteps := 9999999) [iA]
 rw [hR]
 clear hR hV
 refine aA aQ Cl.fin [.f,.t,.f,.t,.f,.f,.f,.f,.f,.f,.f,.f,.t,.t,.t,.f,.f,.f,.f,.f,.f,.f,.f,.f,.f,.f,.f,.f,.f,.f,.f,.f,.f,.f,.f,.f,.f] (fun k => [(3, aa .i64 (LH V k)), (14, aa .i64 k)]) V.length (E5 V) rfl (by simp [LH, hl]) (fun k hk hj => ?_) (fun _ hp => ?_)
 ·have hpos := FL (Nat.le_of_lt hk) hj
  have hs := Nd hk
  have hb : E5 V k = E4 (LH V k) V[k] := by simp [E5, hk]
  have e3 := aY V[k] 0 1000000000000
  have w := aE (n := V.length) (by rw [hl]; decide) hk
  have lk : dE (k : Int) 3 = true := lG (by omega)
  have hk3 : k < 3 := by omega
  rw [hb, hs]
  generalize LH V k = l at hpos ⊢
  generalize hv : V[k] = v at e3 ⊢
  cases b : E4 l v
  ·obtain ⟨g, z, mx, _⟩ := MJ b hpos
   rw [g] at e3
   cases z0 : (v == 0)
   ·have z1 := z z0
    have nx : On l v = v := if_neg (by simpa using z0)
    simp (maxSteps := 9999999) [cE, hk, hk3, hl, hv, sM, e3, z0, z1, mx, nx, w, lk]
   ·have nx : On l v = l := if_pos (by simpa using z0)
    simp (maxSteps := 9999999) [cE, hk, hk3, hl, hv, sM, e3, z0, mx, nx, w, lk]
  ·obtain ⟨q1, q2⟩ := OH b
   cases g : rg v 0 1000000000000 <;> rw [g] at e3
   ·simp +contextual (maxSteps := 9999999) [cE, hk, hk3, hl, hv, sM, e3, w, lk]
   ·have q3 := q1 g
    have q4 := q2 g
    simp +contextual (maxSteps := 9999999) [cE, hk, hk3, hl, hv, sM, e3, q3, q4, w, lk]
 ·rw [hl] at hp
  simp (maxSteps := 9999999) [cE, hp, hl, e1, show dE 3 3 = false from rfl]
theorem qv {r : XRegistration} (h : r.Ok maxLen) : ae Ph aF 391 [r.v] = some (ar (Co r)) := by
 have e1 := bZ h.1
 unfold Co
 obtain ⟨V, hV⟩ : ∃ V, V = [r.active, r.waiting, r.installing] := ⟨_, rfl⟩
 have hR : [[PV.int .i64 r.active], [PV.int .i64 r.waiting], [PV.int .i64 r.installing]] = V.map sM := by rw [hV]; rfl
 have hl : V.length = 3 := by rw [hV]; rfl
 rw [← hV]
 refine ab (fn := iD) rfl ?_
 simp (maxSteps := 9999999) [iD]
 rw [hR]
 clear hR hV
 refine aA aQ Cl.fin [.f,.t,.f,.t,.t,.t,.f,.f,.f,.f,.f,.f,.f,.f,.f,.f,.f,.f,.f,.f,.f,.f,.f,.f,.f,.f,.f,.f,.f,.f,.f,.f,.f,.f,.f,.f,.f,.f,.f,.f,.f,.f,.f,.f,.f,.f,.f,.f,.f,.f,.f,.f] (fun k => [(3, aa .i64 (LH V k)), (5, aa .i64 k)]) V.length (E5 V) rfl (by simp [LH, hl]) (fun k hk hj => ?_) (fun _ hp => ?_)
 ·have hpos := FL (Nat.le_of_lt hk) hj
  have hs := Nd hk
  have hb : E5 V k = E4 (LH V k) V[k] := by simp [E5, hk]
  have e3 := bp V[k] 0 1000000000000
  have w := aE (n := V.length) (by rw [hl]; decide) hk
  have lk : dE (k : Int) 3 = true := lG (by omega)
  have hk3 : k < 3 := by omega
  rw [hb, hs]
  generalize LH V k = l at hpos ⊢
  generalize hv : V[k] = v at e3 ⊢
  cases b : E4 l v
  ·obtain ⟨g, z, mx, _⟩ := MJ b hpos
   rw [g] at e3
   cases z0 : (v == 0)
   ·have z1 := z z0
    have nx : On l v = v := if_neg (by simpa using z0)
    simp (maxSteps := 9999999) [cG, hk, hk3, hl, hv, sM, e3, z0, z1, mx, nx, w, lk]
   ·have nx : On l v = l := if_pos (by simpa using z0)
    simp (maxSteps := 9999999) [cG, hk, hk3, hl, hv, sM, e3, z0, mx, nx, w, lk]
  ·obtain ⟨q1, q2⟩ := OH b
   cases g : rg v 0 1000000000000 <;> rw [g] at e3
   ·simp +contextual (maxSteps := 9999999) [cG, hk, hk3, hl, hv, sM, e3, w, lk]
   ·have q3 := q1 g
    have q4 := q2 g
    simp +contextual (maxSteps := 9999999) [cG, hk, hk3, hl, hv, sM, e3, q3, q4, w, lk]
 ·rw [hl] at hp
  simp (maxSteps := 9999999) [cG, hp, hl, e1, show dE 3 3 = false from rfl]
def Ps (fs : List XField) (nm : List UInt8) : Nat := fs.findIdx fun f => !(Op.bytesLess f.name nm)
def PY (fs : List XField) (nm : List UInt8) (n : Int) : List XField := match fs[Ps fs nm]? with
 | some f => if f.name = nm then fs.set (Ps fs nm) ⟨nm, n⟩ else fs.take (Ps fs nm) ++ (⟨nm, n⟩ :: fs.drop (Ps fs nm))
 | none => fs.take (Ps fs nm) ++ (⟨nm, n⟩ :: fs.drop (Ps fs nm))
def setR (fs : List XField) (nm : List UInt8) (n : Int) : List XField × Bool := cond (m9 fs && m9 (PY fs nm n)) (PY fs nm n, true) (fs, false)
theorem N5 {α : Type} {p : α → Bool} {xs : List α} (h : gv p xs = -1) : ∀ x ∈ xs, p x = false := fun x hx => by
 unfold gv at h
 cases q : xs.findIdx? p with
 | none => rw [List.findIdx?_eq_none_iff] at q; exact q x hx
 | some i => rw [q] at h; simp only at h; omega
theorem uj {j : Nat} : dE (j : Int) 0 = false := wg (by omega)
end Gi
