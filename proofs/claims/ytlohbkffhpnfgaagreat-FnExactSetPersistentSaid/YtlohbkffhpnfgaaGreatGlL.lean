/- Of this proof. -/
import Derived.Test.YtlohbkffhpnfgaaGreatGko
import Derived.Test.YtlohbkffhpnfgaaGreatGki
set_option linter.unusedSimpArgs false
set_option linter.unusedVariables false
namespace Gi
open Go Go.RowKit
set_option maxHeartbeats 8000000
set_option maxRecDepth 4000
attribute [local simp] bt sJ bf bW dV fU dU fT fZ fY uF uO uG uP uH uQ uI uR uJ uS uK uT uL uU uM uV uN uW V.cells plain bm f4 isInt isStr isBool bin cT jJ cU jK fV un asList L.view am V.view viewL aR au cX cd bO comp aJ br dv cq bH bF bG bN bi cu aW bJ aP aX bL cy bK bI bM V.flat L.flat dF di bz putAt thaw thawL thawT V.ow fX dX dY cV fW cW dW freezeVs freezeLs freezeL V.mut L.mut aI fi iV aL bd aD dh bD bh bR L.ren aT dG cf dK bS bB wp_seq wp_block bE ed cY ce cZ wp_skip wp_exit wp_ret cK cJ cP cL df dg de cj aV L.notArr aO aM aN dZ bn storeD ba fK bq cB be ny L.mov L.closed V.closed PV.bare PV.flat
theorem Cl.imp {call : Nat → List V → Option V} (hc : kH call) {Q : Ex → St → Prop} (hQ : Cl Q) {ks : List Fr} (hz : kz ks = true) {A : Prop} : Cl (fun e τ => A → wp call Q ks (some (e, τ))) := fun e σ τ k h a => IA hc hQ hz k (h a)
theorem uu {B : Nat} (hB1 : B ≤ 1048576) {d : XDatabase} (h : d.Ok B) : ae Ph aF 393 [d.v] = some (ar (I8 d)) := by
 have hB : B ≤ maxLen := by unfold maxLen; omega
 obtain ⟨hn, hv, ⟨hsl, hs⟩, hul, hu⟩ := h
 have e1 := bZ (Nat.le_trans hn hB)
 have e2 := bp d.version 0 1000
 have hsL : d.stores.length ≤ maxLen := Nat.le_trans hsl hB
 have huL : d.unique.length ≤ maxLen := Nat.le_trans hul hB
 unfold I8
 refine ab (fn := k7) rfl ?_
 simp (maxSteps := 9999999) [k7]
 refine aA aQ Cl.fin [.f,.t,.f,.t,.f,.f,.f,.f,.f,.f,.f,.f,.f,.f,.f,.f,.f,.f,.f,.f,.f,.f,.f,.f,.f,.f,.f,.f,.f,.f,.f,.f,.f,.f,.f,.f,.f,.f,.f,.f,.f,.f,.f,.f,.f,.f,.f,.f,.f,.f,.f,.f,.f,.f,.f,.f,.f,.f,.f,.f,.f,.f,.f,.f,.f,.f,.f,.f,.f,.f,.f,.f,.f,.f,.f,.f,.f,.f,.f,.f,.f,.f,.f,.f,.f,.f,.f,.f,.f,.f,.f,.f,.f,.f,.f,.f,.f,.f,.f,.f,.f,.f,.f,.f,.f,.f,.f,.f,.f,.f,.f,.f,.f,.f,.f,.f,.f,.f,.f,.f,.f,.f,.f,.f] (fun k => [(3, aa .i64 k)]) d.stores.length (MH d.stores) rfl (by simp) (fun k hk _ => ?_) (fun _ hp => ?_)
 ·obtain ⟨q1, q2⟩ := sV hsL hk
  have e3 := m4 (XStore.Ok.mono hB (hs _ (List.getElem_mem hk)))
  simp +contextual (maxSteps := 9999999) [eB, MH, hk, q1, q2, aE hsL hk, aU hk, XStore.e.eq_1 d.stores[k], XStore.e.eq_1 d.stores[k - 1], e3]
 ·simp (maxSteps := 9999999) [eB, hp]
  refine aA aQ Cl.fin [.f,.t,.f,.f,.t,.f,.f,.f,.f,.f,.f,.f,.f,.f,.f,.f,.f,.f,.f,.f,.f,.f,.f,.f,.f,.f,.f,.f,.f,.f,.f,.f,.f,.f,.f,.f,.f,.f,.f,.f,.f,.f,.f,.f,.f,.f,.f,.f,.f,.f,.f,.f,.f,.f,.f,.f,.f,.f,.f,.f,.f,.f,.f,.f,.f,.f,.f,.f,.f,.f,.f,.f,.f,.f,.f,.f,.f,.f,.f,.f,.f,.f,.f,.f,.f,.f,.f,.f,.f,.f,.f,.f,.f,.f,.f,.f,.f,.f,.f,.f,.f,.f,.f,.f,.f,.f,.f,.f,.f,.f,.f,.f,.f,.f,.f,.f,.f,.f,.f,.f,.f,.f,.f,.f] (fun k => [(4, aa .i64 k)]) d.unique.length (Di d.stores d.unique) rfl (by simp) (fun k hk _ => ?_) (fun _ hp => ?_)
  ·have e3 := wy (d := d) hsL d.unique[k].store
   have e4 := bZ (Nat.le_trans (hu _ (List.getElem_mem hk)).2 hB)
   have hdup : G3 d.unique k = fE k (iJ (ov d.unique[k]) d.unique) := by simp [G3, hk]
   have hx := XIndexDef.e.eq_1 d.unique[k]
   rcases Ez (Oc d.unique[k].store) d.stores with ⟨h1, h2⟩ | ⟨j, hj, h1, h2⟩ <;> rw [h1] at e3
   ·rw [show Di d.stores d.unique k = true by simp [Di, hk, h2]]
    simp +contextual (maxSteps := 9999999) [db, hk, e3, hx, aE huL hk, aU hk, show dE (-1) 0 = true from rfl]
   ·have e6 := sZ hB1 (hs _ (List.getElem_mem hj)) d.unique[k].field
    have hy := XStore.e.eq_1 d.stores[j]
    rw [show Di d.stores d.unique k = (!(ct d.unique[k].field) || (G3 d.unique k || (NF d.unique[k].field (mh d.unique[k].field d.stores[j].items)).2.2)) by simp [Di, hk, h2], hdup]
    generalize NF d.unique[k].field (mh d.unique[k].field d.stores[j].items) = T at e6 ⊢
    unfold Px at e6
    generalize ct d.unique[k].field = N at e4 ⊢
    cases N
    ·simp +contextual (maxSteps := 9999999) [db, hk, hj, e3, e4, e6, hx, hy, aE huL hk, aU hk, uj]
    cases hT : T.2.2 <;> rw [hT] at e6
    rotate_left
    ·simp +contextual (maxSteps := 9999999) [db, hk, hj, e3, e4, e6, hx, hy, aE huL hk, aU hk, uj]
    cases hD : fE k (iJ (ov d.unique[k]) d.unique)
    ·simp (maxSteps := 9999999) [db, hk, hj, e3, e4, e6, hx, hy, aE huL hk, aU hk, uj]
     refine aA aQ (Cl.kn) [.f,.t,.f,.f,.t,.f,.f,.f,.f,.t,.f,.f,.f,.f,.f,.f,.f,.f,.f,.f,.f,.f,.f,.f,.f,.f,.f,.f,.f,.f,.f,.f,.f,.f,.f,.f,.f,.f,.f,.f,.f,.f,.f,.f,.f,.f,.f,.f,.f,.f,.f,.f,.f,.f,.f,.f,.f,.f,.f,.f,.f,.f,.f,.f,.f,.f,.f,.f,.f,.f,.f,.f,.f,.f,.f,.f,.f,.f,.f,.f,.f,.f,.f,.f,.f,.f,.f,.f,.f,.f,.f,.f,.f,.f,.f,.f,.f,.f,.f,.f,.f,.f,.f,.f,.f,.f,.f,.f,.f,.f,.f,.f,.f,.f,.f,.f,.f,.f,.f,.f,.f,.f,.f,.f] (fun j => [(9, aa .i64 j)]) k (iJ (ov d.unique[k]) d.unique) rfl (by simp) (fun i hi _ => ?_) (fun _ hq => ?_)
     ·have hi2 : i < d.unique.length := by omega
      have hcm : ov d.unique[k] d.unique[i] = (d.unique[i].store == d.unique[k].store && d.unique[i].field == d.unique[k].field) := CG _ _
      simp +contextual (maxSteps := 9999999) [eC, iJ, hcm, hi2, hk, hx, XIndexDef.e.eq_1 d.unique[i], oN, Ml, aE huL hi2, aU hi, hD]
     ·simp (maxSteps := 9999999) [eC, aE huL hk]
    ·simp (maxSteps := 9999999) [db, hk, hj, e3, e4, e6, hx, hy, aE huL hk, aU hk, uj]
     refine aA aQ (Cl.imp aQ Cl.fin rfl) [.f,.t,.f,.f,.t,.f,.f,.f,.f,.t,.f,.f,.f,.f,.f,.f,.f,.f,.f,.f,.f,.f,.f,.f,.f,.f,.f,.f,.f,.f,.f,.f,.f,.f,.f,.f,.f,.f,.f,.f,.f,.f,.f,.f,.f,.f,.f,.f,.f,.f,.f,.f,.f,.f,.f,.f,.f,.f,.f,.f,.f,.f,.f,.f,.f,.f,.f,.f,.f,.f,.f,.f,.f,.f,.f,.f,.f,.f,.f,.f,.f,.f,.f,.f,.f,.f,.f,.f,.f,.f,.f,.f,.f,.f,.f,.f,.f,.f,.f,.f,.f,.f,.f,.f,.f,.f,.f,.f,.f,.f,.f,.f,.f,.f,.f,.f,.f,.f,.f,.f,.f,.f,.f,.f] (fun j => [(9, aa .i64 j)]) k (iJ (ov d.unique[k]) d.unique) rfl (by simp) (fun i hi _ => ?_) (fun _ hq => ?_)
     ·have hi2 : i < d.unique.length := by omega
      have hcm : ov d.unique[k] d.unique[i] = (d.unique[i].store == d.unique[k].store && d.unique[i].field == d.unique[k].field) := CG _ _
      simp +contextual (maxSteps := 9999999) [eC, iJ, hcm, hi2, hk, hx, XIndexDef.e.eq_1 d.unique[i], oN, Ml, aE huL hi2, aU hi, hD]
     ·rw [hD] at hq; cases hq
  ·simp +contextual (maxSteps := 9999999) [db, hp, e1, e2]
def yV (s t : List UInt8) (x : XCached) : Bool := x.site == s && x.path == t
theorem jZ {c : XCache} (h : c.entries.length ≤ maxLen) (s t : List UInt8) : ae Ph aF 333 [c.v, dM s, dM t] = some (aa .i64 (gv (yV s t) c.entries)) := by
 have e1 := FI (e := XCached.e) (p := yV s t) (xs := c.entries) (k := 346) (z := 7) (kc := 347) (caps := [[.str s], [.str t]]) rfl h (fun _ => rfl) (fun x _ => by
  refine ab (fn := lW) rfl ?_
  simp +contextual (maxSteps := 9999999) [lW, XCached.e.eq_1, GV, yV])
 refine ab (fn := nI) rfl ?_
 simp +contextual (maxSteps := 9999999) [nI, lI, qA, e1]
def qE (es : List XCached) (k : Nat) : Bool := match es[k]? with
 | some e => !(ct e.site) || (!(ct e.path) || (!(ol e.resp) || fE k (iJ (yV e.site e.path) es)))
 | none => false
def J7 (es : List XCached) : Bool := !(fE es.length (qE es)) && !(dE 12 es.length)
theorem sw {α : Type} {p : α → Bool} {xs : List α} {k : Nat} (hk : k < xs.length) (hs : p xs[k] = true) : (!(gv p xs == (k : Int))) = fE k (iJ p xs) := by
 cases q : fE k (iJ p xs) with
 | false => rw [xV hk (fun j hj => Mw q hj) hs]; simp
 | true =>
  rw [Bool.not_eq_true', beq_eq_false_iff_ne]
  intro e
  unfold fE at q
  rw [List.any_eq_true] at q
  obtain ⟨j, hj, h⟩ := q
  have hj := List.mem_range.1 hj
  unfold gv at e
  cases h1 : xs.findIdx? p with
  | none => rw [h1] at e; simp only at e; omega
  | some i =>
   rw [h1] at e
   simp only at e
   obtain rfl : i = k := by omega
   rw [List.findIdx?_eq_some_iff_getElem] at h1
   have h2 : j < xs.length := by omega
   have := h1.2.2 j hj
   simp only [iJ, h2, List.getElem?_eq_getElem] at h
   exact this h
def KP (cs : List XCache) (k : Nat) : Bool := match cs[k]?, cs[k - 1]? with
 | some x, some y => !(rg x.version 1 1000000000000) || ((dE 0 k && !(dE y.version x.version)) || !(J7 x.entries))
 | _, _ => false
def I7 (cs : List XCache) : Bool := !(fE cs.length (KP cs)) && !(dE 4 cs.length)
theorem uB {es : List XCached} (hl : es.length ≤ maxLen) (h : ∀ e ∈ es, e.Ok maxLen) : ae Ph aF 399 [bu (es.map XCached.e)] = some (ar (J7 es)) := by
 unfold J7
 refine ab (fn := lc) rfl ?_
 simp +contextual (maxSteps := 9999999) [lc]
 refine aA aQ Cl.fin [.t,.f,.f,.t,.f,.f,.f,.f,.f,.f,.f,.f,.f,.f,.f,.f,.f,.f,.f,.f,.f,.f,.f,.f,.f,.f,.f,.f,.f,.f,.f,.f,.f,.f,.f,.f,.f,.f,.f,.f,.f,.f,.f,.f,.f,.f,.f,.f,.f,.f,.f,.f,.f,.f,.f,.f,.f,.f,.f,.f,.f,.f,.f,.f,.f,.f,.f,.f] (fun k => [(3, aa .i64 k)]) es.length (qE es) rfl (by simp) (fun k hk _ => ?_) (fun _ hp => ?_)
 ·have e1 := bZ (h _ (List.getElem_mem hk)).1
  have e2 := bZ (h _ (List.getElem_mem hk)).2.1
  have e3 := uy es[k].resp
  have hx := XCached.e.eq_1 es[k]
  have hb : qE es k = (!(ct es[k].site) || (!(ct es[k].path) || (!(ol es[k].resp) || fE k (iJ (yV es[k].site es[k].path) es)))) := by simp [qE, hk]
  rw [hb]
  generalize ct es[k].site = b1 at e1 ⊢
  generalize ct es[k].path = b2 at e2 ⊢
  generalize ol es[k].resp = b3 at e3 ⊢
  cases b1
  ·simp +contextual (maxSteps := 9999999) [dc, hk, hx, e1, aU hk]
  cases b2
  ·simp +contextual (maxSteps := 9999999) [dc, hk, hx, e1, e2, aU hk]
  cases b3
  ·simp +contextual (maxSteps := 9999999) [dc, hk, hx, e1, e2, e3, aU hk]
  cases hD : fE k (iJ (yV es[k].site es[k].path) es)
  ·simp (maxSteps := 9999999) [dc, hk, hx, e1, e2, e3, aU hk]
   refine aA aQ Cl.kn [.t,.f,.f,.t,.t,.f,.f,.f,.f,.f,.f,.f,.f,.f,.f,.f,.f,.f,.f,.f,.f,.f,.f,.f,.f,.f,.f,.f,.f,.f,.f,.f,.f,.f,.f,.f,.f,.f,.f,.f,.f,.f,.f,.f,.f,.f,.f,.f,.f,.f,.f,.f,.f,.f,.f,.f,.f,.f,.f,.f,.f,.f,.f,.f,.f,.f,.f,.f] (fun j => [(4, aa .i64 j)]) k (iJ (yV es[k].site es[k].path) es) rfl (by simp) (fun i hi _ => ?_) (fun _ hq => ?_)
   ·have hi2 : i < es.length := by omega
    simp +contextual (maxSteps := 9999999) [eD, iJ, yV, hi, hi2, hk, hx, XCached.e.eq_1 es[i], aE hl hi2, aU hi, hD]
   ·simp (maxSteps := 9999999) [eD, aE hl hk]
  ·simp (maxSteps := 9999999) [dc, hk, hx, e1, e2, e3, aU hk]
   refine aA aQ (Cl.imp aQ Cl.fin rfl) [.t,.f,.f,.t,.t,.f,.f,.f,.f,.f,.f,.f,.f,.f,.f,.f,.f,.f,.f,.f,.f,.f,.f,.f,.f,.f,.f,.f,.f,.f,.f,.f,.f,.f,.f,.f,.f,.f,.f,.f,.f,.f,.f,.f,.f,.f,.f,.f,.f,.f,.f,.f,.f,.f,.f,.f,.f,.f,.f,.f,.f,.f,.f,.f,.f,.f,.f,.f] (fun j => [(4, aa .i64 j)]) k (iJ (yV es[k].site es[k].path) es) rfl (by simp) (fun i hi _ => ?_) (fun _ hq => ?_)
   ·have hi2 : i < es.length := by omega
    simp +contextual (maxSteps := 9999999) [eD, iJ, yV, hi, hi2, hk, hx, XCached.e.eq_1 es[i], aE hl hi2, aU hi, hD]
   ·rw [hD] at hq; cases hq
 ·simp (maxSteps := 9999999) [dc, hp]
theorem ut {s : XCacheSet} (h : s.Ok maxLen) : ae Ph aF 392 [s.v] = some (ar (I7 s.caches)) := by
 obtain ⟨h1, h2⟩ := h
 have e2 := fun v => bp v 1 1000000000000
 unfold I7
 refine ab (fn := k6) rfl ?_
 simp +contextual (maxSteps := 9999999) [k6]
 refine aA aQ Cl.fin [.f,.t,.f,.t,.f,.f,.f,.f,.f,.f,.f,.f,.f,.f,.f,.f,.f,.f,.f,.f,.f,.f,.f,.f,.f,.f,.f,.f,.f,.f,.f,.f,.f,.f,.f,.f,.f,.f,.f,.f,.f,.f,.f,.f,.f,.f,.f,.f,.f,.f,.f,.f,.f] (fun k => [(3, aa .i64 k)]) s.caches.length (KP s.caches) rfl (by simp) (fun k hk _ => ?_) (fun _ hp => ?_)
 ·obtain ⟨q1, q2⟩ := sV h1 hk
  have hc := h2 _ (List.getElem_mem hk)
  have e3 := uB hc.2.1 hc.2.2
  simp +contextual (maxSteps := 9999999) [gz, KP, hk, q1, q2, e2, e3, aE h1 hk, aU hk, XCache.e.eq_1 s.caches[k], XCache.e.eq_1 s.caches[k - 1]]
 ·simp (maxSteps := 9999999) [gz, hp]
theorem t7 {s : XCacheSet} (h : s.Ok maxLen) : ae Ph aF 396 [s.v] = some (ar (I7 s.caches)) := by
 obtain ⟨h1, h2⟩ := h
 unfold I7
 refine ab (fn := kP) rfl ?_
 simp +contextual (maxSteps := 9999999) [kP]
 refine aA aQ Cl.fin [.f,.t,.f,.f,.f,.f,.f,.f,.t,.t,.t,.f,.f,.f,.f,.f,.f,.f,.f,.f,.f,.f,.f,.f,.f,.f,.f,.f,.f,.f,.f,.f,.f,.f,.f,.f,.f,.f,.f,.f,.f,.f,.f,.f,.f,.f,.f,.f,.f,.f,.f,.f,.f,.f,.f,.f,.f,.f,.f,.f,.f,.f,.f,.f,.f,.f,.f,.f,.f,.f,.f,.f,.f,.f,.f,.f,.f,.f,.f,.f,.f] (fun k => [(10, aa .i64 k)]) s.caches.length (KP s.caches) rfl (by simp) (fun k hk _ => ?_) (fun _ hp => ?_)
 ·obtain ⟨q1, q2⟩ := sV h1 hk
  have hc := h2 _ (List.getElem_mem hk)
  have e2 := aY s.caches[k].version 1 1000000000000
  have hx := XCache.e.eq_1 s.caches[k]
  have hy := XCache.e.eq_1 s.caches[k - 1]
  have hb : KP s.caches k = (!(rg s.caches[k].version 1 1000000000000) || ((dE 0 k && !(dE s.caches[k - 1].version s.caches[k].version)) || (dE 12 s.caches[k].entries.length || fE s.caches[k].entries.length (qE s.caches[k].entries)))) := by
   simp only [KP, hk, q2, List.getElem?_eq_getElem, J7, Bool.not_and, Bool.not_not]
   rw [Bool.or_comm (dE 12 _)]
  rw [hb]
  generalize rg s.caches[k].version 1 1000000000000 = b1 at e2 ⊢
  cases b1
  ·simp +contextual (maxSteps := 9999999) [cb, hk, hx, e2, aU hk]
  cases c2 : dE 0 k && !(dE s.caches[k - 1].version s.caches[k].version)
  rotate_left
  ·rw [Bool.and_eq_true] at c2
   have c3 := q1 c2.1
   have c4 : dE s.caches[k - 1].version s.caches[k].version = false := by simpa using c2.2
   simp +contextual (maxSteps := 9999999) [cb, hk, q2, hx, hy, e2, c2.1, c3, c4, aU hk]
  have c3 : dE 0 k = true → dE s.caches[k - 1].version s.caches[k].version = true := fun q => by simpa [q] using c2
  cases c4 : dE 12 s.caches[k].entries.length
  rotate_left
  ·simp +contextual (maxSteps := 9999999) [cb, hk, q1, q2, hx, hy, e2, c3, c4, aU hk]
  cases hD : fE s.caches[k].entries.length (qE s.caches[k].entries)
  ·cases c5 : dE 0 k
   ·simp (maxSteps := 9999999) [cb, hk, hx, e2, c5, c4, aU hk]
    refine aA aQ Cl.kn [.f,.t,.f,.f,.t,.f,.f,.f,.t,.t,.t,.f,.f,.f,.f,.f,.f,.f,.f,.f,.f,.f,.f,.f,.f,.f,.f,.f,.f,.f,.f,.f,.f,.f,.f,.f,.f,.f,.f,.f,.f,.f,.t,.t,.t,.f,.f,.f,.f,.f,.f,.f,.f,.f,.f,.f,.f,.f,.f,.f,.f,.f,.f,.f,.f,.f,.f,.f,.f,.f,.f,.f,.f,.f,.f,.f,.f,.f,.f,.f,.f] (fun j => [(44, aa .i64 j)]) s.caches[k].entries.length (qE s.caches[k].entries) rfl (by simp) (fun j hj _ => ?_) (fun _ hq => ?_)
    ·have he := hc.2.2 _ (List.getElem_mem hj)
     have e4 := bg he.1
     have e5 := bg he.2.1
     have e6 := ij s.caches[k].entries[j].resp
     have e7 := jZ (c := s.caches[k]) hc.2.1 s.caches[k].entries[j].site s.caches[k].entries[j].path
     have hs := sw (p := yV s.caches[k].entries[j].site s.caches[k].entries[j].path) hj (by simp [yV])
     have hz := XCached.e.eq_1 s.caches[k].entries[j]
     have hbE : qE s.caches[k].entries j = (!(ct s.caches[k].entries[j].site) || (!(ct s.caches[k].entries[j].path) || (!(ol s.caches[k].entries[j].resp) || fE j (iJ (yV s.caches[k].entries[j].site s.caches[k].entries[j].path) s.caches[k].entries)))) := by simp [qE, hj]
     rw [hbE, ← hs]
     generalize gv (yV s.caches[k].entries[j].site s.caches[k].entries[j].path) s.caches[k].entries = F at e7 ⊢
     obtain ⟨g, hg⟩ : ∃ g, (F == (j : Int)) = g := ⟨_, rfl⟩
     rw [hg]
     simp +contextual (maxSteps := 9999999) [cD, hj, hz, e4, e5, e6, e7, hg, aE hc.2.1 hj, aU hj, hD]
    ·simp (maxSteps := 9999999) [cD, aE h1 hk]
   ·have c6 := q1 c5
    have c7 := c3 c5
    simp (maxSteps := 9999999) [cb, hk, q2, hx, hy, e2, c5, c6, c7, c4, aU hk]
    refine aA aQ Cl.kn [.f,.t,.f,.f,.t,.f,.f,.f,.t,.t,.t,.f,.f,.f,.f,.f,.f,.f,.f,.f,.f,.f,.f,.f,.f,.f,.f,.f,.f,.f,.f,.f,.f,.f,.f,.f,.f,.f,.f,.f,.f,.f,.t,.t,.t,.f,.f,.f,.f,.f,.f,.f,.f,.f,.f,.f,.f,.f,.f,.f,.f,.f,.f,.f,.f,.f,.f,.f,.f,.f,.f,.f,.f,.f,.f,.f,.f,.f,.f,.f,.f] (fun j => [(44, aa .i64 j)]) s.caches[k].entries.length (qE s.caches[k].entries) rfl (by simp) (fun j hj _ => ?_) (fun _ hq => ?_)
    ·have he := hc.2.2 _ (List.getElem_mem hj)
     have e4 := bg he.1
     have e5 := bg he.2.1
     have e6 := ij s.caches[k].entries[j].resp
     have e7 := jZ (c := s.caches[k]) hc.2.1 s.caches[k].entries[j].site s.caches[k].entries[j].path
     have hs := sw (p := yV s.caches[k].entries[j].site s.caches[k].entries[j].path) hj (by simp [yV])
     have hz := XCached.e.eq_1 s.caches[k].entries[j]
     have hbE : qE s.caches[k].entries j = (!(ct s.caches[k].entries[j].site) || (!(ct s.caches[k].entries[j].path) || (!(ol s.caches[k].entries[j].resp) || fE j (iJ (yV s.caches[k].entries[j].site s.caches[k].entries[j].path) s.caches[k].entries)))) := by simp [qE, hj]
     rw [hbE, ← hs]
     generalize gv (yV s.caches[k].entries[j].site s.caches[k].entries[j].path) s.caches[k].entries = F at e7 ⊢
     obtain ⟨g, hg⟩ : ∃ g, (F == (j : Int)) = g := ⟨_, rfl⟩
     rw [hg]
     simp +contextual (maxSteps := 9999999) [cD, hj, hz, e4, e5, e6, e7, hg, aE hc.2.1 hj, aU hj, hD]
    ·simp (maxSteps := 9999999) [cD, aE h1 hk]
  ·cases c5 : dE 0 k
   ·simp (maxSteps := 9999999) [cb, hk, hx, e2, c5, c4, aU hk]
    refine aA aQ (Cl.imp aQ Cl.fin rfl) [.f,.t,.f,.f,.t,.f,.f,.f,.t,.t,.t,.f,.f,.f,.f,.f,.f,.f,.f,.f,.f,.f,.f,.f,.f,.f,.f,.f,.f,.f,.f,.f,.f,.f,.f,.f,.f,.f,.f,.f,.f,.f,.t,.t,.t,.f,.f,.f,.f,.f,.f,.f,.f,.f,.f,.f,.f,.f,.f,.f,.f,.f,.f,.f,.f,.f,.f,.f,.f,.f,.f,.f,.f,.f,.f,.f,.f,.f,.f,.f,.f] (fun j => [(44, aa .i64 j)]) s.caches[k].entries.length (qE s.caches[k].entries) rfl (by simp) (fun j hj _ => ?_) (fun _ hq => ?_)
    ·have he := hc.2.2 _ (List.getElem_mem hj)
     have e4 := bg he.1
     have e5 := bg he.2.1
     have e6 := ij s.caches[k].entries[j].resp
     have e7 := jZ (c := s.caches[k]) hc.2.1 s.caches[k].entries[j].site s.caches[k].entries[j].path
     have hs := sw (p := yV s.caches[k].entries[j].site s.caches[k].entries[j].path) hj (by simp [yV])
     have hz := XCached.e.eq_1 s.caches[k].entries[j]
     have hbE : qE s.caches[k].entries j = (!(ct s.caches[k].entries[j].site) || (!(ct s.caches[k].entries[j].path) || (!(ol s.caches[k].entries[j].resp) || fE j (iJ (yV s.caches[k].entries[j].site s.caches[k].entries[j].path) s.caches[k].entries)))) := by simp [qE, hj]
     rw [hbE, ← hs]
     generalize gv (yV s.caches[k].entries[j].site s.caches[k].entries[j].path) s.caches[k].entries = F at e7 ⊢
     obtain ⟨g, hg⟩ : ∃ g, (F == (j : Int)) = g := ⟨_, rfl⟩
     rw [hg]
     simp +contextual (maxSteps := 9999999) [cD, hj, hz, e4, e5, e6, e7, hg, aE hc.2.1 hj, aU hj, hD]
    ·rw [hD] at hq; cases hq
   ·have c6 := q1 c5
    have c7 := c3 c5
    simp (maxSteps := 9999999) [cb, hk, q2, hx, hy, e2, c5, c6, c7, c4, aU hk]
    refine aA aQ (Cl.imp aQ Cl.fin rfl) [.f,.t,.f,.f,.t,.f,.f,.f,.t,.t,.t,.f,.f,.f,.f,.f,.f,.f,.f,.f,.f,.f,.f,.f,.f,.f,.f,.f,.f,.f,.f,.f,.f,.f,.f,.f,.f,.f,.f,.f,.f,.f,.t,.t,.t,.f,.f,.f,.f,.f,.f,.f,.f,.f,.f,.f,.f,.f,.f,.f,.f,.f,.f,.f,.f,.f,.f,.f,.f,.f,.f,.f,.f,.f,.f,.f,.f,.f,.f,.f,.f] (fun j => [(44, aa .i64 j)]) s.caches[k].entries.length (qE s.caches[k].entries) rfl (by simp) (fun j hj _ => ?_) (fun _ hq => ?_)
    ·have he := hc.2.2 _ (List.getElem_mem hj)
     have e4 := bg he.1
     have e5 := bg he.2.1
     have e6 := ij s.caches[k].entries[j].resp
     have e7 := jZ (c := s.caches[k]) hc.2.1 s.caches[k].entries[j].site s.caches[k].entries[j].path
     have hs := sw (p := yV s.caches[k].entries[j].site s.caches[k].entries[j].path) hj (by simp [yV])
     have hz := XCached.e.eq_1 s.caches[k].entries[j]
     have hbE : qE s.caches[k].entries j = (!(ct s.caches[k].entries[j].site) || (!(ct s.caches[k].entries[j].path) || (!(ol s.caches[k].entries[j].resp) || fE j (iJ (yV s.caches[k].entries[j].site s.caches[k].entries[j].path) s.caches[k].entries)))) := by simp [qE, hj]
     rw [hbE, ← hs]
     generalize gv (yV s.caches[k].entries[j].site s.caches[k].entries[j].path) s.caches[k].entries = F at e7 ⊢
     obtain ⟨g, hg⟩ : ∃ g, (F == (j : Int)) = g := ⟨_, rfl⟩
     rw [hg]
     simp +contextual (maxSteps := 9999999) [cD, hj, hz, e4, e5, e6, e7, hg, aE hc.2.1 hj, aU hj, hD]
    ·rw [hD] at hq; cases hq
 ·simp (maxSteps := 9999999) [cb, hp]
def MG (o : XOutbox) (k : Nat) : Bool := match o.writes[k]? with
 | some w => !(Hx w) || (!(w.dev == o.dev) || !(w.seq == IntKind.i64.wrap (IntKind.i64.wrap (o.next - (o.writes.length : Int)) + (k : Int))))
 | none => false
def yW (o : XOutbox) : Bool := rg o.dev 1 1000000 && (rg o.next 1 1000000 && (!(dE 20 o.writes.length) && !(fE o.writes.length (MG o))))
theorem ya {o : XOutbox} (h : o.Ok maxLen) : ae Ph aF 407 [o.v] = some (ar (yW o)) := by
 have hl := h.2.2.1
 refine ab (fn := mI) rfl ?_
 simp +contextual (maxSteps := 9999999) [mI]
 refine aA aQ Cl.fin [.f,.t,.f,.t,.f,.f,.f,.f,.f,.f,.t,.t,.t,.f,.f,.f,.f,.f,.f,.f,.f,.f,.f,.f,.f,.f,.f,.f,.f,.f,.f,.f,.f,.f,.f,.f,.f,.f,.f,.f,.f,.f,.f,.f,.f,.f,.f,.f,.f,.f,.f] (fun k => [(12, aa .i64 k)]) o.writes.length (MG o) rfl (by simp) (fun k hk _ => ?_) (fun _ hp => ?_)
 ·have e1 := lF (h.2.2.2 _ (List.getElem_mem hk))
  simp +contextual (maxSteps := 9999999) [iK, MG, yW, hk, e1, aE hl hk, aU hk, XWrite.e.eq_1 o.writes[k]]
 ·simp +contextual (maxSteps := 9999999) [iK, hp, yW, aY]
theorem yy {o : XOutbox} (h : o.Ok maxLen) : ae Ph aF 402 [o.v] = some (ar (yW o)) := by
 have hl := h.2.2.1
 have e2 := bp o.dev 1 1000000
 have e3 := bp o.next 1 1000000
 unfold yW
 refine ab (fn := f8) rfl ?_
 cases c1 : rg o.dev 1 1000000 <;> rw [c1] at e2
 ·simp (maxSteps := 9999999) [f8, e2]
 cases c2 : rg o.next 1 1000000 <;> rw [c2] at e3
 ·simp (maxSteps := 9999999) [f8, e2, e3]
 cases c3 : dE 20 o.writes.length
 rotate_left
 ·simp (maxSteps := 9999999) [f8, e2, e3, c3]
 simp (maxSteps := 9999999) [f8, e2, e3, c3]
 refine aA aQ Cl.fin [.f,.t,.f,.t,.t,.f,.f,.f,.f,.f,.f,.f,.f,.f,.f,.f,.f,.f,.f,.f,.f,.f,.f,.f,.f,.f,.f,.f,.f,.f,.f,.f,.f,.f,.f,.f,.f,.f,.f,.f,.f,.f,.f,.f,.f,.f,.f,.f,.f,.f,.f,.f,.f,.f,.f,.f,.f,.f,.f,.f] (fun k => [(4, aa .i64 k)]) o.writes.length (MG o) rfl (by simp) (fun k hk _ => ?_) (fun _ hp => ?_)
 ·have e1 := lH (h.2.2.2 _ (List.getElem_mem hk))
  simp +contextual (maxSteps := 9999999) [iO, MG, hk, e1, aE hl hk, aU hk, XWrite.e.eq_1 o.writes[k]]
 ·simp +contextual (maxSteps := 9999999) [iO, hp]
def rB : List UInt8 := [110, 111, 116, 101, 115]
def Cp (r : XReplica) : Bool := lm r.base && (r.base.name == rB && (rg r.seen 0 1000000000000 && yW r.sync.outbox))
theorem vW {r : XReplica} (h : r.Ok maxLen) : ae Ph aF 398 [r.v] = some (ar (Cp r)) := by
 have e1 := mY h.1
 have e2 := aY r.seen 0 1000000000000
 have e3 := ya h.2.2.1
 unfold Cp
 generalize lm r.base = b1 at e1 ⊢
 generalize rg r.seen 0 1000000000000 = b2 at e2 ⊢
 generalize yW r.sync.outbox = b3 at e3 ⊢
 obtain ⟨b4, h4⟩ : ∃ g, (r.base.name == rB) = g := ⟨_, rfl⟩
 rw [h4]
 unfold rB at h4
 refine ab (fn := lO) rfl ?_
 cases b1 <;> cases b2 <;> cases b3 <;> cases b4 <;> simp (maxSteps := 9999999) [lO, e1, e2, e3, h4]
theorem wz {r : XReplica} (h : r.Ok maxLen) : ae Ph aF 394 [r.v] = some (ar (Cp r)) := by
 have e1 := m4 h.1
 have e2 := bp r.seen 0 1000000000000
 have e3 := yy h.2.2.1
 unfold Cp
 generalize lm r.base = b1 at e1 ⊢
 generalize rg r.seen 0 1000000000000 = b2 at e2 ⊢
 generalize yW r.sync.outbox = b3 at e3 ⊢
 obtain ⟨b4, h4⟩ : ∃ g, (r.base.name == rB) = g := ⟨_, rfl⟩
 rw [h4]
 unfold rB at h4
 refine ab (fn := mb) rfl ?_
 cases b1 <;> cases b2 <;> cases b3 <;> cases b4 <;> simp (maxSteps := 9999999) [mb, e1, e2, e3, h4]
def pE (x y : XLock) : Bool := y.name == x.name && (x.held && (!y.held || (!x.shared || !y.shared)))
def IJ (ls : List XLock) (k : Nat) : Bool := match ls[k]? with
 | some x => !(qm x.name) || (!(rg x.page 1 1000000000000) || fE k (iJ (pE x) ls))
 | none => false
def qn (ls : List XLock) : Bool := !(fE ls.length (IJ ls)) && !(dE 12 ls.length)
theorem sO {ls : List XLock} (hl : ls.length ≤ maxLen) (h : ∀ x ∈ ls, x.Ok maxLen) : ae Ph aF 380 [.agg [.pv (.lst (ls.map XLock.e))]] = some (ar (qn ls)) := by
 unfold qn
 refine ab (fn := j9) rfl ?_
 simp +contextual (maxSteps := 9999999) [j9]
 refine aA aQ Cl.fin [.f,.t,.f,.f,.f,.f,.f,.f,.t,.t,.t,.f,.f,.f,.f,.f,.f,.f,.f,.f,.f,.f,.f,.f,.f,.f,.f,.f,.f,.f,.f,.f,.f,.f,.f,.f,.f,.f,.f,.f,.f,.f,.f,.f,.f,.f,.f,.f,.f,.f,.f,.f,.f,.f,.f,.f,.f,.f,.f,.f,.f,.f,.f,.f] (fun k => [(10, aa .i64 k)]) ls.length (IJ ls) rfl (by simp) (fun k hk _ => ?_) (fun _ hp => ?_)
 ·have e1 := t9 (h _ (List.getElem_mem hk)).1
  have e2 := aY ls[k].page 1 1000000000000
  have hx := XLock.e.eq_1 ls[k]
  have w := du (e := XLock.e) (z := 4) (fun _ => rfl) ls
  have hb : IJ ls k = (!(qm ls[k].name) || (!(rg ls[k].page 1 1000000000000) || fE k (iJ (pE ls[k]) ls))) := by simp [IJ, hk]
  rw [hb]
  generalize qm ls[k].name = b1 at e1 ⊢
  generalize rg ls[k].page 1 1000000000000 = b2 at e2 ⊢
  cases b1
  ·simp +contextual (maxSteps := 9999999) [dw, hk, hx, e1, aU hk]
  cases b2
  ·simp +contextual (maxSteps := 9999999) [dw, hk, hx, e1, e2, aU hk]
  cases hD : fE k (iJ (pE ls[k]) ls)
  ·simp (maxSteps := 9999999) [dw, hk, hx, e1, e2, w, Nat.le_of_lt hk, aU hk]
   refine aA aQ Cl.kn [.f,.t,.f,.f,.t,.f,.f,.f,.t,.t,.t,.f,.f,.f,.f,.f,.f,.f,.f,.f,.f,.f,.f,.f,.f,.f,.f,.f,.t,.t,.t,.f,.f,.f,.f,.f,.f,.f,.f,.f,.f,.f,.f,.f,.f,.f,.f,.f,.f,.f,.f,.f,.f,.f,.f,.f,.f,.f,.f,.f,.f,.f,.f,.f] (fun j => [(30, aa .i64 j)]) k (iJ (pE ls[k]) ls) rfl (by simp) (fun i hi _ => ?_) (fun _ hq => ?_)
   ·have hi2 : i < ls.length := by omega
    simp +contextual (maxSteps := 9999999) [dO, iJ, pE, hi, hi2, hk, hx, XLock.e.eq_1 ls[i], aE hl hi2, aU hi, hD]
   ·simp (maxSteps := 9999999) [dO, aE hl hk]
  ·simp (maxSteps := 9999999) [dw, hk, hx, e1, e2, w, Nat.le_of_lt hk, aU hk]
   refine aA aQ (Cl.imp aQ Cl.fin rfl) [.f,.t,.f,.f,.t,.f,.f,.f,.t,.t,.t,.f,.f,.f,.f,.f,.f,.f,.f,.f,.f,.f,.f,.f,.f,.f,.f,.f,.t,.t,.t,.f,.f,.f,.f,.f,.f,.f,.f,.f,.f,.f,.f,.f,.f,.f,.f,.f,.f,.f,.f,.f,.f,.f,.f,.f,.f,.f,.f,.f,.f,.f,.f,.f] (fun j => [(30, aa .i64 j)]) k (iJ (pE ls[k]) ls) rfl (by simp) (fun i hi _ => ?_) (fun _ hq => ?_)
   ·have hi2 : i < ls.length := by omega
    simp +contextual (maxSteps := 9999999) [dO, iJ, pE, hi, hi2, hk, hx, XLock.e.eq_1 ls[i], aE hl hi2, aU hi, hD]
   ·rw [hD] at hq; cases hq
 ·simp (maxSteps := 9999999) [dw, hp]
theorem sY {ls : List XLock} (hl : ls.length ≤ maxLen) (h : ∀ x ∈ ls, x.Ok maxLen) : ae Ph aF 378 [.agg [.pv (.lst (ls.map XLock.e))]] = some (ar (qn ls)) := by
 unfold qn
 refine ab (fn := kw) rfl ?_
 simp +contextual (maxSteps := 9999999) [kw]
 refine aA aQ Cl.fin [.f,.t,.f,.t,.f,.f,.f,.f,.f,.f,.f,.f,.f,.f,.f,.f,.f,.f,.f,.f,.f,.f,.f,.f,.f,.f,.f,.f,.f,.f,.f,.f,.f,.f,.f,.f,.f,.f,.f,.f,.f,.f,.f,.f,.f,.f,.f,.f,.f,.f,.f,.f,.f,.f,.f,.f,.f,.f,.f,.f,.f,.f,.f,.f,.f,.f,.f] (fun k => [(3, aa .i64 k)]) ls.length (IJ ls) rfl (by simp) (fun k hk _ => ?_) (fun _ hp => ?_)
 ·have e1 := uw (h _ (List.getElem_mem hk)).1
  have e2 := bp ls[k].page 1 1000000000000
  have hx := XLock.e.eq_1 ls[k]
  have hb : IJ ls k = (!(qm ls[k].name) || (!(rg ls[k].page 1 1000000000000) || fE k (iJ (pE ls[k]) ls))) := by simp [IJ, hk]
  rw [hb]
  generalize qm ls[k].name = b1 at e1 ⊢
  generalize rg ls[k].page 1 1000000000000 = b2 at e2 ⊢
  cases b1
  ·simp +contextual (maxSteps := 9999999) [dy, hk, hx, e1, aU hk]
  cases b2
  ·simp +contextual (maxSteps := 9999999) [dy, hk, hx, e1, e2, aU hk]
  cases hD : fE k (iJ (pE ls[k]) ls)
  ·simp (maxSteps := 9999999) [dy, hk, hx, e1, e2, aU hk]
   refine aA aQ Cl.kn [.f,.t,.f,.t,.t,.t,.f,.f,.f,.f,.f,.f,.f,.f,.f,.f,.f,.f,.f,.f,.f,.f,.f,.f,.f,.f,.f,.f,.f,.f,.f,.f,.f,.f,.f,.f,.f,.f,.f,.f,.f,.f,.f,.f,.f,.f,.f,.f,.f,.f,.f,.f,.f,.f,.f,.f,.f,.f,.f,.f,.f,.f,.f,.f,.f,.f,.f] (fun j => [(5, aa .i64 j)]) k (iJ (pE ls[k]) ls) rfl (by simp) (fun i hi _ => ?_) (fun _ hq => ?_)
   ·have hi2 : i < ls.length := by omega
    simp +contextual (maxSteps := 9999999) [dS, iJ, pE, hi, hi2, hk, hx, XLock.e.eq_1 ls[i], aE hl hi2, aU hi, hD]
   ·simp (maxSteps := 9999999) [dS, aE hl hk]
  ·simp (maxSteps := 9999999) [dy, hk, hx, e1, e2, aU hk]
   refine aA aQ (Cl.imp aQ Cl.fin rfl) [.f,.t,.f,.t,.t,.t,.f,.f,.f,.f,.f,.f,.f,.f,.f,.f,.f,.f,.f,.f,.f,.f,.f,.f,.f,.f,.f,.f,.f,.f,.f,.f,.f,.f,.f,.f,.f,.f,.f,.f,.f,.f,.f,.f,.f,.f,.f,.f,.f,.f,.f,.f,.f,.f,.f,.f,.f,.f,.f,.f,.f,.f,.f,.f,.f,.f,.f] (fun j => [(5, aa .i64 j)]) k (iJ (pE ls[k]) ls) rfl (by simp) (fun i hi _ => ?_) (fun _ hq => ?_)
   ·have hi2 : i < ls.length := by omega
    simp +contextual (maxSteps := 9999999) [dS, iJ, pE, hi, hi2, hk, hx, XLock.e.eq_1 ls[i], aE hl hi2, aU hi, hD]
   ·rw [hD] at hq; cases hq
 ·simp (maxSteps := 9999999) [dy, hp]
end Gi
