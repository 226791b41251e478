/- Of this proof. -/
import Derived.Test.YthklhahdgbbbhaaGreatGxl
import Derived.Test.YthklhahdgbbbhaaGreatGxp
set_option linter.unusedSimpArgs false
namespace Gi
open Go Go.RowKit
set_option maxHeartbeats 4000000
set_option maxRecDepth 4000
attribute [local simp] bW am bg bt cF dN Opd.ev put V.cells plain bz hJ isInt isStr isBool bin bf aS aR un asList L.view aB V.view viewL bC aC aT cj comp bq bZ bK a9 aK aI aJ aQ aE ba ar aM aA av aO aN aL aP thawT bB bw cd bG bA bz V.flat L.flat dX dJ bS putAt thaw thawL freezeVs freezeLs freezeL V.mut L.mut bm aZ wp_seq wp_block bE wp_cond wp_skip wp_exit wp_ret cN cE cK cH cS cT cR cq bj L.notArr aY aW aX bH bI
section
variable {B : Nat} {r : XRecord} {nm : List UInt8} {n : Int}
theorem JI {f : XField} (h : r.fs[uu r.fs nm]? = some f) (e : f.name = nm) : jd r.fs nm n = r.fs.set (uu r.fs nm) ⟨nm, n⟩ := by unfold jd; rw [h]; simp [e]
theorem FG (h : ∀ f, r.fs[uu r.fs nm]? = some f → f.name ≠ nm) : jd r.fs nm n = r.fs.take (uu r.fs nm) ++ (⟨nm, n⟩ :: r.fs.drop (uu r.fs nm)) := by
 unfold jd
 split
 ·rename_i f hf
  rw [if_neg (h f hf)]
 ·rfl
theorem nH {b : Bool} (h1 : cG r = true) (h2 : cG ⟨jd r.fs nm n⟩ = b) : setR r nm n = cond b (⟨jd r.fs nm n⟩, true) (r, false) := by
 unfold setR
 cases b with
 | true => rw [if_pos ⟨h1, h2⟩]; rfl
 | false => rw [if_neg (by rw [h2]; simp)]; rfl
theorem rj (h1 : cG r = false) : setR r nm n = (r, false) := by unfold setR; rw [if_neg (by rw [h1]; simp)]
theorem Fz (fs : List XField) (k : Nat) : (fs.take k ++ (⟨nm, n⟩ :: fs.drop k)).map XField.e = (fs.map XField.e).take k ++ ([.str nm, .int .i64 n] :: (fs.map XField.e).drop k) := by simp [XField.e]
theorem ED (fs : List XField) (k : Nat) : ((fs.map XField.e).take k).all (fun e => e.length == 2) = true := by rw [← List.map_take]; exact kL XField.len _
theorem D9 (fs : List XField) (k : Nat) : ((fs.map XField.e).drop k).all (fun e => e.length == 2) = true := by rw [← List.map_drop]; exact kL XField.len _
theorem zx (hB : B ≤ 1048576) (h : r.Ok B) (hn : nm.length ≤ B) (hi : nb n) : aa Ph al 338 [.agg [.pv (.lst (r.fs.map XField.e))], eX nm, ae .i64 n] = some (iP (setR r nm n)) := by
 have hM : B + 1 ≤ maxLen := by unfold maxLen; omega
 have e1 := ro hB h
 have e2 := j7 (by omega) h
 have e3 := j7 (r := ⟨jd r.fs nm n⟩) hM (JJ h hn hi)
 have hl : r.fs.length ≤ 1048576 := Nat.le_trans h.1 hB
 have hp := IA r.fs nm
 have hpi : ¬ ((uu r.fs nm : Nat) : Int) < 0 := by omega
 generalize hk : uu r.fs nm = k at hp hpi
 refine aw (fn := oC) rfl ?_
 simp [oC, e1]
 refine bU bh Cl.fin [.f,.t,.t,.t,.f,.f,.t,.f,.t,.t,.f,.f,.f,.f,.f,.f,.f,.f,.f,.f,.f,.f,.f,.f,.f,.f,.f,.f,.f,.f,.f,.f,.f,.f,.f,.f,.f,.f,.f,.f,.f,.f,.f,.f,.f,.f,.f,.f,.f,.f,.f,.f,.f,.f,.f,.f,.f,.f,.f,.f,.f,.f,.f,.f,.f,.f,.f,.f,.f,.f,.f,.f,.f,.f,.f,.f,.f,.f] (fun k => [(9, ae .i64 k)]) k (fun _ => false) rfl ?_ ?_ ?_ ?_
 ·exact Kn.q [0, 1, 2, 3]
 ·intro j hj _
  have hj2 : j < r.fs.length := by omega
  have hw := ag (k := j) (by omega)
  have l1 : fE .lss r.fs[j].name nm = some (aj true) := by
   rw [← hk] at hj
   simp only [fE, Mt hj hj2]
  simp [dh, hj2, XField.e.eq_1 r.fs[j], ↓l1, hw]
  exact Kn.q [0, 1, 2, 3]
 ·intro j _ h _; cases h
 ·intro _
  by_cases hlt : k < r.fs.length
  ·have hx := XField.e.eq_1 r.fs[k]
   have l1 : fE .lss r.fs[k].name nm = some (aj false) := by
    subst hk
    simp only [fE, Ms hlt]
   by_cases hq : r.fs[k].name = nm
   ·have hs : jd r.fs nm n = r.fs.set k ⟨nm, n⟩ := by
     rw [← hk]
     exact JI (f := r.fs[k]) (by simp [hk, hlt]) hq
    have hm : (r.fs.map XField.e).set k [.str r.fs[k].name, .int .i64 n] = (jd r.fs nm n).map XField.e := by rw [hs, List.map_set, hq]; rfl
    have hqb : (r.fs[k].name == nm) = true := by simpa using hq
    cases c1 : cG r <;> rw [c1] at e2
    ·rw [rj c1]
     simp [dh, hlt, hx, ↓l1, hqb, hm, e2, e1, iP]
    ·rw [nH (b := cG ⟨jd r.fs nm n⟩) c1 rfl]
     generalize cG ⟨jd r.fs nm n⟩ = c at e3
     generalize jd r.fs nm n = F at hm e3
     cases c
     ·simp [dh, hlt, hx, ↓l1, hqb, hm, e2, e3, e1, iP]
     ·simp [dh, hlt, hx, ↓l1, hqb, hm, e2, e3, iP]
   ·have hs : jd r.fs nm n = r.fs.take k ++ (⟨nm, n⟩ :: r.fs.drop k) := by
     rw [← hk]
     refine FG fun f hf => ?_
     rw [hk, List.getElem?_eq_getElem hlt] at hf
     cases hf
     exact hq
    have hm : (r.fs.map XField.e).take k ++ ([.str nm, .int .i64 n] :: (r.fs.map XField.e).drop k) = (jd r.fs nm n).map XField.e := by rw [hs, Fz]
    have hqc : (r.fs[k].name == nm) = false := by simpa using hq
    have q0 := kL XField.len r.fs
    have m0 := pU (m := k) (z := 24) (by omega) (by omega)
    have m1 := pU (m := k + 1) (z := 24) (by omega) (by omega)
    have m2 := pU (m := r.fs.length + 1) (z := 24) (by omega) (by omega)
    have m3 : k + 1 + (r.fs.length - k) = r.fs.length + 1 := by omega
    have q1 := ED r.fs k
    have tk : ((r.fs.map XField.e).drop k).take (r.fs.length - k) = (r.fs.map XField.e).drop k := List.take_of_length_le (by simp)
    have q2 := D9 r.fs k
    have b1 : min k r.fs.length = k := by omega
    cases c1 : cG r <;> rw [c1] at e2
    ·rw [rj c1]
     simp [dh, hlt, hx, ↓l1, hqc, hm, e2, e1, iP, ↓q0, ↓q1, ↓q2, ↓tk, b1, hp, m0, m1, m2, m3]
    ·rw [nH (b := cG ⟨jd r.fs nm n⟩) c1 rfl]
     generalize cG ⟨jd r.fs nm n⟩ = c at e3
     generalize jd r.fs nm n = F at hm e3
     cases c
     ·simp [dh, hlt, hx, ↓l1, hqc, hm, e2, e3, e1, iP, ↓q0, ↓q1, ↓q2, ↓tk, b1, hp, m0, m1, m2, m3]
     ·simp [dh, hlt, hx, ↓l1, hqc, hm, e2, e3, iP, ↓q0, ↓q1, ↓q2, ↓tk, b1, hp, m0, m1, m2, m3]
  ·have hke : k = r.fs.length := by omega
   subst hke
   have tk : (r.fs.map XField.e).take r.fs.length = r.fs.map XField.e := List.take_of_length_le (by simp)
   have td : (r.fs.map XField.e).drop r.fs.length = [] := List.drop_of_length_le (by simp)
   have hs : jd r.fs nm n = r.fs.take r.fs.length ++ (⟨nm, n⟩ :: r.fs.drop r.fs.length) := by
    rw [FG (fun f hf => by rw [hk, List.getElem?_eq_none (Nat.le_refl _)] at hf; cases hf), hk]
   have hm : (r.fs.map XField.e) ++ [[.str nm, .int .i64 n]] = (jd r.fs nm n).map XField.e := by
    rw [hs, Fz, tk, td]
   have q0 := kL XField.len r.fs
   have m0 := pU (m := r.fs.length) (z := 24) (by omega) (by omega)
   have m2 := pU (m := r.fs.length + 1) (z := 24) (by omega) (by omega)
   have m5 := pU (m := (jd r.fs nm n).length) (z := 24) (by have := Hv r.fs nm n; omega) (by omega)
   cases c1 : cG r <;> rw [c1] at e2
   ·rw [rj c1]
    simp [dh, ↓tk, ↓td, ↓q0, hm, m0, m2, m5, e2, e1, iP]
   ·rw [nH (b := cG ⟨jd r.fs nm n⟩) c1 rfl]
    generalize cG ⟨jd r.fs nm n⟩ = c at e3
    generalize jd r.fs nm n = F at hm e3 m5
    cases c
    ·simp [dh, ↓tk, ↓td, ↓q0, hm, m0, m2, m5, e2, e3, e1, iP]
    ·simp [dh, ↓tk, ↓td, ↓q0, hm, m0, m2, m5, e2, e3, iP]
end
section
variable {B : Nat} {r : XRecord} {nm : List UInt8} {n : Int}
theorem y8 (hB : B ≤ 1048576) (h : r.Ok B) (hn : nm.length ≤ B) (hi : nb n) : aa Ph al 341 [.agg [.pv (.lst (r.fs.map XField.e))], eX nm, ae .i64 n] = some (iP (setR r nm n)) := by
 have hM : B + 1 ≤ maxLen := by unfold maxLen; omega
 have hF : bR (.lst dx) (.lst (r.fs.map XField.e)) := bY (fun _ q => XField.has (by unfold maxLen; omega) q) (by unfold maxLen; omega) h
 have e1 := ju hB h
 have e2 := mV (by omega) h
 have e3 := mV (r := ⟨jd r.fs nm n⟩) hM (JJ h hn hi)
 have e4 := sS hF nm
 have hl : r.fs.length ≤ 1048576 := Nat.le_trans h.1 hB
 have hp := IA r.fs nm
 have fp := fun hv => G0 (nm := nm) (fs := r.fs) 0 (NM (r := r) hv)
 refine aw (fn := iT) rfl ?_
 by_cases hneg : bN (tK nm) (r.fs.map XField.e) 0 < 0
 ·generalize bN (tK nm) (r.fs.map XField.e) 0 = I at e4 hneg fp
  generalize hk : uu r.fs nm = k at hp fp
  have hneg2 : ¬ 0 ≤ I := by omega
  simp [iT, e1, e4, hneg, hneg2]
  refine bU bh Cl.fin [.f,.t,.t,.t,.f,.f,.t,.f,.t,.f,.t,.f,.f,.f,.f,.f,.f,.f,.f,.f,.f,.f,.f,.f,.f,.f,.f,.f,.f,.f,.f,.f,.f,.f,.f,.f,.f,.f,.f,.f,.f,.f,.f,.f,.f,.f,.f,.f,.f,.f,.f,.f,.f,.f,.f,.f,.f,.f,.f,.f,.f] (fun k => [(10, ae .i64 k)]) k (fun _ => false) rfl ?_ ?_ ?_ ?_
  ·exact Kn.q [0, 1, 2, 3]
  ·intro j hj _
   have hj2 : j < r.fs.length := by omega
   have hw := ag (k := j) (by omega)
   have l1 : fE .lss r.fs[j].name nm = some (aj true) := by
    rw [← hk] at hj
    simp only [fE, Mt hj hj2]
   simp [fo, hj2, XField.e.eq_1 r.fs[j], ↓l1, hw]
   exact Kn.q [0, 1, 2, 3]
  ·intro j _ h _; cases h
  ·intro _
   have hm : cG r = true → (r.fs.map XField.e).take k ++ ([.str nm, .int .i64 n] :: (r.fs.map XField.e).drop k) = (jd r.fs nm n).map XField.e := fun hv => by
    rw [← Fz, FG (fun f hf => ?_), hk]
    intro e
    have := fp hv
    rw [hk] at hf
    rw [hf] at this
    simp only [e, if_true] at this
    omega
   have q1 := ED r.fs k
   have q2 := D9 r.fs k
   have b1 : min k r.fs.length = k := by omega
   have m1 := pU (m := r.fs.length + 1) (z := 24) (by omega) (by omega)
   have m2 := pU (m := k) (z := 24) (by omega) (by omega)
   by_cases hlt : k < r.fs.length
   ·have hx := XField.e.eq_1 r.fs[k]
    have l1 : fE .lss r.fs[k].name nm = some (aj false) := by
     subst hk
     simp only [fE, Ms hlt]
    cases c1 : cG r <;> rw [c1] at e2
    ·rw [rj c1]
     simp [fo, hlt, hx, ↓l1, hp, m1, m2, e2, e1, iP]
    ·have hm := hm c1
     rw [nH (b := cG ⟨jd r.fs nm n⟩) c1 rfl]
     generalize cG ⟨jd r.fs nm n⟩ = c at e3
     generalize jd r.fs nm n = F at hm e3
     cases c
     ·simp [fo, hlt, hx, ↓l1, hp, m1, m2, hm, e2, e3, e1, iP]
     ·simp [fo, hlt, hx, ↓l1, hp, m1, m2, hm, e2, e3, iP]
   ·have hke : k = r.fs.length := by omega
    subst hke
    cases c1 : cG r <;> rw [c1] at e2
    ·rw [rj c1]
     simp [fo, m1, m2, e2, e1, iP]
    ·have hm := hm c1
     rw [nH (b := cG ⟨jd r.fs nm n⟩) c1 rfl]
     generalize cG ⟨jd r.fs nm n⟩ = c at e3
     generalize jd r.fs nm n = F at hm e3
     cases c
     ·simp [fo, m1, m2, ↓hm, e2, e3, e1, iP]
     ·simp [fo, m1, m2, ↓hm, e2, e3, iP]
 ·obtain ⟨j, hj, hfi⟩ := mR hneg
  simp only [List.length_map] at hj
  rw [hfi] at e4
  have hx := XField.e.eq_1 r.fs[j]
  cases c1 : cG r <;> rw [c1] at e2
  ·rw [rj c1]
   simp [iT, e1, e4, hj, hx, e2, iP]
  ·have := fp c1
   rw [hfi] at this
   have hm : (r.fs.map XField.e).set j [.str r.fs[j].name, .int .i64 n] = (jd r.fs nm n).map XField.e := by
    cases hf : r.fs[uu r.fs nm]? with
    | none => simp only [hf] at this; omega
    | some f =>
     simp only [hf] at this
     by_cases e : f.name = nm
     ·rw [if_pos e] at this
      obtain rfl : j = uu r.fs nm := by omega
      rw [JI hf e, List.map_set]
      rw [List.getElem?_eq_getElem hj] at hf
      have e' : r.fs[uu r.fs nm].name = nm := by rw [← Option.some.inj hf] at e; exact e
      simp only [XField.e.eq_1 ⟨nm, n⟩, e']
     ·rw [if_neg e] at this; omega
   rw [nH (b := cG ⟨jd r.fs nm n⟩) c1 rfl]
   generalize cG ⟨jd r.fs nm n⟩ = c at e3
   generalize jd r.fs nm n = F at hm e3
   cases c
   ·simp [iT, e1, e4, hj, hx, hm, e2, e3, iP]
   ·simp [iT, e1, e4, hj, hx, hm, e2, e3, iP]
end
end Gi
namespace Gi
open Go Go.RowKit
set_option maxHeartbeats 4000000
set_option maxRecDepth 4000
def j2 (x : XStore × Bool) : V := .tup [(true, [.pv (.str x.1.name), n7 4 (x.1.items.map XItem.e), .pv (.int .i64 x.1.auto)]), (false, [.pv (.bool x.2)])]
section
variable {B : Nat} {s : XStore} {k : XKey} {r : XRecord}
theorem JK (hs : s.Ok B) (hk : k.Ok B) (hr : r.Ok B) (j : Nat) : XStore.Ok B ⟨s.name, s.items.set j ⟨k, r⟩, s.auto⟩ := by
 obtain ⟨h1, ⟨h2, h3⟩, h4⟩ := hs
 refine ⟨h1, ⟨by simpa using h2, fun x hx => ?_⟩, h4⟩
 rcases List.mem_or_eq_of_mem_set hx with hx | rfl
 ·exact h3 x hx
 ·exact ⟨hk, hr⟩
theorem G7 (s : XStore) (k : XKey) (r : XRecord) : (lh s k r).length = s.items.length + 1 := by
 have := xt s.items k
 unfold lh; simp; omega
theorem Gw (ha : nb s.auto) (hk : nb k.n) : nb (k9 s k) := by
 unfold k9
 split
 ·exact hk
 ·exact ha
theorem Jq (hs : s.Ok B) (hk : k.Ok B) (hr : r.Ok B) : XStore.Ok (B + 1) ⟨s.name, lh s k r, k9 s k⟩ := by
 obtain ⟨h1, ⟨h2, h3⟩, h4⟩ := hs
 refine ⟨by simp only; omega, ⟨by simp only [G7]; omega, fun x hx => ?_⟩, Gw h4 hk.2.1⟩
 unfold lh at hx
 rw [List.mem_append, List.mem_cons] at hx
 rcases hx with hx | rfl | hx
 ·exact XItem.Ok.mono (by omega) (h3 x (List.mem_of_mem_take hx))
 ·exact ⟨XKey.Ok.mono (by omega) hk, XRecord.Ok.mono (by omega) hr⟩
 ·exact XItem.Ok.mono (by omega) (h3 x (List.mem_of_mem_drop hx))
theorem Cq (k : XKey) (r : XRecord) (xs : List XItem) (p : Nat) : (xs.take p ++ ((⟨k, r⟩ : XItem) :: xs.drop p)).map XItem.e = (xs.map XItem.e).take p ++ ([.int .i64 k.kind, .int .i64 k.n, .str k.text, .lst (r.fs.map XField.e)] :: (xs.map XItem.e).drop p) := by simp [XItem.e]
theorem iZ (hB : B ≤ maxLen) (hs : s.Ok B) : aa Ph al 188 [.agg [.pv (.str s.name), .pv (.lst (s.items.map XItem.e)), .pv (.int .i64 s.auto)], .agg [.pv (.int .i64 k.kind), .pv (.int .i64 k.n), .pv (.str k.text)]] = some (ae .i64 (k6 s k)) := yU (bY (fun _ q => XItem.has hB q) hB hs.2.1) _ _ _
theorem qb (hB : B ≤ maxLen) (hs : s.Ok B) : aa Ph al 184 [.agg [.pv (.str s.name), .pv (.lst (s.items.map XItem.e)), .pv (.int .i64 s.auto)], .agg [.pv (.int .i64 k.kind), .pv (.int .i64 k.n), .pv (.str k.text)]] = some (ae .i64 (k6 s k)) := zr (bY (fun _ q => XItem.has hB q) hB hs.2.1) _ _ _
theorem Ba (h : ¬ k6 s k < 0) : ∃ j, ∃ hj : j < s.items.length, k6 s k = (j : Int) ∧ s.items[j].key = k := by
 obtain ⟨j, hj, hf⟩ := mR h
 have hj' : j < s.items.length := by simpa using hj
 exact ⟨j, hj', hf, LO hf hj'⟩
theorem xw (h : bT s = false ∨ fk k = false) : pW s k r = (s, false) := by
 unfold pW
 rw [if_neg]
 rcases h with h | h <;> simp [h]
theorem Hp {j : Nat} (hs : bT s = true) (hk : fk k = true) (hf : k6 s k = (j : Int)) : pW s k r = cond (cG r) (⟨s.name, s.items.set j ⟨k, r⟩, s.auto⟩, true) (s, false) := by
 unfold pW
 cases hr : cG r with
 | true => rw [if_pos ⟨hs, hk, rfl⟩, if_pos (by omega), hf]; rfl
 | false => rw [if_neg (by simp)]; rfl
theorem xx (hs : bT s = true) (hk : fk k = true) (hf : k6 s k < 0) : pW s k r = cond (cG r && decide (s.items.length + 1 ≤ 16)) (⟨s.name, lh s k r, k9 s k⟩, true) (s, false) := by
 unfold pW
 cases hr : cG r with
 | true =>
  rw [if_pos ⟨hs, hk, rfl⟩, if_neg (by omega)]
  by_cases q : 16 ≤ s.items.length
  ·rw [if_pos q]
   have : decide (s.items.length + 1 ≤ 16) = false := by simp; omega
   rw [this]; rfl
  ·rw [if_neg q]
   have : decide (s.items.length + 1 ≤ 16) = true := by simp; omega
   rw [this]; rfl
 | false => rw [if_neg (by simp)]; rfl
theorem Jt {j : Nat} (hj : j < s.items.length) (hk : s.items[j].key = k) : (s.items.map XItem.e).set j [.int .i64 s.items[j].key.kind, .int .i64 s.items[j].key.n, .str s.items[j].key.text, .lst (r.fs.map XField.e)] = (s.items.set j ⟨k, r⟩).map XItem.e := by
 rw [List.map_set, hk]; rfl
end
end Gi
namespace Gi
open Go Go.RowKit
set_option maxHeartbeats 8000000
set_option maxRecDepth 4000
attribute [local simp] bW am bg bt cF dN Opd.ev put V.cells plain bz hJ isInt isStr isBool bin bf aS aR un asList L.view aB V.view viewL bC aC aT cj comp bq bZ bK a9 aK aI aJ aQ aE ba ar aM aA av aO aN aL aP thawT bB bw cd bG bA bz V.flat L.flat dX dJ bS putAt thaw thawL freezeVs freezeLs freezeL V.mut L.mut bm aZ wp_seq wp_block bE wp_cond wp_skip wp_exit wp_ret cN cE cK cH cS cT cR cq bj L.notArr aY aW aX bH bI
section
variable {B : Nat} {s : XStore} {k : XKey} {r : XRecord}
theorem qW (hB : B ≤ 1048576) (hs : s.Ok B) (hk : k.Ok B) (hr : r.Ok B) (hx : bT s = false ∨ fk k = false) : aa Ph al 342 [.agg [.pv (.str s.name), .pv (.lst (s.items.map XItem.e)), .pv (.int .i64 s.auto)], .agg [.pv (.int .i64 k.kind), .pv (.int .i64 k.n), .pv (.str k.text)], .agg [.pv (.lst (r.fs.map XField.e))]] = some (j2 (pW s k r)) := by
 have hM : B ≤ maxLen := by unfold maxLen; omega
 have e1 := fI hM hs
 have e2 := ik (Nat.le_trans hk.2.2 hM)
 have e3 := gZ hB hs
 have e4 := ju hB hr
 have e5 := iZ (k := k) hM hs
 have hl : s.items.length ≤ 1048576 := Nat.le_trans hs.2.1.1 hB
 unfold rt at e3
 refine aw (fn := cY) rfl ?_
 cases c1 : bT s <;> rw [c1] at e1
 ·rw [xw (.inl c1)]
  unfold j2
  cases hq : s.items with
  | nil =>
   rw [hq] at e1 e3
   simp [n7] at e3
   simp at e1
   simp [cY, e1, e3, n7]
  | cons x xs =>
   rw [← hq]
   have hne : s.items.map XItem.e ≠ [] := by rw [hq]; simp
   rw [iM hne] at e3 ⊢
   simp [cY, e1, e3]
 cases c2 : fk k <;> rw [c2] at e2
 ·rw [xw (.inr c2)]
  unfold j2
  cases hq : s.items with
  | nil =>
   rw [hq] at e1 e3
   simp [n7] at e3
   simp at e1
   simp [cY, e1, e2, e3, n7]
  | cons x xs =>
   rw [← hq]
   have hne : s.items.map XItem.e ≠ [] := by rw [hq]; simp
   rw [iM hne] at e3 ⊢
   simp [cY, e1, e2, e3]
 rcases hx with h | h
 ·rw [h] at c1; cases c1
 ·rw [h] at c2; cases c2
theorem yZ (hB : B ≤ 1048576) (hs : s.Ok B) (hk : k.Ok B) (hr : r.Ok B) (c1 : bT s = true) (c2 : fk k = true) (hneg : ¬ k6 s k < 0) : aa Ph al 342 [.agg [.pv (.str s.name), .pv (.lst (s.items.map XItem.e)), .pv (.int .i64 s.auto)], .agg [.pv (.int .i64 k.kind), .pv (.int .i64 k.n), .pv (.str k.text)], .agg [.pv (.lst (r.fs.map XField.e))]] = some (j2 (pW s k r)) := by
 have hM : B ≤ maxLen := by unfold maxLen; omega
 have e1 := fI hM hs
 have e2 := ik (Nat.le_trans hk.2.2 hM)
 have e3 := gZ hB hs
 have e4 := ju hB hr
 have e5 := iZ (k := k) hM hs
 have hl : s.items.length ≤ 1048576 := Nat.le_trans hs.2.1.1 hB
 unfold rt at e3
 refine aw (fn := cY) rfl ?_
 rw [c1] at e1
 rw [c2] at e2
 obtain ⟨j, hj, hfi, hkk⟩ := Ba hneg
 have e7 := fI hM (JK hs hk hr j)
 rw [Ha c1 hj hkk] at e7
 rw [Hp c1 c2 hfi]
 rw [hfi] at e5
 have hm := Jt (r := r) hj hkk
 simp only [← hm] at e7
 have hx := XItem.e.eq_1 s.items[j]
 have hne : s.items.map XItem.e ≠ [] := fun h => by
  have : (s.items.map XItem.e).length = 0 := by rw [h]; rfl
  simp at this
  rw [this] at hj
  simp at hj
 have hne2 : (s.items.set j ⟨k, r⟩).map XItem.e ≠ [] := fun h => by
  have : ((s.items.set j ⟨k, r⟩).map XItem.e).length = 0 := by rw [h]; rfl
  simp at this
  rw [this] at hj
  simp at hj
 rw [iM hne] at e3
 have hj0 : ¬ (j : Int) < 0 := by omega
 unfold j2
 generalize cG r = c at e7 ⊢
 cases c
 ·simp only [cond_false, iM hne]
  simp [cY, e1, e2, e3, e4, e5, hj, hx, e7]
 ·have hE : n7 4 ((s.items.set j ⟨k, r⟩).map XItem.e) = .own 4 ((s.items.map XItem.e).set j [.int .i64 s.items[j].key.kind, .int .i64 s.items[j].key.n, .str s.items[j].key.text, .lst (r.fs.map XField.e)]) := by rw [iM hne2, ← hm]
  simp only [cond_true, hE]
  simp [cY, e1, e2, e3, e4, e5, hj, hx, e7]
end
section
variable {B : Nat} {s : XStore} {k : XKey} {r : XRecord}
theorem xq {z : Nat} : n7 z [] = .nil := rfl
theorem yY (hB : B ≤ 1048576) (hs : s.Ok B) (hk : k.Ok B) (hr : r.Ok B) (c1 : bT s = true) (c2 : fk k = true) (hneg : k6 s k < 0) (hq : s.items = []) : aa Ph al 342 [.agg [.pv (.str s.name), .pv (.lst (s.items.map XItem.e)), .pv (.int .i64 s.auto)], .agg [.pv (.int .i64 k.kind), .pv (.int .i64 k.n), .pv (.str k.text)], .agg [.pv (.lst (r.fs.map XField.e))]] = some (j2 (pW s k r)) := by
 have hM : B ≤ maxLen := by unfold maxLen; omega
 have e1 := fI hM hs
 have e2 := ik (Nat.le_trans hk.2.2 hM)
 have e3 := gZ hB hs
 have e4 := ju hB hr
 have e5 := iZ (k := k) hM hs
 have hl : s.items.length ≤ 1048576 := Nat.le_trans hs.2.1.1 hB
 unfold rt at e3
 refine aw (fn := cY) rfl ?_
 rw [c1] at e1
 rw [c2] at e2
 have e7 := fI (s := ⟨s.name, lh s k r, k9 s k⟩) (by unfold maxLen; omega) (Jq hs hk hr)
 rw [zQ c1 c2 hneg] at e7
 rw [xx c1 c2 hneg]
 have e6 : ∀ j (hj : j < s.items.length), aa Ph al 355 [.agg [.pv (.int .i64 s.items[j].key.kind), .pv (.int .i64 s.items[j].key.n), .pv (.str s.items[j].key.text)], .agg [.pv (.int .i64 k.kind), .pv (.int .i64 k.n), .pv (.str k.text)]] = some (ae .i64 (kd s.items[j].key k)) := fun j hj => jj (Nat.le_trans (hs.2.1.2 _ (List.getElem_mem hj)).1.2.2 hM) (Nat.le_trans hk.2.2 hM)
 have hp := xt s.items k
 have hm : (lh s k r).map XItem.e = (s.items.map XItem.e).take (pV s.items k) ++ ([.int .i64 k.kind, .int .i64 k.n, .str k.text, .lst (r.fs.map XField.e)] :: (s.items.map XItem.e).drop (pV s.items k)) := Cq k r s.items _
 have hins : lh s k r ≠ [] := by unfold lh; simp
 have hmne : (lh s k r).map XItem.e ≠ [] := by simpa using hins
 generalize hI : k6 s k = I at e5 hneg
 have hneg2 : ¬ 0 ≤ I := by omega
 have fin : ∀ (c : Bool) (hc : (cG r && decide (s.items.length + 1 ≤ 16)) = c), True := fun _ _ => trivial
 generalize (cG r && decide (s.items.length + 1 ≤ 16)) = c at e7 ⊢
 have hau : (k.kind = 1 ∧ s.auto < k.n ∧ k.n ≤ 1000000 ∧ k9 s k = k.n) ∨ (k9 s k = s.auto ∧ (¬ k.kind = 1 ∨ (k.kind = 1 ∧ ¬ s.auto < k.n) ∨ (k.kind = 1 ∧ s.auto < k.n ∧ ¬ k.n ≤ 1000000))) := by
  unfold k9
  by_cases q1 : k.kind = 1
  ·by_cases q2 : s.auto < k.n
   ·by_cases q3 : k.n ≤ 1000000
    ·simp [q1, q2, q3]
    ·simp [q1, q2, q3]
   ·simp [q1, q2]
  ·simp [q1]
 have hr0 : s.items.map XItem.e = [] := by rw [hq]; rfl
 rw [hr0] at e1 e3 e5 hm
 simp only [n7] at e3
 simp only [List.take_nil, List.drop_nil, List.nil_append] at hm
 clear e6 hp hins hl hs
 rw [hr0]
 have m1 := pU (m := 1) (z := 56) (by decide) (by decide)
 rw [hm] at e7
 have hE : n7 4 ((lh s k r).map XItem.e) = .own 4 [[.int .i64 k.kind, .int .i64 k.n, .str k.text, .lst (r.fs.map XField.e)]] := by rw [hm]; rfl
 unfold j2
 rcases hau with ⟨q1, q2, q3, q4⟩ | ⟨q4, q1 | ⟨q1, q2⟩ | ⟨q1, q2, q3⟩⟩ <;> rw [q4] at e7
 ·have q1b : (k.kind == 1) = true := by simpa using q1
  cases c <;> simp only [cond_true, cond_false, hE, hr0, xq, q4] <;> simp [cY, fJ, pS, e1, e2, e3, e4, e5, hneg, hneg2, m1, q1b, q2, q3, e7]
 ·have q1b : (k.kind == 1) = false := by simpa using q1
  cases c <;> simp only [cond_true, cond_false, hE, hr0, xq, q4] <;> simp [cY, fJ, pS, e1, e2, e3, e4, e5, hneg, hneg2, m1, q1b, e7]
 ·have q1b : (k.kind == 1) = true := by simpa using q1
  cases c <;> simp only [cond_true, cond_false, hE, hr0, xq, q4] <;> simp [cY, fJ, pS, e1, e2, e3, e4, e5, hneg, hneg2, m1, q1b, q2, e7]
 ·have q1b : (k.kind == 1) = true := by simpa using q1
  cases c <;> simp only [cond_true, cond_false, hE, hr0, xq, q4] <;> simp [cY, fJ, pS, e1, e2, e3, e4, e5, hneg, hneg2, m1, q1b, q2, q3, e7]
end
section
variable {B : Nat} {s : XStore} {k : XKey} {r : XRecord}
theorem xf (hB : B ≤ 1048576) (hs : s.Ok B) (hk : k.Ok B) (hr : r.Ok B) (c1 : bT s = true) (c2 : fk k = true) (hneg : k6 s k < 0) (hne : s.items.map XItem.e ≠ []) : aa Ph al 342 [.agg [.pv (.str s.name), .pv (.lst (s.items.map XItem.e)), .pv (.int .i64 s.auto)], .agg [.pv (.int .i64 k.kind), .pv (.int .i64 k.n), .pv (.str k.text)], .agg [.pv (.lst (r.fs.map XField.e))]] = some (j2 (pW s k r)) := by
 have hM : B ≤ maxLen := by unfold maxLen; omega
 have e1 := fI hM hs
 have e2 := ik (Nat.le_trans hk.2.2 hM)
 have e3 := gZ hB hs
 have e4 := ju hB hr
 have e5 := iZ (k := k) hM hs
 have hl : s.items.length ≤ 1048576 := Nat.le_trans hs.2.1.1 hB
 unfold rt at e3
 refine aw (fn := cY) rfl ?_
 rw [c1] at e1
 rw [c2] at e2
 have e7 := fI (s := ⟨s.name, lh s k r, k9 s k⟩) (by unfold maxLen; omega) (Jq hs hk hr)
 rw [zQ c1 c2 hneg] at e7
 rw [xx c1 c2 hneg]
 have e6 : ∀ j (hj : j < s.items.length), aa Ph al 355 [.agg [.pv (.int .i64 s.items[j].key.kind), .pv (.int .i64 s.items[j].key.n), .pv (.str s.items[j].key.text)], .agg [.pv (.int .i64 k.kind), .pv (.int .i64 k.n), .pv (.str k.text)]] = some (ae .i64 (kd s.items[j].key k)) := fun j hj => jj (Nat.le_trans (hs.2.1.2 _ (List.getElem_mem hj)).1.2.2 hM) (Nat.le_trans hk.2.2 hM)
 have hp := xt s.items k
 have hm : (lh s k r).map XItem.e = (s.items.map XItem.e).take (pV s.items k) ++ ([.int .i64 k.kind, .int .i64 k.n, .str k.text, .lst (r.fs.map XField.e)] :: (s.items.map XItem.e).drop (pV s.items k)) := Cq k r s.items _
 have hins : lh s k r ≠ [] := by unfold lh; simp
 have hmne : (lh s k r).map XItem.e ≠ [] := by simpa using hins
 generalize hI : k6 s k = I at e5 hneg
 have hneg2 : ¬ 0 ≤ I := by omega
 have fin : ∀ (c : Bool) (hc : (cG r && decide (s.items.length + 1 ≤ 16)) = c), True := fun _ _ => trivial
 generalize (cG r && decide (s.items.length + 1 ≤ 16)) = c at e7 ⊢
 have hau : (k.kind = 1 ∧ s.auto < k.n ∧ k.n ≤ 1000000 ∧ k9 s k = k.n) ∨ (k9 s k = s.auto ∧ (¬ k.kind = 1 ∨ (k.kind = 1 ∧ ¬ s.auto < k.n) ∨ (k.kind = 1 ∧ s.auto < k.n ∧ ¬ k.n ≤ 1000000))) := by
  unfold k9
  by_cases q1 : k.kind = 1
  ·by_cases q2 : s.auto < k.n
   ·by_cases q3 : k.n ≤ 1000000
    ·simp [q1, q2, q3]
    ·simp [q1, q2, q3]
   ·simp [q1, q2]
  ·simp [q1]
 rw [iM hne] at e3
 simp [cY, e1, e2, e3, e5, hneg, hneg2]
 generalize hpp : pV s.items k = p at hp hm
 refine ql bh Cl.fin p [.f,.f,.f,.t,.t,.t,.t,.f,.t,.f,.t,.f,.f,.f,.f,.f,.f,.f,.f,.f,.f,.f,.f,.f,.f,.f,.f,.f,.f,.f,.f,.f,.f,.f,.f,.f,.f,.f,.f,.f,.f,.f,.f,.f,.f,.f,.f,.f,.f,.f,.f,.f,.f,.f,.f,.f,.f,.f,.f,.f,.f,.f,.f,.f,.f,.f,.f,.f,.f,.f,.f,.f,.f,.f,.f,.f,.f,.f,.f,.f,.f,.f,.f,.f,.f,.f,.f] (fun k => [(10, ae .i64 k)]) (fun _ => [.box [.pv (.str s.name), .pv (.lst (s.items.map XItem.e)), .pv (.int .i64 s.auto)], .box [.pv (.int .i64 k.kind), .pv (.int .i64 k.n), .pv (.str k.text)], .box [.pv (.lst (r.fs.map XField.e))], .box [.pv (.str []), .nil, .pv (.int .i64 0)], .arr 4 (s.items.map XItem.e), .box [.pv (.str s.name), .arr 4, .pv (.int .i64 s.auto)]]) 0 rfl ?_ ?_ ?_ ?_
 ·exact Kn.q [0, 1, 2, 3, 4, 5]
 ·intro j hj
  have hj2 : j < s.items.length := by omega
  have hw := ag (k := j) (by omega)
  have e6j := e6 j hj2
  have hlt : kd s.items[j].key k < 0 := FE (by rw [hpp]; exact hj) hj2
  generalize kd s.items[j].key k = C at e6j hlt
  simp [fJ, hj2, XItem.e.eq_1 s.items[j], e6j, hlt, hw]
  exact Kn.q [0, 1, 2, 3, 4, 5]
 ·by_cases hlt : p < s.items.length
  ·have e6j := e6 p hlt
   have hge : ¬ kd s.items[p].key k < 0 := by subst hpp; exact FD hlt
   generalize kd s.items[p].key k = C at e6j hge
   simp [fJ, hlt, XItem.e.eq_1 s.items[p], e6j, hge]
   exact Kn.q [0, 1, 2, 3, 4, 5]
  ·simp [fJ, hlt]
   exact Kn.q [0, 1, 2, 3, 4, 5]
 ·have m1 := pU (m := s.items.length + 1) (z := 56) (by omega) (by omega)
  rw [hm] at e7
  have hE : n7 4 ((lh s k r).map XItem.e) = .own 4 ((s.items.map XItem.e).take p ++ ([.int .i64 k.kind, .int .i64 k.n, .str k.text, .lst (r.fs.map XField.e)] :: (s.items.map XItem.e).drop p)) := by rw [iM hmne, hm]
  unfold j2
  rcases hau with ⟨q1, q2, q3, q4⟩ | ⟨q4, q1 | ⟨q1, q2⟩ | ⟨q1, q2, q3⟩⟩ <;> rw [q4] at e7
  ·have q1b : (k.kind == 1) = true := by simpa using q1
   simp [e4, hp, m1, q1b, q2, q3, e7]
   cases c <;> simp only [cond_true, cond_false, hE, iM hne, q4] <;> simp [e3]
  ·have q1b : (k.kind == 1) = false := by simpa using q1
   simp [e4, hp, m1, q1b, e7]
   cases c <;> simp only [cond_true, cond_false, hE, iM hne, q4] <;> simp [e3]
  ·have q1b : (k.kind == 1) = true := by simpa using q1
   simp [e4, hp, m1, q1b, q2, e7]
   cases c <;> simp only [cond_true, cond_false, hE, iM hne, q4] <;> simp [e3]
  ·have q1b : (k.kind == 1) = true := by simpa using q1
   simp [e4, hp, m1, q1b, q2, q3, e7]
   cases c <;> simp only [cond_true, cond_false, hE, iM hne, q4] <;> simp [e3]
end
end Gi
