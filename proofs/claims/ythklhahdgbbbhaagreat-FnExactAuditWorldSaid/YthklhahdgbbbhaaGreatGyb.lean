/- Of this proof. -/
import Derived.Test.YthklhahdgbbbhaaGreatGua2
import Derived.Test.YthklhahdgbbbhaaGreatGwb
import Derived.Test.YthklhahdgbbbhaaGreatGxl
set_option linter.unusedSimpArgs false
namespace Gi
open Go Go.RowKit
set_option maxHeartbeats 4000000
set_option maxRecDepth 4000
attribute [local simp] bW am bg bt cF dN Opd.ev put V.cells plain bz hJ isInt isStr isBool bin bf aS aR un asList L.view aB V.view viewL bC aC aT cj comp bq bZ a8 V.flat L.flat dX dJ bS putAt thaw thawL freezeVs freezeLs freezeL V.mut L.mut bm aZ wp_seq wp_block bE wp_cond wp_skip wp_exit wp_ret cN cE cK cH cS cT cR cq bj L.notArr
theorem Ly {r : List PV} (h : be jb r) : ∃ b : UInt8, r = [.int .u8 b.toNat] := by
 obtain ⟨p, r1, rfl, g, k1⟩ := iQ h
 obtain rfl := mg k1
 obtain ⟨c0, rfl⟩ := rE g
 have hw := (g.2 : (Lit.int .u8 c0).wf = true)
 simp [Lit.wf, IntKind.min, IntKind.max, IntKind.signed, IntKind.bits] at hw
 refine ⟨UInt8.ofNat c0.toNat, ?_⟩
 simp only [UInt8.toNat_ofNat']
 congr 2
 omega
theorem vn : ∀ {rows : List (List PV)}, (∀ r ∈ rows, be jb r) → ∃ s : List UInt8, rows = aU s
 | [], _ => ⟨[], rfl⟩
 | r :: rows, h => by
  obtain ⟨s, rfl⟩ := vn (fun r m => h r (List.mem_cons_of_mem _ m))
  obtain ⟨b, rfl⟩ := Ly (h r List.mem_cons_self)
  exact ⟨b :: s, rfl⟩
theorem ng : ∀ (s : List UInt8), oN (aU s) = some s
 | [] => rfl
 | b :: s => by
  have ih := ng s
  simp only [aU, List.map_cons] at ih ⊢
  simp only [oN, ih, Int.toNat_natCast, UInt8.ofNat_toNat]
theorem zT (s : List UInt8) : (aU s).all (fun e => e.length == 1) = true := by simp [aU]
theorem JX {a b : List UInt8} (h : a.length = b.length) : (a == b) = !((List.range a.length).any fun k => !(((a.getD k 0).toNat : Int) == (b.getD k 0).toNat)) := by
 by_cases e : a = b
 ·subst e; simp
 ·have e1 : (a == b) = false := by simpa using e
  rw [e1]
  have : ((List.range a.length).any fun k => !(((a.getD k 0).toNat : Int) == (b.getD k 0).toNat)) = true := by
   refine Classical.byContradiction fun hn => e (List.ext_getElem h fun k h1 h2 => ?_)
   have hn' : ((List.range a.length).any fun k => !(((a.getD k 0).toNat : Int) == (b.getD k 0).toNat)) = false := by simpa using hn
   rw [List.any_eq_false] at hn'
   have := hn' k (List.mem_range.2 h1)
   simp [h1, h2] at this
   exact UInt8.toNat_inj.1 (by omega)
  rw [this]; rfl
theorem xD {a b : List UInt8} (hl : a.length ≤ maxLen) : aa Ph al 335 [bJ (aU a), bJ (aU b)] = some (aj (a == b)) := by
 refine aw (fn := hU) rfl ?_
 by_cases hn : a.length = b.length
 ·have E := iX (call := aa Ph al) bh (c := ee) rfl (rows := List.range a.length) (p := fun k => !(((a.getD k 0).toNat : Int) == (b.getD k 0).toNat)) (e := .exit 0) (er := .ret)
   (S := fun k => ⟨(bJ (aU a) :: bJ (aU b) :: J4 (J4 (.one .junk :: .one .junk :: ae .i64 a.length :: ae .i64 k :: J4 (J4 (J4 ([])))))), []⟩)
   (R := ⟨(J4 (aj false :: bV (J4 (.one .junk :: [])))), []⟩) (σe := ⟨(bV (J4 (J4 (.one .junk :: .one .junk :: [])))), []⟩)
   (fun k hk hp => by
    have hlt : k < a.length := by simpa using hk
    have hlt2 : k < b.length := by omega
    have hw := ag (k := k) (by unfold maxLen at hl; omega)
    have hq0 : (a[k].toNat : Int) = (b[k].toNat : Int) := by simpa [hlt, hlt2] using hp
    have hq : a[k] = b[k] := UInt8.toNat_inj.1 (by omega)
    refine iy.of ?_
    simp [ee, hlt, hlt2, tR, eO, hw, hq]
    exact Kn.r [] trivial)
   (fun k hk hp => by
    have hlt : k < a.length := by simpa using hk
    have hlt2 : k < b.length := by omega
    have hq0 : ¬ (a[k].toNat : Int) = (b[k].toNat : Int) := by simpa [hlt, hlt2] using hp
    have hq : ¬ a[k] = b[k] := fun e => hq0 (by rw [e])
    refine ff.stop (by simp) ?_
    simp [ee, hlt, hlt2, tR, eO, hq, hq0]
    exact Kn.r [] trivial)
   (by
    refine ff.stop (by simp) ?_
    simp [ee]
    exact Kn.r [] trivial)
  rw [JX hn]
  generalize ((List.range a.length).any fun k => !(((a.getD k 0).toNat : Int) == (b.getD k 0).toNat)) = B at E ⊢
  simp [hU, eO, hn]
  refine cw bh Cl.fin rfl E ?_ ?_
  ·exact Kn.of [] (by decide) trivial (by simp [bL, ca, br, dI, co, bQ, cu, L.ren, hn])
  cases B <;> simp
 ·have e1 : (a == b) = false := by
   have : ¬ a = b := fun e => hn (by rw [e])
   simpa using this
  have hn' : ¬ (a.length : Int) = (b.length : Int) := by omega
  rw [e1]
  simp [hU, eO, hn']
theorem pA {a b : List UInt8} (hl : a.length ≤ maxLen) : aa Ph al 319 [bJ (aU a), bJ (aU b)] = some (aj (a == b)) := by
 have e1 := xD (b := b) hl
 refine aw (fn := mo) rfl ?_
 simp [mo, e1]
theorem pI {a b : List UInt8} : aa Ph al 316 [bJ (aU a), bJ (aU b)] = some (aj (a == b)) := by
 refine aw (fn := mI) rfl ?_
 simp [mI, ng]
theorem vP {a : List UInt8} (hl : a.length ≤ 1000000000) : aa Ph al 261 [bJ (aU a)] = some (.one (.own 1 (aU a))) := by
 have h1 := zT a
 have b1 : a.length ≤ 140737488355328 := by omega
 have b2 : a.length ≤ 9223372036854775807 := by omega
 refine aw (fn := jq) rfl ?_
 simp [jq, ↓h1, eO, b1, b2]
theorem yR {p : List PV → Bool} : ∀ {rs : List (List PV)} {k : Nat}, bN p rs k < 0 → rs.find? p = none
 | [], _, _ => rfl
 | r :: rs, k, h => by
  unfold bN at h
  cases hp : p r with
  | true => rw [hp] at h; simp only [cond_true] at h; omega
  | false => rw [hp] at h; rw [List.find?_cons, hp]; exact yR h
theorem yS {p : List PV → Bool} : ∀ {rs : List (List PV)} {k j : Nat} (hj : j < rs.length), bN p rs k = ((k + j : Nat) : Int) → rs.find? p = some rs[j]
 | [], _, _, hj, _ => by simp at hj
 | r :: rs, k, j, hj, h => by
  unfold bN at h
  cases hp : p r with
  | true =>
   rw [hp] at h
   simp only [cond_true] at h
   have : j = 0 := by omega
   subst this
   rw [List.find?_cons, hp]; rfl
  | false =>
   rw [hp] at h
   simp only [cond_false] at h
   rw [List.find?_cons, hp]
   cases j with
   | zero =>
    rcases lZ p rs (k + 1) with h1 | ⟨i, h1, h2⟩
    ·omega
    ·omega
   | succ j => exact yS (rs := rs) (k := k + 1) (j := j) (by simpa using hj) (by rw [h]; congr 1; omega)
def FA (s p : List UInt8) : List PV → Bool
 | .str a :: .str b :: _ => (a == s) && (b == p)
 | _ => false
def Kg : List PV → List (List PV)
 | [_, .lst es] => es
 | _ => []
def n6 (caches : List (List PV)) (v : Int) (s p : List UInt8) : Option (List PV) :=
 match caches.find? (Jr v) with
 | some c => (Kg c).find? (FA s p)
 | none => none
def JB : Option (List PV) → V
 | some [_, _, .int _ a, .int _ b, .int _ c, .lst body, .bool d] => .tup [(true, [.pv (.int .i64 a), .pv (.int .i64 b), .pv (.int .i64 c), .own 1 body, .pv (.bool d)]), (false, [.pv (.bool true)])]
 | _ => .tup [(true, [.pv (.int .i64 4), .pv (.int .i64 0), .pv (.int .i64 0), .nil, .pv (.bool false)]), (false, [.pv (.bool false)])]
theorem s9 : aa Ph al 332 [] = some (.agg [.pv (.int .i64 4), .pv (.int .i64 0), .pv (.int .i64 0), .nil, .pv (.bool false)]) := by
 refine aw (fn := km) rfl ?_
 simp [km, bB]
theorem te : aa Ph al 327 [] = some (.agg [.pv (.int .i64 4), .pv (.int .i64 0), .pv (.int .i64 0), .nil, .pv (.bool false)]) := by
 refine aw (fn := kw) rfl ?_
 simp [kw, bB]
theorem tJ {a b c : Int} {s : List UInt8} {d : Bool} (hl : s.length ≤ 1000000000) : aa Ph al 334 [.agg [.pv (.int .i64 a), .pv (.int .i64 b), .pv (.int .i64 c), .pv (.lst (aU s)), .pv (.bool d)]] = some (.agg [.pv (.int .i64 a), .pv (.int .i64 b), .pv (.int .i64 c), .own 1 (aU s), .pv (.bool d)]) := by
 have e1 := vP hl
 refine aw (fn := kY) rfl ?_
 simp [kY, e1]
theorem A4 {a b c : Int} {s : List UInt8} {d : Bool} (hl : s.length ≤ 1000000000) : aa Ph al 329 [.agg [.pv (.int .i64 a), .pv (.int .i64 b), .pv (.int .i64 c), .pv (.lst (aU s)), .pv (.bool d)]] = some (.agg [.pv (.int .i64 a), .pv (.int .i64 b), .pv (.int .i64 c), .own 1 (aU s), .pv (.bool d)]) := by
 have h1 := zT s
 have b1 : s.length ≤ 140737488355328 := by omega
 have b2 : s.length ≤ 9223372036854775807 := by omega
 refine aw (fn := px) rfl ?_
 simp [px, ↓h1, eO, b1, b2]
theorem oE {n : Int} {es : List (List PV)} (h : bR (.lst gA) (.lst es)) (s p : List UInt8) : aa Ph al 333 [.agg [.pv (.int .i64 n), .pv (.lst es)], eX s, eX p] = some (ae .i64 (bN (FA s p) es 0)) := by
 obtain ⟨hl, hr⟩ := aD h
 have e1 : aa Ph al 346 [bJ es, .one (.fn 347 [[.str s], [.str p]])] = some (ae .i64 (bN (FA s p) es 0)) :=
  vT (z := 7) rfl hl (fun r m => iw (hr r m)) (fun r m => by
   obtain ⟨c0, c1, c2, c3, c4, c5, c6, rfl, _⟩ := iW (hr r m)
   refine aw (fn := nv) rfl ?_
   cases q1 : (c0 == s) <;> simp [nv, qL, FA, q1])
 refine aw (fn := ph) rfl ?_
 simp [ph, kT, o9, e1]
theorem A5 {n : Int} {es : List (List PV)} (h : bR (.lst gA) (.lst es)) (s p : List UInt8) : aa Ph al 328 [.agg [.pv (.int .i64 n), .pv (.lst es)], eX s, eX p] = some (ae .i64 (bN (FA s p) es 0)) := by
 obtain ⟨hl, hr⟩ := aD h
 have hB : ∀ k (hlt : k < es.length), ∃ c0 c1 c2 c3 c4 c5 c6, es[k] = [.str c0, .str c1, .int .i64 c2, .int .i64 c3, .int .i64 c4, .lst c5, .bool c6] ∧ FA s p es[k] = ((c0 == s) && (c1 == p)) := fun k hlt => by
  obtain ⟨c0, c1, c2, c3, c4, c5, c6, hrk, _⟩ := iW (hr _ (List.getElem_mem hlt))
  exact ⟨c0, c1, c2, c3, c4, c5, c6, hrk, by rw [hrk]; rfl⟩
 have E := Eb (call := aa Ph al) bh (c := gS) rfl (rows := es) (p := FA s p) (e := .exit 0) (er := .ret)
  (S := fun k => ⟨(.one .junk :: eX s :: eX p :: .one (.ptr 0 0 0) :: .one .junk :: .one .junk :: .one .junk :: ae .i64 k :: bV (J4 (J4 (.one .junk :: .one .junk :: [])))), [.box [.pv (.int .i64 n), .pv (.lst es)]]⟩)
  (R := fun k => ⟨(J4 (.one .junk :: .one .junk :: ae .i64 k :: bV (J4 (J4 (.one .junk :: .one .junk :: .one .junk :: []))))), []⟩) (σe := ⟨(bV (bV (.one .junk :: .one .junk :: []))), []⟩)
  (fun k hlt hp => by
   have hw := ag (k := k) (by unfold maxLen at hl; omega)
   obtain ⟨c0, c1, c2, c3, c4, c5, c6, hrk, hq⟩ := hB k hlt
   rw [hq] at hp
   refine iy.of ?_
   cases q1 : (c0 == s)
   ·simp [gS, hlt, hrk, hw, q1]
    exact Kn.r [0]
   ·rw [q1, Bool.true_and] at hp
    simp [gS, hlt, hrk, hw, q1, hp]
    exact Kn.r [0])
  (fun k hlt hp => by
   obtain ⟨c0, c1, c2, c3, c4, c5, c6, hrk, hq⟩ := hB k hlt
   rw [hq, Bool.and_eq_true] at hp
   refine ff.stop (by simp) ?_
   simp [gS, hlt, hrk, hp.1, hp.2]
   exact Kn.r [])
  (by
   refine ff.stop (by simp) ?_
   simp [gS]
   exact Kn.r [])
 refine aw (fn := py) rfl ?_
 simp [py]
 rcases E with ⟨h1, _, E⟩ | ⟨j, hj, h1, _, _, E⟩
 ·refine cw bh Cl.fin rfl E ?_ ?_
  ·exact Kn.r [0]
  simp [h1]
 ·refine cw bh Cl.fin rfl E ?_ ?_
  ·exact Kn.r [0]
  simp [h1]
theorem ln {caches : List (List PV)} (h : bR (.lst dK) (.lst caches)) (hz : sz (.lst caches) ≤ 1048576) (v : Int) (s p : List UInt8) :
 aa Ph al 318 [.agg [.pv (.lst caches)], ae .i64 v, eX s, eX p] = some (JB (n6 caches v s p)) ∧ aa Ph al 315 [.agg [.pv (.lst caches)], ae .i64 v, eX s, eX p] = some (JB (n6 caches v s p)) := by
 obtain ⟨hl, hr⟩ := aD h
 have a1 := mU h v
 have a2 := mY h v
 have a3 := s9
 have a4 := te
 by_cases hn : bN (Jr v) caches 0 < 0
 ·have hm : n6 caches v s p = none := by unfold n6; rw [yR hn]
  rw [hm]
  constructor
  ·refine aw (fn := gr) rfl ?_
   simp [gr, a1, a3, hn, JB]
  ·refine aw (fn := gu) rfl ?_
   simp [gu, a2, a4, hn, JB]
 ·obtain ⟨j, hj, hfi⟩ := mR hn
  obtain ⟨n, es, hrj, hes⟩ := jN (hr _ (List.getElem_mem hj))
  have hfs := yS (k := 0) hj (by rw [hfi]; simp)
  have b1 := oE (n := n) hes s p
  have b2 := A5 (n := n) hes s p
  rw [hfi] at a1 a2
  have hneg : ¬ (j : Int) < 0 := by omega
  have hm : n6 caches v s p = es.find? (FA s p) := by unfold n6; rw [hfs, hrj]; rfl
  rw [hm]
  by_cases hn2 : bN (FA s p) es 0 < 0
  ·rw [yR hn2]
   constructor
   ·refine aw (fn := gr) rfl ?_
    simp [gr, a1, a3, hneg, hj, hrj, b1, hn2, JB]
   ·refine aw (fn := gu) rfl ?_
    simp [gu, a2, a4, hneg, hj, hrj, b2, hn2, JB]
  ·obtain ⟨i, hi, hfi2⟩ := mR hn2
   obtain ⟨hle, hre⟩ := aD hes
   obtain ⟨d0, d1, d2, d3, d4, d5, d6, hri, _, _, _, _, _, g5, _⟩ := iW (hre _ (List.getElem_mem hi))
   obtain ⟨_, hr5⟩ := aD g5
   obtain ⟨t, rfl⟩ := vn hr5
   have hsz : t.length ≤ 1000000000 := by
    have s1 := sl (List.getElem_mem hj) hz
    rw [hrj] at s1
    have s2 : sz (.lst es) ≤ 1048576 := by simp only [gO, sz] at s1 ⊢; omega
    have s3 := sl (List.getElem_mem hi) s2
    rw [hri] at s3
    simp only [gO, jH, eO] at s3
    omega
   have c1 := tJ (a := d2) (b := d3) (c := d4) (d := d6) hsz
   have c2 := A4 (a := d2) (b := d3) (c := d4) (d := d6) hsz
   rw [yS (k := 0) hi (by rw [hfi2]; simp), hri]
   rw [hfi2] at b1 b2
   have hneg2 : ¬ (i : Int) < 0 := by omega
   constructor
   ·refine aw (fn := gr) rfl ?_
    simp [gr, a1, hneg, hj, hrj, b1, hneg2, hi, hri, c1, JB]
   ·refine aw (fn := gu) rfl ?_
    simp [gu, a2, hneg, hj, hrj, b2, hneg2, hi, hri, c2, JB]
theorem Hg {caches : List (List PV)} (h : bR (.lst dK) (.lst caches)) {v : Int} {s p : List UInt8} {r : List PV} (e : n6 caches v s p = some r) : be gA r := by
 obtain ⟨hl, hr⟩ := aD h
 unfold n6 at e
 split at e
 ·rename_i c hc
  obtain ⟨n, es, rfl, hes⟩ := jN (hr _ (List.mem_of_find?_eq_some hc))
  exact (aD hes).2 _ (List.mem_of_find?_eq_some e)
 ·cases e
end Gi
namespace Gi
open Go Go.RowKit
set_option maxHeartbeats 8000000
set_option maxRecDepth 4000
attribute [local simp] bW am bg bt cF dN Opd.ev put V.cells plain bz hJ isInt isStr isBool bin bf aS aR un asList L.view aB V.view viewL bC aC aT cj comp bq bZ bK a9 aK aI aJ aQ aE ba ar aM aA av aO aN aL aP thawT bB bw cd bG bA bz V.flat L.flat dX dJ bS putAt thaw thawL freezeVs freezeLs freezeL V.mut L.mut bm aZ wp_seq wp_block bE wp_cond wp_skip wp_exit wp_ret cN cE cK cH cS cT cR cq bj L.notArr aY aW aX bH bI
def rg (x a b : Int) : Bool := decide (a ≤ x) && decide (x ≤ b)
theorem gG (x a b : Int) : aa Ph al 61 [ae .i64 x, ae .i64 a, ae .i64 b] = some (aj (rg x a b)) := dz x a b
theorem gH (x a b : Int) : aa Ph al 58 [ae .i64 x, ae .i64 a, ae .i64 b] = some (aj (rg x a b)) := fv x a b
def Da {α : Type} (f : α → Bool) (g : α → α → Bool) (xs : List α) (k : Nat) : Bool := match xs[k]? with
 | none => false
 | some x => f x || (match k with
  | 0 => false
  | j + 1 => match xs[j]? with
   | none => false
   | some y => g y x)
theorem iB {α : Type} {f : α → Bool} {g : α → α → Bool} {xs : List α} (h : 0 < xs.length) : Da f g xs 0 = f xs[0] := by simp [Da, h]
theorem iC {α : Type} {f : α → Bool} {g : α → α → Bool} {xs : List α} {j : Nat} (h : j + 1 < xs.length) : Da f g xs (j + 1) = (f xs[j + 1] || g (xs[j]'(by omega)) xs[j + 1]) := by
 have h' : j < xs.length := by omega
 simp [Da, h, h']
def p9 {α : Type} (f : α → α → Bool) (xs : List α) (k j : Nat) : Bool := match xs[k]?, xs[j]? with
 | some x, some y => f x y
 | _, _ => false
theorem iz {α : Type} {f : α → α → Bool} {xs : List α} {k j : Nat} (hk : k < xs.length) (hj : j < xs.length) : p9 f xs k j = f xs[k] xs[j] := by simp [p9, hk, hj]
def wu {α : Type} (f : α → α → Bool) (xs : List α) (k : Nat) : Bool := (List.range k).any (p9 f xs k)
theorem Oq {α : Type} {f : α → α → Bool} {xs : List α} {k : Nat} (h : wu f xs k = false) {j : Nat} (hj : j < k) : p9 f xs k j = false := by
 unfold wu at h
 rw [List.any_eq_false] at h
 simpa using h j (List.mem_range.2 hj)
theorem EO {α : Type} {f : α → α → Bool} {xs : List α} {k j : Nat} (hj : j < k) (h : p9 f xs k j = true) : wu f xs k = true := cI hj h
theorem A7 {α : Type} {f : α → α → Bool} {xs : List α} {k : Nat} (h : ∀ j, j < k → p9 f xs k j = false) : wu f xs k = false := dM h
def j6 (r : XResponse) : Bool := rg r.type 1 4 && (rg r.status 0 999 && (rg r.version 0 1000000000000 && decide ((r.body.length : Int) ≤ 60)))
def nZ (w : XWrite) : Bool := rg w.dev 1 1000000 && (rg w.seq 1 1000000 && (fk w.key && (bF w.field && rg w.n 0 1000000000)))
def qD : List UInt8 := [110, 111, 116, 101, 115]
theorem pB (r : XResponse) : aa Ph al 403 [.agg [.pv (.int .i64 r.type), .pv (.int .i64 r.status), .pv (.int .i64 r.version), .pv (.lst (aU r.body)), .pv (.bool r.shares)]] = some (aj (j6 r)) := by
 have e1 := gG r.type 1 4
 have e2 := gG r.status 0 999
 have e3 := gG r.version 0 1000000000000
 have e4 := rR r.body
 refine aw (fn := io) rfl ?_
 unfold j6
 generalize rg r.type 1 4 = b1 at e1 ⊢
 generalize rg r.status 0 999 = b2 at e2 ⊢
 generalize rg r.version 0 1000000000000 = b3 at e3 ⊢
 cases b1
 ·simp [io, e1, e2, e3, e4]
 cases b2
 ·simp [io, e1, e2, e3, e4]
 cases b3
 ·simp [io, e1, e2, e3, e4]
 simp [io, e1, e2, e3, e4]
theorem na {B : Nat} (hB : B ≤ maxLen) {w : XWrite} (h : w.Ok B) : aa Ph al 390 [.agg [.pv (.int .i64 w.dev), .pv (.int .i64 w.seq), .pv (.int .i64 w.key.kind), .pv (.int .i64 w.key.n), .pv (.str w.key.text), .pv (.str w.field), .pv (.int .i64 w.n)]] = some (aj (nZ w)) := by
 have e1 := gG w.dev 1 1000000
 have e2 := gG w.seq 1 1000000
 have e3 := ik (a := w.key) (Nat.le_trans h.2.2.1.2.2 hB)
 have e4 := cQ (Nat.le_trans h.2.2.2.1 hB)
 have e5 := gG w.n 0 1000000000
 refine aw (fn := ez) rfl ?_
 unfold nZ
 generalize rg w.dev 1 1000000 = b1 at e1 ⊢
 generalize rg w.seq 1 1000000 = b2 at e2 ⊢
 generalize fk w.key = b3 at e3 ⊢
 generalize bF w.field = b4 at e4 ⊢
 generalize rg w.n 0 1000000000 = b5 at e5 ⊢
 cases b1
 ·simp [ez, e1, e2, e3, e4, e5]
 cases b2
 ·simp [ez, e1, e2, e3, e4, e5]
 cases b3
 ·simp [ez, e1, e2, e3, e4, e5]
 cases b4
 ·simp [ez, e1, e2, e3, e4, e5]
 cases b5
 ·simp [ez, e1, e2, e3, e4, e5]
 simp [ez, e1, e2, e3, e4, e5]
theorem wc (r : XResponse) : aa Ph al 408 [.agg [.pv (.int .i64 r.type), .pv (.int .i64 r.status), .pv (.int .i64 r.version), .pv (.lst (aU r.body)), .pv (.bool r.shares)]] = some (aj (j6 r)) := by
 have e1 := gH r.type 1 4
 have e2 := gH r.status 0 999
 have e3 := gH r.version 0 1000000000000
 have e4 := rR r.body
 refine aw (fn := iq) rfl ?_
 unfold j6
 generalize rg r.type 1 4 = b1 at e1 ⊢
 generalize rg r.status 0 999 = b2 at e2 ⊢
 generalize rg r.version 0 1000000000000 = b3 at e3 ⊢
 cases b1
 ·simp [iq, e1, e2, e3, e4]
 cases b2
 ·simp [iq, e1, e2, e3, e4]
 cases b3
 ·simp [iq, e1, e2, e3, e4]
 simp [iq, e1, e2, e3, e4]
theorem nc {B : Nat} (hB : B ≤ maxLen) {w : XWrite} (h : w.Ok B) : aa Ph al 383 [.agg [.pv (.int .i64 w.dev), .pv (.int .i64 w.seq), .pv (.int .i64 w.key.kind), .pv (.int .i64 w.key.n), .pv (.str w.key.text), .pv (.str w.field), .pv (.int .i64 w.n)]] = some (aj (nZ w)) := by
 have e1 := gH w.dev 1 1000000
 have e2 := gH w.seq 1 1000000
 have e3 := kC (a := w.key) (Nat.le_trans h.2.2.1.2.2 hB)
 have e4 := di (Nat.le_trans h.2.2.2.1 hB)
 have e5 := gH w.n 0 1000000000
 refine aw (fn := eD) rfl ?_
 unfold nZ
 generalize rg w.dev 1 1000000 = b1 at e1 ⊢
 generalize rg w.seq 1 1000000 = b2 at e2 ⊢
 generalize fk w.key = b3 at e3 ⊢
 generalize bF w.field = b4 at e4 ⊢
 generalize rg w.n 0 1000000000 = b5 at e5 ⊢
 cases b1
 ·simp [eD, e1, e2, e3, e4, e5]
 cases b2
 ·simp [eD, e1, e2, e3, e4, e5]
 cases b3
 ·simp [eD, e1, e2, e3, e4, e5]
 cases b4
 ·simp [eD, e1, e2, e3, e4, e5]
 cases b5
 ·simp [eD, e1, e2, e3, e4, e5]
 simp [eD, e1, e2, e3, e4, e5]
def CJ : List (List UInt8) → Nat → Bool := Da (fun f => !(bF f)) (fun y x => !(Op.bytesLess y x))
def jk (s : XSite) : Bool := !((List.range s.files.length).any (CJ s.files)) && (bF s.name && (rg s.version 1 1000000000000 && rg s.files.length 1 6))
theorem xj (x y : List UInt8) : fE .leq x y = some (aj (!(Op.bytesLess y x))) := by rw [← nG]; rfl
theorem wZ (x y : List UInt8) : fE .geq x y = some (aj (!(Op.bytesLess x y))) := rfl
section
variable {B : Nat}
theorem Cn (hB : B ≤ maxLen) {s : XSite} (h : s.Ok B) : aa Ph al 381 [.agg [.pv (.str s.name), .pv (.int .i64 s.version), .pv (.lst (s.files.map zn)), .pv (.bool s.shared)]] = some (aj (jk s)) := by
 obtain ⟨xn, xv, xs, xh⟩ := s
 obtain ⟨h1, h2, h3, h4⟩ := h
 simp only at h1 h2 h3 h4 ⊢
 have e1 := cQ (Nat.le_trans h1 hB)
 have e2 := gG xv 1 1000000000000
 have e3 := gG xs.length 1 6
 have eF : ∀ k (hk : k < xs.length), _ := fun k hk => cQ (Nat.le_trans (h4 _ (List.getElem_mem hk)) hB)
 have hlm : xs.length ≤ maxLen := Nat.le_trans h3 hB
 refine aw (fn := qu) rfl ?_
 simp [qu]
 refine bU bh Cl.fin [.f,.t,.f,.f,.f,.f,.t,.t,.t,.f,.f,.f,.f,.f,.f,.f,.f,.f,.f,.f,.f,.f,.f,.f,.f,.f,.f,.f,.f,.f,.f,.f,.f,.f,.f,.f,.f,.f,.f,.f,.f,.f,.f,.f,.f] (fun k => [(8, ae .i64 k)]) xs.length (CJ xs) rfl ?_ ?_ ?_ ?_
 ·exact Kn.q [0]
 ·intro k hk hp
  unfold CJ at hp
  cases k with
  | zero =>
   have f1 := eF (0) hk
   rw [iB hk] at hp
   generalize bF xs[0] = b1 at hp f1
   cases b1
   ·simp [hk, bP, f1, zn] at hp
   simp [eK, hk, bP, f1, zn]
   exact Kn.q [0]
  | succ j =>
   have hj : j < xs.length := by omega
   obtain ⟨i1, i2, i3, i4, i5, i6⟩ := kJ hlm hk
   have f1 := eF (j + 1) hk
   have l1 := xj xs[j + 1] xs[j]
   rw [iC hk] at hp
   generalize bF xs[j + 1] = b1 at hp f1
   generalize (!(Op.bytesLess xs[j] xs[j + 1])) = b2 at hp l1
   cases b1
   ·simp [hk, hj, i1, i2, i3, i4, i5, i6, f1, ↓l1, zn] at hp
   cases b2
   rotate_left
   ·simp [hk, hj, i1, i2, i3, i4, i5, i6, f1, ↓l1, zn] at hp
   simp [eK, hk, hj, i1, i2, i3, i4, i5, i6, f1, ↓l1, zn]
   exact Kn.q [0]
 ·intro k hk hp _
  have hF : jk ⟨xn, xv, xs, xh⟩ = false := by unfold jk; rw [cI hk hp]; rfl
  rw [hF]
  clear hF
  unfold CJ at hp
  cases k with
  | zero =>
   have f1 := eF (0) hk
   rw [iB hk] at hp
   generalize bF xs[0] = b1 at hp f1
   cases b1
   ·simp [eK, hk, bP, f1, zn]
   simp [hk, bP, f1, zn] at hp
  | succ j =>
   have hj : j < xs.length := by omega
   obtain ⟨i1, i2, i3, i4, i5, i6⟩ := kJ hlm hk
   have f1 := eF (j + 1) hk
   have l1 := xj xs[j + 1] xs[j]
   rw [iC hk] at hp
   generalize bF xs[j + 1] = b1 at hp f1
   generalize (!(Op.bytesLess xs[j] xs[j + 1])) = b2 at hp l1
   cases b1
   ·simp [eK, hk, hj, i1, i2, i3, i4, i5, i6, f1, ↓l1, zn]
   cases b2
   rotate_left
   ·simp [eK, hk, hj, i1, i2, i3, i4, i5, i6, f1, ↓l1, zn]
   simp [hk, hj, i1, i2, i3, i4, i5, i6, f1, ↓l1, zn] at hp
 ·intro hp
  have hT : jk ⟨xn, xv, xs, xh⟩ = (bF xn && (rg xv 1 1000000000000 && rg xs.length 1 6)) := by unfold jk; rw [dM hp]; rfl
  rw [hT]
  generalize bF xn = b1 at e1 ⊢
  generalize rg xv 1 1000000000000 = b2 at e2 ⊢
  generalize rg (xs.length : Int) 1 6 = b3 at e3 ⊢
  cases b1
  ·simp [eK, e1, e2, e3]
  cases b2
  ·simp [eK, e1, e2, e3]
  cases b3
  ·simp [eK, e1, e2, e3]
  simp [eK, e1, e2, e3]
theorem CM (hB : B ≤ maxLen) {s : XSite} (h : s.Ok B) : aa Ph al 375 [.agg [.pv (.str s.name), .pv (.int .i64 s.version), .pv (.lst (s.files.map zn)), .pv (.bool s.shared)]] = some (aj (jk s)) := by
 obtain ⟨xn, xv, xs, xh⟩ := s
 obtain ⟨h1, h2, h3, h4⟩ := h
 simp only at h1 h2 h3 h4 ⊢
 have e1 := di (Nat.le_trans h1 hB)
 have e2 := gH xv 1 1000000000000
 have e3 := gH xs.length 1 6
 have eF : ∀ k (hk : k < xs.length), _ := fun k hk => di (Nat.le_trans (h4 _ (List.getElem_mem hk)) hB)
 have hlm : xs.length ≤ maxLen := Nat.le_trans h3 hB
 refine aw (fn := qx) rfl ?_
 simp [qx]
 refine bU bh Cl.fin [.f,.t,.f,.t,.f,.f,.f,.f,.f,.f,.f,.f,.f,.f,.f,.f,.f,.f,.f,.f,.f,.f,.f,.f,.f,.f,.f,.f,.f,.f,.f,.f,.f,.f,.f,.f,.f,.f,.f,.f,.f,.f,.f,.f,.f,.f,.f,.f,.f,.f] (fun k => [(3, ae .i64 k)]) xs.length (CJ xs) rfl ?_ ?_ ?_ ?_
 ·exact Kn.q [0]
 ·intro k hk hp
  unfold CJ at hp
  cases k with
  | zero =>
   have f1 := eF (0) hk
   rw [iB hk] at hp
   generalize bF xs[0] = b1 at hp f1
   cases b1
   ·simp [hk, bP, f1, zn] at hp
   simp [eL, hk, bP, f1, zn]
   exact Kn.q [0]
  | succ j =>
   have hj : j < xs.length := by omega
   obtain ⟨i1, i2, i3, i4, i5, i6⟩ := kJ hlm hk
   have f1 := eF (j + 1) hk
   have l1 := wZ xs[j] xs[j + 1]
   rw [iC hk] at hp
   generalize bF xs[j + 1] = b1 at hp f1
   generalize (!(Op.bytesLess xs[j] xs[j + 1])) = b2 at hp l1
   cases b1
   ·simp [hk, hj, i1, i2, i3, i4, i5, i6, f1, ↓l1, zn] at hp
   cases b2
   rotate_left
   ·simp [hk, hj, i1, i2, i3, i4, i5, i6, f1, ↓l1, zn] at hp
   simp [eL, hk, hj, i1, i2, i3, i4, i5, i6, f1, ↓l1, zn]
   exact Kn.q [0]
 ·intro k hk hp _
  have hF : jk ⟨xn, xv, xs, xh⟩ = false := by unfold jk; rw [cI hk hp]; rfl
  rw [hF]
  clear hF
  unfold CJ at hp
  cases k with
  | zero =>
   have f1 := eF (0) hk
   rw [iB hk] at hp
   generalize bF xs[0] = b1 at hp f1
   cases b1
   ·simp [eL, hk, bP, f1, zn]
   simp [hk, bP, f1, zn] at hp
  | succ j =>
   have hj : j < xs.length := by omega
   obtain ⟨i1, i2, i3, i4, i5, i6⟩ := kJ hlm hk
   have f1 := eF (j + 1) hk
   have l1 := wZ xs[j] xs[j + 1]
   rw [iC hk] at hp
   generalize bF xs[j + 1] = b1 at hp f1
   generalize (!(Op.bytesLess xs[j] xs[j + 1])) = b2 at hp l1
   cases b1
   ·simp [eL, hk, hj, i1, i2, i3, i4, i5, i6, f1, ↓l1, zn]
   cases b2
   rotate_left
   ·simp [eL, hk, hj, i1, i2, i3, i4, i5, i6, f1, ↓l1, zn]
   simp [hk, hj, i1, i2, i3, i4, i5, i6, f1, ↓l1, zn] at hp
 ·intro hp
  have hT : jk ⟨xn, xv, xs, xh⟩ = (bF xn && (rg xv 1 1000000000000 && rg xs.length 1 6)) := by unfold jk; rw [dM hp]; rfl
  rw [hT]
  generalize bF xn = b1 at e1 ⊢
  generalize rg xv 1 1000000000000 = b2 at e2 ⊢
  generalize rg (xs.length : Int) 1 6 = b3 at e3 ⊢
  cases b1
  ·simp [eL, e1, e2, e3]
  cases b2
  ·simp [eL, e1, e2, e3]
  cases b3
  ·simp [eL, e1, e2, e3]
  simp [eL, e1, e2, e3]
end
end Gi
