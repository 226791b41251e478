/- Of this proof. -/
import Derived.Test.YthklhahdgbbbhaaGreatGxa
set_option linter.unusedSimpArgs false
namespace Gi
open Go Go.RowKit
set_option maxHeartbeats 4000000
set_option maxRecDepth 4000
attribute [local simp] bW am bg bt cF dN Opd.ev put V.cells plain bz hJ isInt isStr isBool bin bf aS aR un asList L.view aB V.view viewL bC aC aT cj comp bq bZ a8 V.flat L.flat dX dJ bS putAt thaw thawL freezeVs freezeLs freezeL V.mut L.mut bm aZ wp_seq wp_block bE wp_cond wp_skip wp_exit wp_ret cN cE cK cH cS cT cR cq bj L.notArr
theorem OY (m : Int) : m.tmod 2147483647 = if 0 ≤ m then m % 2147483647 else -((-m) % 2147483647) := by
 split
 ·rw [Int.tmod_eq_emod_of_nonneg (by omega)]
 ·obtain ⟨n, rfl⟩ : ∃ n, m = -n := ⟨-m, by omega⟩
  rw [Int.neg_tmod, Int.tmod_eq_emod_of_nonneg (by omega), Int.neg_neg]
theorem Cg {α β : Type} {g : β → α → β} {a : β} {ns : List α} {k : Nat} (h : k < ns.length) : (ns.take (k + 1)).foldl g a = g ((ns.take k).foldl g a) ns[k] := by
 rw [List.take_succ_eq_append_getElem h, List.foldl_append]; rfl
theorem Qe (v : Int) : v.tmod 2147483647 < 0 → IntKind.i64.wrap (v.tmod 2147483647 + 2147483647) = v % 2147483647 := fun c => by
 have h := OY v
 rw [IntKind.wrap_i64]; omega
theorem Qf (v : Int) : ¬ v.tmod 2147483647 < 0 → v.tmod 2147483647 = v % 2147483647 := fun c => by
 have h := OY v
 omega
theorem PU (v M q : Int) (hw : v.tmod M < 0 → IntKind.i64.wrap (v.tmod M + M) = q) (hw2 : ¬ v.tmod M < 0 → v.tmod M = q) (m1 : 1 ≤ M) (m2 : M ≤ 1000000000000) (m3 : ¬ M = 0) : aa Ph al 358 [ae .i64 v, ae .i64 M] = some (ae .i64 q) := by
 have e1 := dz M 1 1000000000000
 refine aw (fn := rW) rfl ?_
 generalize hr : v.tmod M = r at hw hw2
 by_cases c : r < 0
 ·have hw' := hw c
  simp [rW, e1, m1, m2, m3, hr, c, hw']
 ·have hw' := hw2 c
  subst hw'
  simp [rW, e1, m1, m2, m3, hr, c]
theorem Fw (v : Int) : aa Ph al 358 [ae .i64 v, ae .i64 2147483647] = some (ae .i64 (v % 2147483647)) := PU v _ _ (Qe v) (Qf v) (by omega) (by omega) (by omega)
theorem FL (v : Int) : aa Ph al 357 [ae .i64 v, ae .i64 2147483647] = some (ae .i64 (v % 2147483647)) := by
 have h := OY v
 have hw : IntKind.i64.wrap (v.tmod 2147483647 + 2147483647) = v.tmod 2147483647 + 2147483647 := by rw [IntKind.wrap_i64]; omega
 have hm : (v.tmod 2147483647 + 2147483647).tmod 2147483647 = v % 2147483647 := by rw [OY]; omega
 have m1 : (1 : Int) ≤ 2147483647 := by omega
 have m2 : (2147483647 : Int) ≤ 1000000000000 := by omega
 have m3 : ¬ (2147483647 : Int) = 0 := by omega
 clear h
 generalize v % 2147483647 = q at hm ⊢
 generalize (2147483647 : Int) = M at hw hm m1 m2 m3 ⊢
 have e1 := fv M 1 1000000000000
 refine aw (fn := vA) rfl ?_
 simp [vA, e1, m1, m2, m3, hw, hm]
def qU (acc v : Int) : Int := (acc * 1000003 + v % 2147483647 + 13) % 2147483647
def mT (ns : List Int) : Int := ns.foldl qU 11
theorem rZ : ∀ (ns : List Int) (a : Int), 0 ≤ a → a < 2147483647 → 0 ≤ ns.foldl qU a ∧ ns.foldl qU a < 2147483647
 | [], a, h0, h1 => ⟨h0, h1⟩
 | n :: ns, a, h0, h1 => by
  refine rZ ns (qU a n) ?_ ?_ <;> (unfold qU; omega)
theorem tB (ns : List Int) : 0 ≤ mT ns ∧ mT ns < 2147483647 := rZ ns 11 (by omega) (by omega)
theorem Fv {ns : List Int} (hl : ns.length ≤ maxLen) : aa Ph al 348 [bJ (ns.map i1)] = some (ae .i64 (mT ns)) := by
 have E := kj (call := aa Ph al) bh (c := la) rfl (n := ns.length) (e := .exit 0)
  (S := fun k => ⟨(.one .junk :: .one .junk :: .one .junk :: ae .i64 ((ns.take k).foldl qU 11) :: .one .junk :: .one .junk :: bJ (ns.map i1) :: ae .i64 ns.length :: ae .i64 k :: J4 (J4 (J4 ([])))), []⟩)
  (σe := ⟨(.one .junk :: .one .junk :: .one .junk :: ae .i64 (mT ns) :: bV (.one .junk :: [])), []⟩)
  (fun k hlt => by
   have hw := ag (k := k) (by unfold maxLen at hl; omega)
   obtain ⟨r1, r2⟩ := rZ (ns.take k) 11 (by omega) (by omega)
   have hf := Cg (g := qU) (a := 11) hlt
   have e1 := Fw ns[k]
   refine iy.of ?_
   rw [hf]
   generalize (ns.take k).foldl qU 11 = A at r1 r2 ⊢
   unfold qU
   have w1 : IntKind.i64.wrap (A * 1000003) = A * 1000003 := by rw [IntKind.wrap_i64]; omega
   have w2 : IntKind.i64.wrap (A * 1000003 + ns[k] % 2147483647) = A * 1000003 + ns[k] % 2147483647 := by rw [IntKind.wrap_i64]; omega
   have w3 : IntKind.i64.wrap (A * 1000003 + ns[k] % 2147483647 + 13) = A * 1000003 + ns[k] % 2147483647 + 13 := by rw [IntKind.wrap_i64]; omega
   have w4 : (A * 1000003 + ns[k] % 2147483647 + 13).tmod 2147483647 = (A * 1000003 + ns[k] % 2147483647 + 13) % 2147483647 := by rw [OY]; omega
   simp [la, hlt, i1, hw, e1, w1, w2, w3, w4]
   exact Kn.r [] trivial)
  (by
   refine ff.stop (by simp) ?_
   simp [la]
   exact Kn.of [] (by decide) trivial (by simp [bL, ca, br, dI, co, bQ, cu, L.ren, mT]))
 refine aw (fn := tu) rfl ?_
 simp [tu]
 refine cw bh Cl.fin rfl E ?_ ?_
 ·exact Kn.r [] trivial
 simp
theorem FK {ns : List Int} (hl : ns.length ≤ maxLen) : aa Ph al 343 [bJ (ns.map i1)] = some (ae .i64 (mT ns)) := by
 have E := kj (call := aa Ph al) bh (c := lc) rfl (n := ns.length) (e := .exit 0)
  (S := fun k => ⟨(bJ (ns.map i1) :: .one .junk :: .one .junk :: ae .i64 ((ns.take k).foldl qU 11) :: ae .i64 k :: bV (.one .junk :: [])), []⟩)
  (σe := ⟨(.one .junk :: .one .junk :: .one .junk :: ae .i64 (mT ns) :: bV (.one .junk :: .one .junk :: [])), []⟩)
  (fun k hlt => by
   have hw := ag (k := k) (by unfold maxLen at hl; omega)
   obtain ⟨r1, r2⟩ := rZ (ns.take k) 11 (by omega) (by omega)
   have hf := Cg (g := qU) (a := 11) hlt
   have e1 := FL ns[k]
   refine iy.of ?_
   rw [hf]
   generalize (ns.take k).foldl qU 11 = A at r1 r2 ⊢
   unfold qU
   have w1 : IntKind.i64.wrap (A * 1000003) = A * 1000003 := by rw [IntKind.wrap_i64]; omega
   have w2 : IntKind.i64.wrap (A * 1000003 + ns[k] % 2147483647) = A * 1000003 + ns[k] % 2147483647 := by rw [IntKind.wrap_i64]; omega
   have w3 : IntKind.i64.wrap (A * 1000003 + ns[k] % 2147483647 + 13) = A * 1000003 + ns[k] % 2147483647 + 13 := by rw [IntKind.wrap_i64]; omega
   have w4 : (A * 1000003 + ns[k] % 2147483647 + 13).tmod 2147483647 = (A * 1000003 + ns[k] % 2147483647 + 13) % 2147483647 := by rw [OY]; omega
   simp [lc, hlt, i1, hw, e1, w1, w2, w3, w4]
   exact Kn.r [] trivial)
  (by
   refine ff.stop (by simp) ?_
   simp [lc]
   exact Kn.of [] (by decide) trivial (by simp [bL, ca, br, dI, co, bQ, cu, L.ren, mT]))
 refine aw (fn := tw) rfl ?_
 simp [tw]
 refine cw bh Cl.fin rfl E ?_ ?_
 ·exact Kn.r [] trivial
 simp
theorem LZ (ns : List Int) : (ns.map i1).all (fun e => e.length == 1) = true := by simp [i1]
theorem pZ (k : Int) {ns : List Int} (hl : ns.length ≤ 1000000000) : aa Ph al 336 [ae .i64 k, bJ (ns.map i1)] = some (ae .i64 (mT (k :: (ns ++ [k])))) := by
 have e1 := Fv (ns := k :: (ns ++ [k])) (by simp [maxLen]; omega)
 simp only [List.map_cons, List.map_append, List.map_nil, i1] at e1
 have h1 := LZ ns
 have b1 : (1 + ns.length) * 8 ≤ 140737488355328 := by omega
 have b2 : 1 + ns.length ≤ 9223372036854775807 := by omega
 have b3 : (ns.length + 1 + 1) * 8 ≤ 140737488355328 := by omega
 have b4 : ns.length + 1 + 1 ≤ 9223372036854775807 := by omega
 refine aw (fn := nq) rfl ?_
 generalize mT (k :: (ns ++ [k])) = H at e1 ⊢
 simp [nq, ↓h1, b1, b2, b3, b4, e1]
theorem qc (k : Int) {ns : List Int} (hl : ns.length ≤ 1000000000) : aa Ph al 330 [ae .i64 k, bJ (ns.map i1)] = some (ae .i64 (mT (k :: (ns ++ [k])))) := by
 have e1 := FK (ns := k :: (ns ++ [k])) (by simp [maxLen]; omega)
 simp only [List.map_cons, List.map_append, List.map_nil, i1] at e1
 have h1 := LZ ns
 have b1 : (1 + ns.length) * 8 ≤ 140737488355328 := by omega
 have b2 : 1 + ns.length ≤ 9223372036854775807 := by omega
 have b3 : (ns.length + 1 + 1) * 8 ≤ 140737488355328 := by omega
 have b4 : ns.length + 1 + 1 ≤ 9223372036854775807 := by omega
 refine aw (fn := nC) rfl ?_
 generalize mT (k :: (ns ++ [k])) = H at e1 ⊢
 simp [nC, ↓h1, b1, b2, b3, b4, e1]
def EU (s : List UInt8) : List Int := (s.length : Int) :: s.map fun b => (b.toNat : Int)
def J1 (s : List UInt8) (k : Nat) : List (List PV) := [.int .i64 (s.length : Nat)] :: ((s.take k).map fun b => [PV.int .i64 b.toNat])
theorem Gy {s : List UInt8} {k : Nat} (h : k < s.length) : J1 s (k + 1) = J1 s k ++ [[.int .i64 s[k].toNat]] := by
 unfold J1
 rw [List.take_succ_eq_append_getElem h, List.map_append]
 rfl
theorem Jf (s : List UInt8) : J1 s s.length = (EU s).map i1 := by simp [J1, EU, i1]
theorem Jg {s : List UInt8} {k : Nat} (h : k ≤ s.length) : (J1 s k).length = k + 1 := by simp [J1]; omega
theorem M2 (b : UInt8) : IntKind.i64.wrap (b.toNat : Int) = (b.toNat : Int) := by
 have := b.toNat_lt
 rw [IntKind.wrap_i64]; omega
theorem CC {s : List UInt8} {k : Nat} (h : k < s.length) : (aU s)[k]? = some [.int .u8 s[k].toNat] := by simp [aU, h]
theorem tR {s : List UInt8} {k : Nat} (h : k < (aU s).length) : (aU s)[k] = [.int .u8 (s[k]'(by simpa [aU] using h)).toNat] := by simp [aU]
theorem eO (s : List UInt8) : (aU s).length = s.length := by simp [aU]
theorem uK {s : List UInt8} (hl : s.length ≤ 1000000000) : aa Ph al 349 [bJ (aU s)] = some (.one (.own 1 ((EU s).map i1))) := by
 have E := kj (call := aa Ph al) bh (c := hY) rfl (n := s.length) (e := .exit 0)
  (S := fun k => ⟨(.one .junk :: .one .junk :: .one .junk :: .one (.arr 0) :: J4 (.one .junk :: bJ (aU s) :: ae .i64 s.length :: ae .i64 k :: J4 (J4 (.one .junk :: .one .junk :: [])))), [.arr 1 (J1 s k)]⟩)
  (σe := ⟨(.one .junk :: .one .junk :: .one .junk :: .one (.arr 0) :: bV (.one .junk :: .one .junk :: [])), [.arr 1 ((EU s).map i1)]⟩)
  (fun k hlt => by
   have hw := ag (k := k) (by omega)
   have ha := CC hlt
   have hu := M2 s[k]
   have hb := Jg (Nat.le_of_lt hlt)
   have b1 : (k + 1 + 1) * 8 ≤ 140737488355328 := by omega
   have b2 : k + 1 + 1 ≤ 9223372036854775807 := by omega
   refine iy.of ?_
   rw [Gy hlt]
   generalize J1 s k = B at hb
   simp [hY, hlt, ha, hw, hu, hb, b1, b2]
   exact Kn.r [2])
  (by
   refine ff.stop (by simp) ?_
   simp [hY, Jf]
   exact Kn.r [0])
 refine aw (fn := lC) rfl ?_
 simp [lC, eO]
 refine cw bh Cl.fin rfl E ?_ ?_
 ·exact Kn.r [0] (by simp [bL, ca, br, dI, co, bQ, cu, L.ren, J1])
 simp
theorem uR {s : List UInt8} (hl : s.length ≤ 1000000000) : aa Ph al 345 [bJ (aU s)] = some (.one (.own 1 ((EU s).map i1))) := by
 have E := kj (call := aa Ph al) bh (c := ib) rfl (n := s.length) (e := .exit 0)
  (S := fun k => ⟨(bJ (aU s) :: .one .junk :: .one .junk :: .one (.arr 0) :: ae .i64 k :: bV (.one .junk :: .one .junk :: [])), [.arr 1 (J1 s k)]⟩)
  (σe := ⟨(.one .junk :: .one .junk :: .one .junk :: .one (.arr 0) :: bV (.one .junk :: .one .junk :: .one .junk :: [])), [.arr 1 ((EU s).map i1)]⟩)
  (fun k hlt => by
   have hw := ag (k := k) (by omega)
   have ha := CC hlt
   have hu := M2 s[k]
   have hb := Jg (Nat.le_of_lt hlt)
   have b1 : (k + 1 + 1) * 8 ≤ 140737488355328 := by omega
   have b2 : k + 1 + 1 ≤ 9223372036854775807 := by omega
   refine iy.of ?_
   rw [Gy hlt]
   generalize J1 s k = B at hb
   simp [ib, hlt, ha, hw, hu, hb, b1, b2, eO, tR]
   exact Kn.r [2])
  (by
   refine ff.stop (by simp) ?_
   simp [ib, Jf, eO]
   exact Kn.r [0])
 refine aw (fn := lJ) rfl ?_
 simp [lJ, eO]
 refine cw bh Cl.fin rfl E ?_ ?_
 ·exact Kn.r [0] (by simp [bL, ca, br, dI, co, bQ, cu, L.ren, J1])
 simp
def jx (k : Int) (s : List UInt8) : Int := if mT (k :: (EU s ++ [k])) = 0 then 1 else mT (k :: (EU s ++ [k]))
theorem lf (k : Int) {s : List UInt8} (hl : s.length ≤ 900000000) : aa Ph al 337 [ae .i64 k, eX s] = some (ae .i64 (jx k s)) := by
 have e1 := uK (s := s) (by omega)
 have e2 := pZ k (ns := EU s) (by simp [EU]; omega)
 refine aw (fn := il) rfl ?_
 unfold jx
 generalize mT (k :: (EU s ++ [k])) = H at e2 ⊢
 generalize (EU s).map i1 = B at e1 e2
 by_cases c : H = 0
 ·simp [il, e1, e2, c]
 ·simp [il, e1, e2, c]
theorem li (k : Int) {s : List UInt8} (hl : s.length ≤ 900000000) : aa Ph al 331 [ae .i64 k, eX s] = some (ae .i64 (jx k s)) := by
 have e1 := uR (s := s) (by omega)
 have e2 := qc k (ns := EU s) (by simp [EU]; omega)
 have r := tB (k :: (EU s ++ [k]))
 have e3 : aa Ph al 344 [ae .i64 1, ae .i64 (mT (k :: (EU s ++ [k])))] = some (ae .i64 (jx k s)) := by
  refine aw (fn := pt) rfl ?_
  unfold jx
  generalize mT (k :: (EU s ++ [k])) = H at r ⊢
  by_cases c : 1 < H
  ·have c' : ¬ H = 0 := by omega
   simp [pt, c, c']
  ·by_cases c' : H = 0
   ·simp [pt, c, c']
   ·have c'' : H = 1 := by omega
    simp [pt, c'']
 refine aw (fn := jt) rfl ?_
 generalize mT (k :: (EU s ++ [k])) = H at e2 e3
 generalize (EU s).map i1 = B at e1 e2
 simp [jt, e1, e2, e3]
def qp (n i : Int) : Int := n.fdiv (2 ^ (min (8 * i).toNat IntKind.i64.bits)) % 256
def o8 (n : Int) (k : Nat) : List (List PV) := (List.range k).map fun (j : Nat) => [.int .u8 (qp n (5 - (j : Int)))]
theorem Bm (n : Int) (k : Nat) : o8 n (k + 1) = o8 n k ++ [[.int .u8 (qp n (5 - (k : Int)))]] := by simp [o8, List.range_succ]
theorem D3 (n : Int) (k : Nat) : (o8 n k).length = k := by simp [o8]
def nT (n : Int) : List UInt8 := (List.range 6).map fun (j : Nat) => UInt8.ofNat (qp n (5 - (j : Int))).toNat
theorem EX (n i : Int) : 0 ≤ qp n i ∧ qp n i < 256 := by unfold qp; omega
theorem D2 (n : Int) : o8 n 6 = aU (nT n) := by
 unfold o8 nT aU
 rw [List.map_map]
 refine List.map_congr_left fun j _ => ?_
 obtain ⟨h1, h2⟩ := EX n (5 - (j : Int))
 simp only [Function.comp, UInt8.toNat_ofNat']
 congr 2
 omega
def kA (nm path : List UInt8) (v : Int) : Int := mT (IntKind.i64.wrap (1 + v) :: ([103, jx 107 nm, jx 109 path] ++ [IntKind.i64.wrap (1 + v)]))
theorem Oo {x : Int} (h0 : 0 ≤ x) (h1 : x ≤ 4611686018427387904) : IntKind.u8.wrap (IntKind.i64.wrap ((BitVec.ofInt IntKind.i64.bits x &&& BitVec.ofInt IntKind.i64.bits 255).toNat : Int)) = x % 256 := by
 have : ((BitVec.ofInt IntKind.i64.bits x &&& BitVec.ofInt IntKind.i64.bits 255).toNat : Int) = x % 256 := by
  obtain ⟨n, rfl⟩ := Int.eq_ofNat_of_zero_le h0
  rw [BitVec.toNat_and]
  have e1 : (BitVec.ofInt IntKind.i64.bits (n : Int)).toNat = n := by
   simp [IntKind.bits, BitVec.toNat_ofInt]; omega
  have e2 : (BitVec.ofInt IntKind.i64.bits 255).toNat = 2 ^ 8 - 1 := by decide
  rw [e1, e2, Nat.and_two_pow_sub_one_eq_mod]
  omega
 rw [this, IntKind.wrap_u8, IntKind.wrap_i64]
 omega
theorem Im {n : Int} (h0 : 0 ≤ n) (h1 : n < 2147483647) (m : Nat) : 0 ≤ n.fdiv (2 ^ m) ∧ n.fdiv (2 ^ m) < 2147483647 := by
 have hp : (0 : Int) < 2 ^ m := Int.pow_pos (by omega)
 rw [Int.fdiv_eq_ediv_of_nonneg _ (Int.le_of_lt hp)]
 exact ⟨Int.ediv_nonneg h0 (Int.le_of_lt hp), Int.lt_of_le_of_lt (Int.ediv_le_self _ h0) h1⟩
theorem tC {nm path : List UInt8} {sv : Int} {fs : List (List PV)} {sh : Bool} {v : Int} (h1 : nm.length ≤ 900000000) (h2 : path.length ≤ 900000000) : aa Ph al 320 [.agg [.pv (.str nm), .pv (.int .i64 sv), .pv (.lst fs), .pv (.bool sh)], eX path, ae .i64 v] = some (.one (.own 1 (aU (nT (kA nm path v))))) := by
 have e1 := lf 107 h1
 have e2 := lf 109 h2
 have e3 := pZ (IntKind.i64.wrap (1 + v)) (ns := [103, jx 107 nm, jx 109 path]) (by simp)
 simp only [List.map_cons, List.map_nil, i1] at e3
 have hr := tB (IntKind.i64.wrap (1 + v) :: ([103, jx 107 nm, jx 109 path] ++ [IntKind.i64.wrap (1 + v)]))
 rw [← D2]
 change aa _ _ _ _ = some (ae .i64 (kA nm path v)) at e3
 change 0 ≤ kA nm path v ∧ kA nm path v < 2147483647 at hr
 generalize kA nm path v = H at e3 hr ⊢
 have E := kj (call := aa Ph al) bh (c := jI) rfl (n := 6) (e := .exit 0)
  (S := fun k => ⟨(J4 (.one .junk :: .one .junk :: .one .junk :: ae .i64 H :: .one (.arr 0) :: ae .i64 (5 - (k : Int)) :: bV (J4 (.one .junk :: .one .junk :: .one .junk :: [])))), [.arr 1 (o8 H k)]⟩)
  (σe := ⟨(J4 (J4 (.one (.arr 0) :: bV (J4 (J4 ([])))))), [.arr 1 (o8 H 6)]⟩)
  (fun k hlt => by
   have h5 : (0 : Int) ≤ 5 - (k : Int) := by omega
   have hw8 : IntKind.i64.wrap (8 * (5 - (k : Int))) = 8 * (5 - (k : Int)) := by rw [IntKind.wrap_i64]; omega
   have hw1 : IntKind.i64.wrap (5 - (k : Int) - 1) = 5 - (k : Int) - 1 := by rw [IntKind.wrap_i64]; omega
   have hZ : ie .shr .i64 H (8 * (5 - (k : Int))) = some (ae .i64 (H.fdiv (2 ^ (min (8 * (5 - (k : Int))).toNat IntKind.i64.bits)))) := by
    unfold ie
    rw [if_neg (by omega)]
   have hu : IntKind.u8.wrap (H.fdiv (2 ^ (min (8 * (5 - (k : Int))).toNat IntKind.i64.bits))) = qp H (5 - (k : Int)) := by rw [IntKind.wrap_u8]; rfl
   have hb := D3 H k
   have b1 : k + 1 ≤ 140737488355328 := by omega
   have b2 : k + 1 ≤ 9223372036854775807 := by omega
   have hk1 : 5 - ((k : Int) + 1) = 5 - (k : Int) - 1 := by omega
   refine iy.of ?_
   rw [Bm]
   generalize qp H (5 - (k : Int)) = Z at hu ⊢
   generalize H.fdiv _ = Y at hZ hu
   generalize o8 H k = B at hb ⊢
   simp only [Int.natCast_add, Int.cast_ofNat_Int, hk1]
   generalize 5 - (k : Int) = i at h5 hw8 hw1 hZ ⊢
   simp [jI, h5, hw8, hw1, hZ, hu, hb, b1, b2]
   exact Kn.r [2])
  (by
   refine ff.stop (by simp) ?_
   simp [jI]
   exact Kn.r [0])
 refine aw (fn := qr) rfl ?_
 simp [qr, e1, e2, e3]
 refine cw bh Cl.fin rfl E ?_ ?_
 ·exact Kn.r [2] (by simp [bL, ca, br, dI, co, bQ, cu, L.ren, o8])
 simp
theorem tX {nm path : List UInt8} {sv : Int} {fs : List (List PV)} {sh : Bool} {v : Int} (h1 : nm.length ≤ 900000000) (h2 : path.length ≤ 900000000) : aa Ph al 317 [.agg [.pv (.str nm), .pv (.int .i64 sv), .pv (.lst fs), .pv (.bool sh)], eX path, ae .i64 v] = some (.one (.own 1 (aU (nT (kA nm path v))))) := by
 have e1 := li 107 h1
 have e2 := li 109 h2
 have e3 := qc (IntKind.i64.wrap (1 + v)) (ns := [103, jx 107 nm, jx 109 path]) (by simp)
 simp only [List.map_cons, List.map_nil, i1] at e3
 have hr := tB (IntKind.i64.wrap (1 + v) :: ([103, jx 107 nm, jx 109 path] ++ [IntKind.i64.wrap (1 + v)]))
 rw [← D2]
 change aa _ _ _ _ = some (ae .i64 (kA nm path v)) at e3
 change 0 ≤ kA nm path v ∧ kA nm path v < 2147483647 at hr
 generalize kA nm path v = H at e3 hr ⊢
 have E := kj (call := aa Ph al) bh (c := jJ) rfl (n := 6) (e := .exit 0)
  (S := fun k => ⟨(J4 (.one .junk :: .one .junk :: .one .junk :: ae .i64 H :: .one (.arr 0) :: ae .i64 (5 - (k : Int)) :: bV (J4 (J4 ([]))))), [.arr 1 (o8 H k)]⟩)
  (σe := ⟨(J4 (J4 (.one (.arr 0) :: bV (J4 (J4 (.one .junk :: [])))))), [.arr 1 (o8 H 6)]⟩)
  (fun k hlt => by
   have h5 : (0 : Int) ≤ 5 - (k : Int) := by omega
   have hw8 : IntKind.i64.wrap (8 * (5 - (k : Int))) = 8 * (5 - (k : Int)) := by rw [IntKind.wrap_i64]; omega
   have hw1 : IntKind.i64.wrap (5 - (k : Int) - 1) = 5 - (k : Int) - 1 := by rw [IntKind.wrap_i64]; omega
   have hZ : ie .shr .i64 H (8 * (5 - (k : Int))) = some (ae .i64 (H.fdiv (2 ^ (min (8 * (5 - (k : Int))).toNat IntKind.i64.bits)))) := by
    unfold ie
    rw [if_neg (by omega)]
   obtain ⟨d1, d2⟩ := Im hr.1 hr.2 (min (8 * (5 - (k : Int))).toNat IntKind.i64.bits)
   have hu : IntKind.u8.wrap (IntKind.i64.wrap ((BitVec.ofInt IntKind.i64.bits (H.fdiv (2 ^ (min (8 * (5 - (k : Int))).toNat IntKind.i64.bits))) &&& BitVec.ofInt IntKind.i64.bits 255).toNat : Int)) = qp H (5 - (k : Int)) := Oo d1 (by omega)
   have hb := D3 H k
   have b1 : k + 1 ≤ 140737488355328 := by omega
   have b2 : k + 1 ≤ 9223372036854775807 := by omega
   have hk1 : 5 - ((k : Int) + 1) = 5 - (k : Int) - 1 := by omega
   refine iy.of ?_
   rw [Bm]
   generalize qp H (5 - (k : Int)) = Z at hu ⊢
   generalize H.fdiv _ = Y at hZ hu
   have hA : bf .and .i64 Y 255 = some (ae .i64 (IntKind.i64.wrap ((BitVec.ofInt IntKind.i64.bits Y &&& BitVec.ofInt IntKind.i64.bits 255).toNat : Int))) := rfl
   generalize IntKind.i64.wrap ((BitVec.ofInt IntKind.i64.bits Y &&& BitVec.ofInt IntKind.i64.bits 255).toNat : Int) = X at hu hA
   generalize o8 H k = B at hb ⊢
   simp only [Int.natCast_add, Int.cast_ofNat_Int, hk1]
   generalize 5 - (k : Int) = i at h5 hw8 hw1 hZ ⊢
   simp [jJ, h5, hw8, hw1, hZ, ↓hA, hu, hb, b1, b2]
   exact Kn.r [2])
  (by
   refine ff.stop (by simp) ?_
   simp [jJ]
   exact Kn.r [0])
 refine aw (fn := qw) rfl ?_
 simp [qw, e1, e2, e3]
 refine cw bh Cl.fin rfl E ?_ ?_
 ·exact Kn.r [2] (by simp [bL, ca, br, dI, co, bQ, cu, L.ren, o8])
 simp
end Gi
