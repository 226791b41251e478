/- Of this proof. -/
import Derived.Test.YtlohbkffhpnfgaaGreatGpo
set_option linter.unusedSimpArgs false
set_option linter.unusedVariables false
namespace Gi
open Go Go.RowKit
inductive MS where
 | k (ts : List PTy)
 | s (ts : List PTy) (f : Nat)
 | l (us : List PTy) (f : Nat)
def MS.ts : MS → List PTy
 | .k ts => ts
 | .s ts _ => ts
 | .l us _ => [.lst us]
def f5 : List MS → List PTy
 | [] => []
 | s :: ss => s.ts ++ f5 ss
def PU (c off : Nat) (g : Bool) (n f : Nat) : List AOper := [⟨some c, .fieldA (.tmp 2) off, none⟩, ⟨some (c + 1), .loadZ g n (.tmp c), none⟩, ⟨some (c + 2), .mv (.tmp 1), none⟩, ⟨some (c + 3), .callM f (.tmp (c + 1)) (.tmp (c + 2)), none⟩, ⟨some 1, .mv (.tmp (c + 3)), none⟩]
def Mm : Nat → Nat → List MS → ACode
 | c, _, [] => .seq (.region [⟨some c, .mv (.tmp 1), none⟩, ⟨some 4, .mv (.tmp c), none⟩]) .ret
 | c, off, .k ts :: ss => Mm c (off + ts.length) ss
 | c, off, .s ts f :: ss => .seq (.region (PU c off true ts.length f)) (Mm (c + 4) (off + ts.length) ss)
 | c, off, .l _ f :: ss => .seq (.region (PU c off false 1 f)) (Mm (c + 4) (off + 1) ss)
def Mn : Nat → List MS → Nat
 | c, [] => c
 | c, .k _ :: ss => Mn c ss
 | c, _ :: ss => Mn (c + 4) ss
def oX (ss : List MS) : AFn := ⟨Mn 5 ss + 1, [.tmp 4], .seq (.region [⟨some 2, .box (.tmp 0), none⟩, ⟨some 4, .mv (.pv (.int .i64 0)), none⟩]) (Mm 5 0 ss)⟩
theorem AP : ∀ (ss : List MS) (c off : Nat), (Mm c off ss).noZ = true
 | [], c, off => rfl
 | .k ts :: ss, c, off => AP ss c _
 | .s ts f :: ss, c, off => by simp only [Mm, ACode.noZ, AP ss, Bool.and_true]; rfl
 | .l us f :: ss, c, off => by simp only [Mm, ACode.noZ, AP ss, Bool.and_true]; rfl
theorem yn : ∀ (ss : List MS) (c : Nat), c ≤ Mn c ss
 | [], c => Nat.le_refl _
 | .k ts :: ss, c => yn ss c
 | .s ts f :: ss, c => Nat.le_trans (by omega) (yn ss (c + 4))
 | .l us f :: ss, c => Nat.le_trans (by omega) (yn ss (c + 4))
section
variable {Φ : Nat → Option AFn} {ext : Nat → List V → Option V} {mT : Int → List UInt8} {mt : Nat}
def KL (Φ : Nat → Option AFn) (ext : Nat → List V → Option V) (mT : Int → List UInt8) (f : Nat) (ts : List PTy) : Prop :=
 ∀ row : List PV, a9 ts row → ∀ k : Int, 0 ≤ k → (eP mT row k).2 ≤ tt → ae Φ ext (f + jn) [.agg (GD ts row), aa .i64 k] = some (.tup ((false, [.pv (.int .i64 (eP mT row k).2)]) :: LL ts (eP mT row k).1))
def GH (Φ : Nat → Option AFn) (ext : Nat → List V → Option V) (mT : Int → List UInt8) : List MS → Prop
 | [] => True
 | .k ts :: ss => ts.all PTy.flatT = true ∧ GH Φ ext mT ss
 | .s ts f :: ss => KL Φ ext mT f ts ∧ GH Φ ext mT ss
 | .l us f :: ss => nA Φ ext mT f us ∧ GH Φ ext mT ss
theorem Hz {g : Bool} {n f c m : Nat} {C1 C2 : List L} {Z1 Z2 : List AObj} {ts : List PTy} {x : List PV} {v a : V} {k : Int} {t : List V} (hx : a9 ts x) (h1 : t[1]? = some (aa .i64 k)) (h2 : t[2]? = some (.one (.ptr m 0 0))) (hc : 5 ≤ c) (hl : c + 3 < t.length)
 (hb : (Z1 ++ gi ts x ++ Z2)[m]? = some (.box (C1 ++ C2))) (hcut : f4 g n C1.length (C1 ++ C2) = some v) (hv : v.cells = iz Z1.length ts x) (hsub : ∀ o c, v ≠ .one (.sub o c)) (hlend : ro (Z1 ++ gi ts x ++ Z2) v = some a) (hcall : ae Φ ext (f + jn) [a, aa .i64 k] = some (.tup ((false, [.pv (.int .i64 (eP mT x k).2)]) :: LL ts (eP mT x k).1))) :
 ∃ t', ag (ae Φ ext) (PU c C1.length g n f) ⟨t, Z1 ++ gi ts x ++ Z2⟩ = some ⟨t', Z1 ++ gi ts (eP mT x k).1 ++ Z2⟩ ∧ t'.length = t.length ∧ t'[1]? = some (aa .i64 (eP mT x k).2) ∧ t'[2]? = some (.one (.ptr m 0 0)) := by
 have e1 := getD_some h1
 have e2 := getD_some h2
 have q1 : (t.set c (V.one (.ptr m 0 C1.length))).getD c (.tup []) = .one (.ptr m 0 C1.length) := az (by omega)
 have q2 : ((t.set c (V.one (.ptr m 0 C1.length))).set (c + 1) v).getD 1 (.tup []) = aa .i64 k := (cO (by omega)).trans ((cO (by omega)).trans e1)
 have q3 : (((t.set c (V.one (.ptr m 0 C1.length))).set (c + 1) v).set (c + 2) (aa .i64 k)).getD (c + 1) (.tup []) = v := (cO (by omega)).trans (az (by simp; omega))
 have q4 : (((t.set c (V.one (.ptr m 0 C1.length))).set (c + 1) v).set (c + 2) (aa .i64 k)).getD (c + 2) (.tup []) = aa .i64 k := az (by simp; omega)
 have q5 : ((((t.set c (V.one (.ptr m 0 C1.length))).set (c + 1) v).set (c + 2) (aa .i64 k)).set (c + 3) (aa .i64 (eP mT x k).2)).getD (c + 3) (.tup []) = aa .i64 (eP mT x k).2 := az (by simp; omega)
 have hnd : (ah v.cells).Nodup := by rw [hv]; exact (NU hx _).1
 have hput := Pe mT hx Z1 Z2 k
 rw [← hv] at hput
 have hM : jx (ae Φ ext) (Z1 ++ gi ts x ++ Z2) f v k = some (aa .i64 (eP mT x k).2, Z1 ++ gi ts (eP mT x k).1 ++ Z2) := by
  unfold jx
  split
  ·rename_i o cc; exact absurd rfl (hsub o cc)
  ·simp only [hnd, if_true, hlend, hcall, L.flat, hput]
 refine ⟨((((t.set c (V.one (.ptr m 0 C1.length))).set (c + 1) v).set (c + 2) (aa .i64 k)).set (c + 3) (aa .i64 (eP mT x k).2)).set 1 (aa .i64 (eP mT x k).2), ?_, by simp, List.getElem?_set_self (by simp; omega), by rw [List.getElem?_set_ne (by omega), List.getElem?_set_ne (by omega), List.getElem?_set_ne (by omega), List.getElem?_set_ne (by omega), List.getElem?_set_ne (by omega)]; exact h2⟩
 simp only [PU, ag, aw, aH, bf, bW, Opd.ev, e2, put, Nat.zero_add, q1, py, hb, bm, if_true, hcut, q2, q3, q4, hM, q5]
theorem AO : ∀ (ss : List MS), GH Φ ext mT ss → ∀ {c : Nat} {C1 : List L} {Z1 : List AObj} {b : List PV} {k : Int} {t : List V}, a9 (f5 ss) b → 0 ≤ k → (eP mT b k).2 ≤ tt → t[1]? = some (aa .i64 k) → t[2]? = some (.one (.ptr (Z1.length + (gi (f5 ss) b).length) 0 0)) → 5 ≤ c → Mn c ss < t.length →
 ∃ t', ai (ae Φ ext) aq (Mm c C1.length ss) ⟨t, Z1 ++ gi (f5 ss) b ++ [.box (C1 ++ iz Z1.length (f5 ss) b)]⟩ = some (.ret, ⟨t', Z1 ++ gi (f5 ss) (eP mT b k).1 ++ [.box (C1 ++ iz Z1.length (f5 ss) b)]⟩) ∧ t'.getD 4 (.tup []) = aa .i64 (eP mT b k).2
 | [], _, c, C1, Z1, b, k, t, hb, h0, hk, h1, h2, hc, hl => by
  obtain rfl := eL hb
  simp only [Mn] at hl
  have q2 : (t.set c (aa .i64 k)).getD c (.tup []) = aa .i64 k := az hl
  refine ⟨(t.set c (aa .i64 k)).set 4 (aa .i64 k), ?_, by simp only [eP]; exact az (by simp; omega)⟩
  simp only [Mm, ai, ag, aw, aH, bf, Opd.ev, getD_some h1, put, q2, eP]
 | .k ts :: ss, hss, c, C1, Z1, b, k, t, hb, h0, hk, h1, h2, hc, hl => by
  simp only [f5, MS.ts] at hb h2 ⊢
  obtain ⟨x, y, rfl, hx, hy⟩ := jG (ts := ts) hb
  have flat : ∀ {ts : List PTy} {x : List PV}, a9 ts x → ts.all PTy.flatT = true → gi ts x = [] ∧ ∀ k, eP mT x k = (x, k) := by
   intro ts x h
   refine fq (P := fun ts x => ts.all PTy.flatT = true → gi ts x = [] ∧ ∀ k, eP mT x k = (x, k)) (fun _ => ⟨rfl, fun _ => rfl⟩) ?_ ?_ ts x h
   ·intro us rows ts ps _ _ _ ha
    simp [PTy.flatT] at ha
   ·intro t p ts ps _ ht hp _ ih ha
    simp only [List.all_cons, Bool.and_eq_true] at ha
    obtain ⟨i1, i2⟩ := ih ha.2
    exact ⟨by rw [gq ht, i1], fun k => by rw [oq mT hp, i2]⟩
  obtain ⟨z0, m0⟩ := flat hx hss.1
  have hm : eP mT (x ++ y) k = (x ++ (eP mT y k).1, (eP mT y k).2) := by rw [j0, m0]
  have hlen : (C1 ++ iz Z1.length ts x).length = C1.length + ts.length := by rw [List.length_append, Fb hx]
  rw [GC hx, z0, List.nil_append] at h2 ⊢
  rw [IM hx, z0, hm]
  simp only [hm] at hk
  have hz2 : ∀ y', gi (ts ++ f5 ss) (x ++ y') = gi (f5 ss) y' := fun y' => by rw [GC hx, z0, List.nil_append]
  simp only [hz2, List.length_nil, Nat.add_zero]
  obtain ⟨t', r1, r2⟩ := AO ss hss.2 (c := c) (C1 := C1 ++ iz Z1.length ts x) (Z1 := Z1) hy h0 hk h1 h2 hc hl
  rw [hlen] at r1
  simp only [List.append_assoc] at r1 ⊢
  exact ⟨t', r1, r2⟩
 | .s ts f :: ss, hss, c, C1, Z1, b, k, t, hb, h0, hk, h1, h2, hc, hl => by
  simp only [f5, MS.ts] at hb h2 ⊢
  obtain ⟨x, y, rfl, hx, hy⟩ := jG (ts := ts) hb
  have hN := yn ss (c + 4)
  simp only [Mn] at hl
  simp only [j0] at hk
  have hle := lu mT y (eP mT x k).2
  have hlx := lu mT x k
  have hcl := Fb hx Z1.length
  rw [GC hx] at h2 ⊢
  rw [IM hx]
  simp only [j0, EW mT hx]
  generalize hC2 : iz (Z1.length + (gi ts x).length) (f5 ss) y = C2
  generalize hB : [AObj.box (C1 ++ (iz Z1.length ts x ++ C2))] = B
  have hcut : f4 true ts.length C1.length (C1 ++ (iz Z1.length ts x ++ C2)) = some (.agg (iz Z1.length ts x)) := by
   unfold f4
   rw [if_pos (by simp [hcl]), if_pos rfl, List.drop_left, ← hcl, List.take_left]
  obtain ⟨t1, a1, a2, a3, a4⟩ := Hz (Φ := Φ) (ext := ext) (mT := mT) (g := true) (n := ts.length) (f := f) (c := c) (m := Z1.length + (gi ts x ++ gi (f5 ss) y).length) (C1 := C1) (C2 := iz Z1.length ts x ++ C2) (Z1 := Z1) (Z2 := gi (f5 ss) y ++ B) (v := .agg (iz Z1.length ts x)) (a := .agg (GD ts x)) hx h1 h2 hc (by omega) (by
   rw [← hB]
   have : Z1 ++ gi ts x ++ (gi (f5 ss) y ++ [AObj.box (C1 ++ (iz Z1.length ts x ++ C2))]) = (Z1 ++ (gi ts x ++ gi (f5 ss) y)) ++ [AObj.box (C1 ++ (iz Z1.length ts x ++ C2))] := by simp
   rw [this, List.getElem?_append_right (by simp)]
   simp) hcut rfl (fun _ _ h => by cases h) (by
   have := J9 hx Z1 (gi (f5 ss) y ++ B)
   simp only [ro, this]) (hss.1 x hx k h0 (by omega))
  obtain ⟨t2, b1, b2⟩ := AO ss hss.2 (c := c + 4) (C1 := C1 ++ iz Z1.length ts x) (Z1 := Z1 ++ gi ts (eP mT x k).1) (b := y) (k := (eP mT x k).2) (t := t1) hy (by omega) hk a3 (by rw [a4]; simp only [List.length_append, Dl mT hx]; congr 3; omega) (by omega) (by omega)
  refine ⟨t2, ?_, b2⟩
  have hlen : (C1 ++ iz Z1.length ts x).length = C1.length + ts.length := by rw [List.length_append, hcl]
  have hpos : (Z1 ++ gi ts (eP mT x k).1).length = Z1.length + (gi ts x).length := by rw [List.length_append, Dl mT hx]
  rw [hlen, hpos, hC2] at b1
  simp only [Mm, ai, List.append_assoc] at a1 b1 ⊢
  rw [hB] at b1
  rw [a1]
  exact b1
 | .l us f :: ss, hss, c, C1, Z1, b, k, t, hb, h0, hk, h1, h2, hc, hl => by
  simp only [f5, MS.ts] at hb h2 ⊢
  obtain ⟨x, y, rfl, hx, hy⟩ := jG (ts := [.lst us]) hb
  have hN := yn ss (c + 4)
  simp only [Mn] at hl
  simp only [j0] at hk
  have hle := lu mT y (eP mT x k).2
  have hlx := lu mT x k
  have hcl := Fb hx Z1.length
  have hx' := hx
  obtain ⟨p, x', rfl, hp, hn⟩ := dk hx'
  obtain rfl := eL hn
  obtain ⟨rows, rfl⟩ := mn hp
  rw [GC hx] at h2 ⊢
  rw [IM hx]
  simp only [j0, EW mT hx]
  generalize hC2 : iz (Z1.length + (gi [.lst us] [.lst rows]).length) (f5 ss) y = C2
  generalize hB : [AObj.box (C1 ++ (iz Z1.length [.lst us] [.lst rows] ++ C2))] = B
  have hcut : f4 false 1 C1.length (C1 ++ (iz Z1.length [.lst us] [.lst rows] ++ C2)) = some (.one (.arr Z1.length)) := by
   simp [f4, iz]
  obtain ⟨t1, a1, a2, a3, a4⟩ := Hz (Φ := Φ) (ext := ext) (mT := mT) (g := false) (n := 1) (f := f) (c := c) (m := Z1.length + (gi [.lst us] [.lst rows] ++ gi (f5 ss) y).length) (C1 := C1) (C2 := iz Z1.length [.lst us] [.lst rows] ++ C2) (Z1 := Z1) (Z2 := gi (f5 ss) y ++ B) (v := .one (.arr Z1.length)) (a := .one (.down us.length rows)) hx h1 h2 hc (by omega) (by
   rw [← hB]
   have : Z1 ++ gi [.lst us] [.lst rows] ++ (gi (f5 ss) y ++ [AObj.box (C1 ++ (iz Z1.length [.lst us] [.lst rows] ++ C2))]) = (Z1 ++ (gi [.lst us] [.lst rows] ++ gi (f5 ss) y)) ++ [AObj.box (C1 ++ (iz Z1.length [.lst us] [.lst rows] ++ C2))] := by simp
   rw [this, List.getElem?_append_right (by simp)]
   simp) hcut rfl (fun _ _ h => by cases h) (by
   have := J9 hx Z1 (gi (f5 ss) y ++ B)
   simp only [iz, GD, kA] at this
   split at this
   ·rename_i a b h1 h2
    cases this
    cases h2
    simp only [ro, h1]
   ·cases this) (by
   simp only [eP] at hle hlx hk ⊢
   exact hss.1.2 rows hp k h0 (by omega))
  obtain ⟨t2, b1, b2⟩ := AO ss hss.2 (c := c + 4) (C1 := C1 ++ iz Z1.length [.lst us] [.lst rows]) (Z1 := Z1 ++ gi [.lst us] (eP mT [.lst rows] k).1) (b := y) (k := (eP mT [.lst rows] k).2) (t := t1) hy (by omega) hk a3 (by rw [a4]; simp only [List.length_append, Dl mT hx]; congr 3; omega) (by omega) (by omega)
  refine ⟨t2, ?_, b2⟩
  have hlen : (C1 ++ iz Z1.length [.lst us] [.lst rows]).length = C1.length + 1 := by rw [List.length_append, hcl]; rfl
  have hpos : (Z1 ++ gi [.lst us] (eP mT [.lst rows] k).1).length = Z1.length + (gi [.lst us] [.lst rows]).length := by rw [List.length_append, Dl mT hx]
  rw [hlen, hpos, hC2] at b1
  simp only [Mm, ai, List.append_assoc] at a1 b1 ⊢
  rw [hB] at b1
  rw [a1]
  exact b1
theorem wi {f : Nat} {ss : List MS} (hk : Φ f = some (oX ss)) (hn : Φ (f + jn) = none) (hss : GH Φ ext mT ss) : KL Φ ext mT f (f5 ss) := by
 intro row hr k h0 hk2
 have hN := yn ss 5
 obtain ⟨m, hm⟩ : ∃ m, Mn 5 ss + 1 - 2 = m + 4 := ⟨Mn 5 ss - 5, by omega⟩
 have hz : (oX ss).body.noZ = true := by
  simp only [oX, ACode.noZ, AP, Bool.and_true]
  rfl
 refine qP hn hk hz ?_
 obtain ⟨ds, d1, d2⟩ := Ox hr []
 simp only [List.length_nil, List.nil_append] at d1
 have hA : cS [] [.agg (GD (f5 ss) row), aa .i64 k] = ([.agg (iz 0 (f5 ss) row), aa .i64 k], ds) := by
  simp only [cS, thaw, d1, thawL]
 have hst : gU (oX ss) [.agg (GD (f5 ss) row), aa .i64 k] = ⟨.agg (iz 0 (f5 ss) row) :: aa .i64 k :: List.replicate (m + 4) (.tup []), gi (f5 ss) row⟩ := by
  simp only [gU, hA, d2, oX, List.length_cons, List.length_nil, List.cons_append, List.nil_append, hm]
 have hlen : ds.length = (gi (f5 ss) row).length := by rw [← d2]; simp
 let t0 : List V := .agg (iz 0 (f5 ss) row) :: aa .i64 k :: .one (.ptr (gi (f5 ss) row).length 0 0) :: .tup [] :: aa .i64 0 :: List.replicate (m + 1) (.tup [])
 have hl0 : t0.length = Mn 5 ss + 1 := by simp [t0]; omega
 obtain ⟨t', a1, a2⟩ := AO (Φ := Φ) (ext := ext) ss hss (c := 5) (C1 := []) (Z1 := []) (b := row) (k := k) (t := t0) hr h0 hk2 rfl (by simp [t0]) (Nat.le_refl _) (by omega)
 simp only [List.length_nil, List.nil_append] at a1
 have hrun : fe Φ ext (oX ss).body (gU (oX ss) [.agg (GD (f5 ss) row), aa .i64 k]) = some (.ret, ⟨t', gi (f5 ss) (eP mT row k).1 ++ [.box (iz 0 (f5 ss) row)]⟩) := by
  rw [hst]
  have hrep : List.replicate (m + 4) (V.tup []) = .tup [] :: .tup [] :: .tup [] :: List.replicate (m + 1) (.tup []) := rfl
  simp only [t0] at a1
  simp only [fe, oX, hrep, ai, ag, aw, aH, bf, bW, Opd.ev, put, List.getD_cons_zero, V.cells, ML hr, if_true, List.set_cons_succ, List.set_cons_zero]
  exact a1
 have htake : (gi (f5 ss) (eP mT row k).1 ++ [AObj.box (iz 0 (f5 ss) row)]).take ds.length = gi (f5 ss) (eP mT row k).1 := by
  rw [hlen, ← Dl mT hr k, List.take_left]
 rw [hrun]
 simp only [tc, DW, oX, aR, au, bw, a2, List.flatMap_cons, List.flatMap_nil, List.append_nil, V.cells, bO, comp, aJ, br, hA, htake, Oq mT hr, L.flat, if_true]
 rfl
end
def wZ : Nat → Nat → List UInt8 → List UInt8
 | 0, _, o => o
 | n + 1, k, o => if k = 0 then o else wZ n (k / 10) (UInt8.ofNat (48 + k % 10) :: o)
def al (k : Int) : List UInt8 := if k ≤ 0 then [109, 48] else 109 :: wZ 13 k.toNat []
theorem G1 : ∀ (n k : Nat) (o : List UInt8), (wZ n k o).length ≤ n + o.length
 | 0, k, o => by simp [wZ]
 | n + 1, k, o => by
  simp only [wZ]
  split
  ·omega
  ·have := G1 n (k / 10) (UInt8.ofNat (48 + k % 10) :: o)
   simp only [List.length_cons] at this
   omega
def Pw : ACode := .seq (.seq (.region [⟨some 6, .mv (.tmp 0), none⟩, ⟨some 7, .bin .gtr (.tmp 6) (.pv (.int .i64 0)), none⟩]) (.cond (.tmp 7) .skip (.exit 0))) (.block 1 (.seq (.region [⟨some 8, .mv (.tmp 0), none⟩, ⟨some 9, .bin .rem (.tmp 8) (.pv (.int .i64 10)), none⟩, ⟨some 10, .bin .add (.pv (.int .i64 48)) (.tmp 9), none⟩, ⟨some 11, .conv .u8 (.tmp 10), none⟩, ⟨some 12, .buildS 1 [.tmp 11], none⟩, ⟨some 13, .b2s (.tmp 12), none⟩, ⟨some 14, .mv (.tmp 3), none⟩, ⟨some 15, .bin .add (.tmp 13) (.tmp 14), none⟩, ⟨some 3, .mv (.tmp 15), none⟩]) (.region [⟨some 16, .mv (.tmp 0), none⟩, ⟨some 17, .bin .quo (.tmp 16) (.pv (.int .i64 10)), none⟩, ⟨some 0, .mv (.tmp 17), none⟩])))
def Qb : AFn := ⟨20, [.tmp 2], .seq (.region [⟨some 2, .mv (.pv (.str [])), none⟩]) (.seq (.seq (.region [⟨some 4, .mv (.tmp 0), none⟩, ⟨some 5, .bin .leq (.tmp 4) (.pv (.int .i64 0)), none⟩]) (.cond (.tmp 5) (.seq (.region [⟨some 2, .mv (.pv (.str [109, 48])), none⟩]) .ret) .skip)) (.seq (.region [⟨some 3, .mv (.pv (.str [])), none⟩]) (.seq (.block 0 (.loop Pw)) (.seq (.region [⟨some 18, .mv (.tmp 3), none⟩, ⟨some 19, .bin .add (.pv (.str [109])) (.tmp 18), none⟩, ⟨some 2, .mv (.tmp 19), none⟩]) .ret))))⟩
section
variable {Φ : Nat → Option AFn} {ext : Nat → List V → Option V}
theorem OA : ∀ (n k : Nat), k < 10 ^ n → k < 9223372036854775807 → ∀ (o : List UInt8), o.length + n ≤ 1000 → ∀ (u1 u2 u4 u5 u6 u7 u8 u9 u10 u11 u12 u13 u14 u15 u16 u17 u18 u19 : V) (h : List AObj),
 ∃ w1 w2 w4 w5 w6 w7 w8 w9 w10 w11 w12 w13 w14 w15 w16 w17 w18 w19 h', aq (ai (ae Φ ext) aq Pw) ⟨[aa .i64 k, u1, u2, dM o, u4, u5, u6, u7, u8, u9, u10, u11, u12, u13, u14, u15, u16, u17, u18, u19], h⟩ = some (.exit 0, ⟨[aa .i64 0, w1, w2, dM (wZ n k o), w4, w5, w6, w7, w8, w9, w10, w11, w12, w13, w14, w15, w16, w17, w18, w19], h'⟩) := by
 intro n
 induction n with
 | zero =>
  intro k hk hk2 o ho u1 u2 u4 u5 u6 u7 u8 u9 u10 u11 u12 u13 u14 u15 u16 u17 u18 u19 h
  obtain rfl : k = 0 := by simpa using hk
  refine ⟨u1, u2, u4, u5, aa .i64 0, ar false, u8, u9, u10, u11, u12, u13, u14, u15, u16, u17, u18, u19, h, gf ?_ (by simp)⟩
  simp [Pw, ai, ag, aw, aH, bf, Opd.ev, put, bin, bC, isBool, wZ]
 | succ n ih =>
  intro k hk hk2 o ho u1 u2 u4 u5 u6 u7 u8 u9 u10 u11 u12 u13 u14 u15 u16 u17 u18 u19 h
  by_cases h0 : k = 0
  ·subst h0
   refine ⟨u1, u2, u4, u5, aa .i64 0, ar false, u8, u9, u10, u11, u12, u13, u14, u15, u16, u17, u18, u19, h, gf ?_ (by simp)⟩
   simp [Pw, ai, ag, aw, aH, bf, Opd.ev, put, bin, bC, isBool, wZ]
  ·have hpos : (0 : Int) < (k : Int) := by omega
   have hm : (k : Int).tmod 10 = ((k % 10 : Nat) : Int) := by
    rw [Int.tmod_eq_emod_of_nonneg (by omega)]; omega
   have hq : (k : Int).tdiv 10 = ((k / 10 : Nat) : Int) := by
    rw [Int.tdiv_eq_ediv_of_nonneg (by omega)]; omega
   have hw1 : IntKind.i64.wrap (48 + ((k % 10 : Nat) : Int)) = ((48 + k % 10 : Nat) : Int) := by rw [IntKind.wrap_i64]; omega
   have hw2 : IntKind.u8.wrap ((48 + k % 10 : Nat) : Int) = ((48 + k % 10 : Nat) : Int) := by rw [IntKind.wrap_u8]; omega
   have hw3 : IntKind.i64.wrap ((k / 10 : Nat) : Int) = ((k / 10 : Nat) : Int) := by rw [IntKind.wrap_i64]; omega
   have hlt : k / 10 < 10 ^ n := by
    rw [Nat.pow_succ] at hk
    omega
   have hlen : ([UInt8.ofNat (48 + k % 10)] : List UInt8).length + o.length ≤ 9223372036854775807 := by simp; omega
   obtain ⟨w1, w2, w4, w5, w6, w7, w8, w9, w10, w11, w12, w13, w14, w15, w16, w17, w18, w19, h', e⟩ := ih (k / 10) hlt (by omega) (UInt8.ofNat (48 + k % 10) :: o) (by simp; omega) u1 u2 u4 u5 (aa .i64 k) (ar true) (aa .i64 k) (aa .i64 ((k % 10 : Nat) : Int)) (aa .i64 ((48 + k % 10 : Nat) : Int)) (aa .u8 ((48 + k % 10 : Nat) : Int)) (.one (.arr h.length)) (dM [UInt8.ofNat (48 + k % 10)]) (dM o) (dM (UInt8.ofNat (48 + k % 10) :: o)) (aa .i64 k) (aa .i64 ((k / 10 : Nat) : Int)) u18 u19 (h ++ [.arr 1 [[.int .u8 ((48 + k % 10 : Nat) : Int)]]])
   refine ⟨w1, w2, w4, w5, w6, w7, w8, w9, w10, w11, w12, w13, w14, w15, w16, w17, w18, w19, h', (fv ?_).trans (e.trans ?_)⟩
   ·have hbs : oT [[PV.int .u8 ((48 + k % 10 : Nat) : Int)]] = some [UInt8.ofNat (48 + k % 10)] := by
     simp only [oT, Int.toNat_natCast]
    have hvr : aT h [aa .u8 ((48 + k % 10 : Nat) : Int)] = some [[.int .u8 ((48 + k % 10 : Nat) : Int)]] := rfl
    have hfz : freezeVs h [aa .u8 ((48 + k % 10 : Nat) : Int)] = h := rfl
    have hal : asList (h ++ [AObj.arr 1 [[.int .u8 ((48 + k % 10 : Nat) : Int)]]]) (.one (.arr h.length)) = some [[.int .u8 ((48 + k % 10 : Nat) : Int)]] := by
     simp [asList, L.view]
    have hbp : decide ((0 : Int) < (k : Int)) = true := decide_eq_true hpos
    have h10 : ¬ ((10 : Int) = 0) := by decide
    have hc1 : (([aa .u8 ((48 + k % 10 : Nat) : Int)] : List V).all (fun v => v.cells.length == 1) && decide (0 < 1) && decide (([aa .u8 ((48 + k % 10 : Nat) : Int)] : List V).length * 1 ≤ 16777216)) = true := rfl
    simp only [Pw, ai, ag, aw, aH, bf, bW, Opd.ev, put, List.getD_cons_zero, List.getD_cons_succ, List.set_cons_succ, List.set_cons_zero, bin, bC, ie, if_true, if_neg h10, hbp, isBool, isInt, List.map_cons, List.map_nil, hm, hw1, hw2, hc1, hvr, hfz, hal, hbs, hlen, hq, hw3, List.cons_append, List.nil_append]
   ·simp only [wZ, if_neg h0]
theorem Pn {f : Nat} (hk : Φ f = some Qb) : zv Φ ext al f := by
 intro k h0 hM
 refine eN hk ?_
 by_cases hz : k ≤ 0
 ·have hb : decide (k ≤ 0) = true := decide_eq_true hz
  simp [Qb, bt, fe, ai, ag, aw, aH, bf, Opd.ev, put, bin, bC, hb, isBool, done, aR, au, bw, bO, comp, aJ, br, ah, V.cells, al, hz]
 ·have hb : decide (k ≤ 0) = false := decide_eq_false hz
  obtain ⟨n, rfl⟩ : ∃ n : Nat, k = n := ⟨k.toNat, by omega⟩
  unfold tt at hM
  have hdl := G1 13 n []
  have hlen : ([109] : List UInt8).length + (wZ 13 n []).length ≤ 9223372036854775807 := by simp at hdl ⊢; omega
  have hlen' : 1 + (wZ 13 n []).length ≤ 9223372036854775807 := by simpa using hlen
  generalize hlp : aq (ai (ae Φ ext) aq Pw) = lp
  have hloop : ∀ u1 u2 u4 u5 u6 u7 u8 u9 u10 u11 u12 u13 u14 u15 u16 u17 u18 u19 h, ∃ w1 w2 w4 w5 w6 w7 w8 w9 w10 w11 w12 w13 w14 w15 w16 w17 w18 w19 h', lp ⟨[aa .i64 n, u1, u2, dM [], u4, u5, u6, u7, u8, u9, u10, u11, u12, u13, u14, u15, u16, u17, u18, u19], h⟩ = some (.exit 0, ⟨[aa .i64 0, w1, w2, dM (wZ 13 n []), w4, w5, w6, w7, w8, w9, w10, w11, w12, w13, w14, w15, w16, w17, w18, w19], h'⟩) := by
   rw [← hlp]
   exact OA (Φ := Φ) (ext := ext) 13 n (by omega) (by omega) [] (by simp)
  obtain ⟨w1, w2, w4, w5, w6, w7, w8, w9, w10, w11, w12, w13, w14, w15, w16, w17, w18, w19, h', e⟩ := hloop (.tup []) (dM []) (aa .i64 n) (ar false) (.tup []) (.tup []) (.tup []) (.tup []) (.tup []) (.tup []) (.tup []) (.tup []) (.tup []) (.tup []) (.tup []) (.tup []) (.tup []) (.tup []) []
  have hm : al (n : Int) = 109 :: wZ 13 n [] := by simp only [al, if_neg hz, Int.toNat_natCast]
  rw [hm]
  simp only [Qb, bt, fe, ai, hlp, List.length_singleton, Nat.reduceSub, List.replicate, List.cons_append, List.nil_append, ag, aw, aH, bf, Opd.ev, put, List.getD_cons_zero, List.getD_cons_succ, List.set_cons_succ, List.set_cons_zero, bin, bC, hb, if_true, isBool, Bool.false_eq_true, if_false, e, ie, hlen]
  simp [hlen', done, aR, au, bw, bO, comp, aJ, br, ah, V.cells]
end
end Gi
