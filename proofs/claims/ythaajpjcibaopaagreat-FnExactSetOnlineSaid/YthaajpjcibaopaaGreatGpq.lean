/- Of this proof. -/
import Derived.Test.YthaajpjcibaopaaGreatGpo
namespace Gi
open Go Go.RowKit
set_option linter.unusedVariables false
set_option linter.unusedSimpArgs false
inductive MS where
 | k (ts : List PTy)
 | s (ts : List PTy) (f : Nat)
 | l (us : List PTy) (f : Nat)
def MS.ts : MS → List PTy
 | .k ts => ts
 | .s ts _ => ts
 | .l us _ => [.lst us]
def msTs : List MS → List PTy
 | [] => []
 | s :: ss => s.ts ++ msTs ss
def mkI (c off : Nat) (g : Bool) (n f : Nat) : List AOper := [⟨some c, .fieldA (.tmp 2) off, none⟩, ⟨some (c + 1), .loadZ g n (.tmp c), none⟩, ⟨some (c + 2), .mv (.tmp 1), none⟩, ⟨some (c + 3), .callM f (.tmp (c + 1)) (.tmp (c + 2)), none⟩, ⟨some 1, .mv (.tmp (c + 3)), none⟩]
def mkC : Nat → Nat → List MS → ACode
 | c, _, [] => .seq (.region [⟨some c, .mv (.tmp 1), none⟩, ⟨some 4, .mv (.tmp c), none⟩]) .ret
 | c, off, .k ts :: ss => mkC c (off + ts.length) ss
 | c, off, .s ts f :: ss => .seq (.region (mkI c off true ts.length f)) (mkC (c + 4) (off + ts.length) ss)
 | c, off, .l _ f :: ss => .seq (.region (mkI c off false 1 f)) (mkC (c + 4) (off + 1) ss)
def mkN : Nat → List MS → Nat
 | c, [] => c
 | c, .k _ :: ss => mkN c ss
 | c, _ :: ss => mkN (c + 4) ss
def markG (ss : List MS) : AFn := ⟨mkN 5 ss + 1, [.tmp 4], .seq (.region [⟨some 2, .box (.tmp 0), none⟩, ⟨some 4, .mv (.pv (.int .i64 0)), none⟩]) (mkC 5 0 ss)⟩
theorem noZ_mkC : ∀ (ss : List MS) (c off : Nat), (mkC c off ss).noZ = true
 | [], c, off => rfl
 | .k ts :: ss, c, off => noZ_mkC ss c _
 | .s ts f :: ss, c, off => by simp only [mkC, ACode.noZ, noZ_mkC ss, Bool.and_true]; rfl
 | .l us f :: ss, c, off => by simp only [mkC, ACode.noZ, noZ_mkC ss, Bool.and_true]; rfl
theorem mkN_le : ∀ (ss : List MS) (c : Nat), c ≤ mkN c ss
 | [], c => Nat.le_refl _
 | .k ts :: ss, c => mkN_le ss c
 | .s ts f :: ss, c => Nat.le_trans (by omega) (mkN_le ss (c + 4))
 | .l us f :: ss, c => Nat.le_trans (by omega) (mkN_le ss (c + 4))
section
variable {Φ : Nat → Option AFn} {ext : Nat → List V → Option V} {mT : Int → List UInt8} {mt : Nat}
def MsOK (Φ : Nat → Option AFn) (ext : Nat → List V → Option V) (mT : Int → List UInt8) (f : Nat) (ts : List PTy) : Prop :=
 ∀ row : List PV, HasL ts row → ∀ k : Int, 0 ≤ k → (msL mT row k).2 ≤ mkM → callL Φ ext (f + modK) [.agg (dnL ts row), vint .i64 k] = some (.tup ((false, [.pv (.int .i64 (msL mT row k).2)]) :: ouL ts (msL mT row k).1))
def MssOK (Φ : Nat → Option AFn) (ext : Nat → List V → Option V) (mT : Int → List UInt8) : List MS → Prop
 | [] => True
 | .k ts :: ss => ts.all PTy.flatT = true ∧ MssOK Φ ext mT ss
 | .s ts f :: ss => MsOK Φ ext mT f ts ∧ MssOK Φ ext mT ss
 | .l us f :: ss => MkOK Φ ext mT f us ∧ MssOK Φ ext mT ss
theorem item_run {g : Bool} {n f c m : Nat} {C1 C2 : List L} {Z1 Z2 : List AObj} {ts : List PTy} {x : List PV} {v a : V} {k : Int} {t : List V} (hx : HasL ts x) (h1 : t[1]? = some (vint .i64 k)) (h2 : t[2]? = some (.one (.ptr m 0 0))) (hc : 5 ≤ c) (hl : c + 3 < t.length)
 (hb : (Z1 ++ zsL ts x ++ Z2)[m]? = some (.box (C1 ++ C2))) (hcut : cut g n C1.length (C1 ++ C2) = some v) (hv : v.cells = ceL Z1.length ts x) (hsub : ∀ o c, v ≠ .one (.sub o c)) (hlend : lendV (Z1 ++ zsL ts x ++ Z2) v = some a) (hcall : callL Φ ext (f + modK) [a, vint .i64 k] = some (.tup ((false, [.pv (.int .i64 (msL mT x k).2)]) :: ouL ts (msL mT x k).1))) :
 ∃ t', execOps (callL Φ ext) (mkI c C1.length g n f) ⟨t, Z1 ++ zsL ts x ++ Z2⟩ = some ⟨t', Z1 ++ zsL ts (msL mT x k).1 ++ Z2⟩ ∧ t'.length = t.length ∧ t'[1]? = some (vint .i64 (msL mT x k).2) ∧ t'[2]? = some (.one (.ptr m 0 0)) := by
 have e1 := getD_some h1
 have e2 := getD_some h2
 have q1 : (t.set c (V.one (.ptr m 0 C1.length))).getD c (.tup []) = .one (.ptr m 0 C1.length) := getD_set (by omega)
 have q2 : ((t.set c (V.one (.ptr m 0 C1.length))).set (c + 1) v).getD 1 (.tup []) = vint .i64 k := (getD_ne (by omega)).trans ((getD_ne (by omega)).trans e1)
 have q3 : (((t.set c (V.one (.ptr m 0 C1.length))).set (c + 1) v).set (c + 2) (vint .i64 k)).getD (c + 1) (.tup []) = v := (getD_ne (by omega)).trans (getD_set (by simp; omega))
 have q4 : (((t.set c (V.one (.ptr m 0 C1.length))).set (c + 1) v).set (c + 2) (vint .i64 k)).getD (c + 2) (.tup []) = vint .i64 k := getD_set (by simp; omega)
 have q5 : ((((t.set c (V.one (.ptr m 0 C1.length))).set (c + 1) v).set (c + 2) (vint .i64 k)).set (c + 3) (vint .i64 (msL mT x k).2)).getD (c + 3) (.tup []) = vint .i64 (msL mT x k).2 := getD_set (by simp; omega)
 have hnd : (arrsOf v.cells).Nodup := by rw [hv]; exact (arrs_ge hx _).1
 have hput := put_ou mT hx Z1 Z2 k
 rw [← hv] at hput
 have hM : callMV (callL Φ ext) (Z1 ++ zsL ts x ++ Z2) f v k = some (vint .i64 (msL mT x k).2, Z1 ++ zsL ts (msL mT x k).1 ++ Z2) := by
  unfold callMV
  split
  ·rename_i o cc; exact absurd rfl (hsub o cc)
  ·simp only [hnd, if_true, hlend, hcall, L.flat, hput]
 refine ⟨((((t.set c (V.one (.ptr m 0 C1.length))).set (c + 1) v).set (c + 2) (vint .i64 k)).set (c + 3) (vint .i64 (msL mT x k).2)).set 1 (vint .i64 (msL mT x k).2), ?_, by simp, List.getElem?_set_self (by simp; omega), by rw [List.getElem?_set_ne (by omega), List.getElem?_set_ne (by omega), List.getElem?_set_ne (by omega), List.getElem?_set_ne (by omega), List.getElem?_set_ne (by omega)]; exact h2⟩
 simp only [mkI, execOps, stepO, wants, fop, eop, Opd.ev, e2, put, Nat.zero_add, q1, loadZV, hb, loadV, if_true, hcut, q2, q3, q4, hM, q5]
theorem mkC_run : ∀ (ss : List MS), MssOK Φ ext mT ss → ∀ {c : Nat} {C1 : List L} {Z1 : List AObj} {b : List PV} {k : Int} {t : List V}, HasL (msTs ss) b → 0 ≤ k → (msL mT b k).2 ≤ mkM → t[1]? = some (vint .i64 k) → t[2]? = some (.one (.ptr (Z1.length + (zsL (msTs ss) b).length) 0 0)) → 5 ≤ c → mkN c ss < t.length →
 ∃ t', exec (callL Φ ext) loopL (mkC c C1.length ss) ⟨t, Z1 ++ zsL (msTs ss) b ++ [.box (C1 ++ ceL Z1.length (msTs ss) b)]⟩ = some (.ret, ⟨t', Z1 ++ zsL (msTs ss) (msL mT b k).1 ++ [.box (C1 ++ ceL Z1.length (msTs ss) b)]⟩) ∧ t'.getD 4 (.tup []) = vint .i64 (msL mT b k).2
 | [], _, c, C1, Z1, b, k, t, hb, h0, hk, h1, h2, hc, hl => by
  obtain rfl := HasL_nil hb
  simp only [mkN] at hl
  have q2 : (t.set c (vint .i64 k)).getD c (.tup []) = vint .i64 k := getD_set hl
  refine ⟨(t.set c (vint .i64 k)).set 4 (vint .i64 k), ?_, by simp only [msL]; exact getD_set (by simp; omega)⟩
  simp only [mkC, exec, execOps, stepO, wants, fop, Opd.ev, getD_some h1, put, q2, msL]
 | .k ts :: ss, hss, c, C1, Z1, b, k, t, hb, h0, hk, h1, h2, hc, hl => by
  simp only [msTs, MS.ts] at hb h2 ⊢
  obtain ⟨x, y, rfl, hx, hy⟩ := HasL_app (ts := ts) hb
  have flat : ∀ {ts : List PTy} {x : List PV}, HasL ts x → ts.all PTy.flatT = true → zsL ts x = [] ∧ ∀ k, msL mT x k = (x, k) := by
   intro ts x h
   refine row_ind (P := fun ts x => ts.all PTy.flatT = true → zsL ts x = [] ∧ ∀ k, msL mT x k = (x, k)) (fun _ => ⟨rfl, fun _ => rfl⟩) ?_ ?_ ts x h
   ·intro us rows ts ps _ _ _ ha
    simp [PTy.flatT] at ha
   ·intro t p ts ps _ ht hp _ ih ha
    simp only [List.all_cons, Bool.and_eq_true] at ha
    obtain ⟨i1, i2⟩ := ih ha.2
    exact ⟨by rw [zsL_flat ht, i1], fun k => by rw [msL_flat mT hp, i2]⟩
  obtain ⟨z0, m0⟩ := flat hx hss.1
  have hm : msL mT (x ++ y) k = (x ++ (msL mT y k).1, (msL mT y k).2) := by rw [msL_app, m0]
  have hlen : (C1 ++ ceL Z1.length ts x).length = C1.length + ts.length := by rw [List.length_append, ceL_len hx]
  rw [zs_app hx, z0, List.nil_append] at h2 ⊢
  rw [ce_app hx, z0, hm]
  simp only [hm] at hk
  have hz2 : ∀ y', zsL (ts ++ msTs ss) (x ++ y') = zsL (msTs ss) y' := fun y' => by rw [zs_app hx, z0, List.nil_append]
  simp only [hz2, List.length_nil, Nat.add_zero]
  obtain ⟨t', r1, r2⟩ := mkC_run ss hss.2 (c := c) (C1 := C1 ++ ceL Z1.length ts x) (Z1 := Z1) hy h0 hk h1 h2 hc hl
  rw [hlen] at r1
  simp only [List.append_assoc] at r1 ⊢
  exact ⟨t', r1, r2⟩
 | .s ts f :: ss, hss, c, C1, Z1, b, k, t, hb, h0, hk, h1, h2, hc, hl => by
  simp only [msTs, MS.ts] at hb h2 ⊢
  obtain ⟨x, y, rfl, hx, hy⟩ := HasL_app (ts := ts) hb
  have hN := mkN_le ss (c + 4)
  simp only [mkN] at hl
  simp only [msL_app] at hk
  have hle := msL_le mT y (msL mT x k).2
  have hlx := msL_le mT x k
  have hcl := ceL_len hx Z1.length
  rw [zs_app hx] at h2 ⊢
  rw [ce_app hx]
  simp only [msL_app, zs_ms_app mT hx]
  generalize hC2 : ceL (Z1.length + (zsL ts x).length) (msTs ss) y = C2
  generalize hB : [AObj.box (C1 ++ (ceL Z1.length ts x ++ C2))] = B
  have hcut : cut true ts.length C1.length (C1 ++ (ceL Z1.length ts x ++ C2)) = some (.agg (ceL Z1.length ts x)) := by
   unfold cut
   rw [if_pos (by simp [hcl]), if_pos rfl, List.drop_left, ← hcl, List.take_left]
  obtain ⟨t1, a1, a2, a3, a4⟩ := item_run (Φ := Φ) (ext := ext) (mT := mT) (g := true) (n := ts.length) (f := f) (c := c) (m := Z1.length + (zsL ts x ++ zsL (msTs ss) y).length) (C1 := C1) (C2 := ceL Z1.length ts x ++ C2) (Z1 := Z1) (Z2 := zsL (msTs ss) y ++ B) (v := .agg (ceL Z1.length ts x)) (a := .agg (dnL ts x)) hx h1 h2 hc (by omega) (by
   rw [← hB]
   have : Z1 ++ zsL ts x ++ (zsL (msTs ss) y ++ [AObj.box (C1 ++ (ceL Z1.length ts x ++ C2))]) = (Z1 ++ (zsL ts x ++ zsL (msTs ss) y)) ++ [AObj.box (C1 ++ (ceL Z1.length ts x ++ C2))] := by simp
   rw [this, List.getElem?_append_right (by simp)]
   simp) hcut rfl (fun _ _ h => by cases h) (by
   have := lend_ce hx Z1 (zsL (msTs ss) y ++ B)
   simp only [lendV, this]) (hss.1 x hx k h0 (by omega))
  obtain ⟨t2, b1, b2⟩ := mkC_run ss hss.2 (c := c + 4) (C1 := C1 ++ ceL Z1.length ts x) (Z1 := Z1 ++ zsL ts (msL mT x k).1) (b := y) (k := (msL mT x k).2) (t := t1) hy (by omega) hk a3 (by rw [a4]; simp only [List.length_append, zs_len mT hx]; congr 3; omega) (by omega) (by omega)
  refine ⟨t2, ?_, b2⟩
  have hlen : (C1 ++ ceL Z1.length ts x).length = C1.length + ts.length := by rw [List.length_append, hcl]
  have hpos : (Z1 ++ zsL ts (msL mT x k).1).length = Z1.length + (zsL ts x).length := by rw [List.length_append, zs_len mT hx]
  rw [hlen, hpos, hC2] at b1
  simp only [mkC, exec, List.append_assoc] at a1 b1 ⊢
  rw [hB] at b1
  rw [a1]
  exact b1
 | .l us f :: ss, hss, c, C1, Z1, b, k, t, hb, h0, hk, h1, h2, hc, hl => by
  simp only [msTs, MS.ts] at hb h2 ⊢
  obtain ⟨x, y, rfl, hx, hy⟩ := HasL_app (ts := [.lst us]) hb
  have hN := mkN_le ss (c + 4)
  simp only [mkN] at hl
  simp only [msL_app] at hk
  have hle := msL_le mT y (msL mT x k).2
  have hlx := msL_le mT x k
  have hcl := ceL_len hx Z1.length
  have hx' := hx
  obtain ⟨p, x', rfl, hp, hn⟩ := HasL_cons hx'
  obtain rfl := HasL_nil hn
  obtain ⟨rows, rfl⟩ := Has_lst hp
  rw [zs_app hx] at h2 ⊢
  rw [ce_app hx]
  simp only [msL_app, zs_ms_app mT hx]
  generalize hC2 : ceL (Z1.length + (zsL [.lst us] [.lst rows]).length) (msTs ss) y = C2
  generalize hB : [AObj.box (C1 ++ (ceL Z1.length [.lst us] [.lst rows] ++ C2))] = B
  have hcut : cut false 1 C1.length (C1 ++ (ceL Z1.length [.lst us] [.lst rows] ++ C2)) = some (.one (.arr Z1.length)) := by
   simp [cut, ceL]
  obtain ⟨t1, a1, a2, a3, a4⟩ := item_run (Φ := Φ) (ext := ext) (mT := mT) (g := false) (n := 1) (f := f) (c := c) (m := Z1.length + (zsL [.lst us] [.lst rows] ++ zsL (msTs ss) y).length) (C1 := C1) (C2 := ceL Z1.length [.lst us] [.lst rows] ++ C2) (Z1 := Z1) (Z2 := zsL (msTs ss) y ++ B) (v := .one (.arr Z1.length)) (a := .one (.down us.length rows)) hx h1 h2 hc (by omega) (by
   rw [← hB]
   have : Z1 ++ zsL [.lst us] [.lst rows] ++ (zsL (msTs ss) y ++ [AObj.box (C1 ++ (ceL Z1.length [.lst us] [.lst rows] ++ C2))]) = (Z1 ++ (zsL [.lst us] [.lst rows] ++ zsL (msTs ss) y)) ++ [AObj.box (C1 ++ (ceL Z1.length [.lst us] [.lst rows] ++ C2))] := by simp
   rw [this, List.getElem?_append_right (by simp)]
   simp) hcut rfl (fun _ _ h => by cases h) (by
   have := lend_ce hx Z1 (zsL (msTs ss) y ++ B)
   simp only [ceL, dnL, lendLs] at this
   split at this
   ·rename_i a b h1 h2
    cases this
    cases h2
    simp only [lendV, h1]
   ·cases this) (by
   simp only [msL] at hle hlx hk ⊢
   exact hss.1.2 rows hp k h0 (by omega))
  obtain ⟨t2, b1, b2⟩ := mkC_run ss hss.2 (c := c + 4) (C1 := C1 ++ ceL Z1.length [.lst us] [.lst rows]) (Z1 := Z1 ++ zsL [.lst us] (msL mT [.lst rows] k).1) (b := y) (k := (msL mT [.lst rows] k).2) (t := t1) hy (by omega) hk a3 (by rw [a4]; simp only [List.length_append, zs_len mT hx]; congr 3; omega) (by omega) (by omega)
  refine ⟨t2, ?_, b2⟩
  have hlen : (C1 ++ ceL Z1.length [.lst us] [.lst rows]).length = C1.length + 1 := by rw [List.length_append, hcl]; rfl
  have hpos : (Z1 ++ zsL [.lst us] (msL mT [.lst rows] k).1).length = Z1.length + (zsL [.lst us] [.lst rows]).length := by rw [List.length_append, zs_len mT hx]
  rw [hlen, hpos, hC2] at b1
  simp only [mkC, exec, List.append_assoc] at a1 b1 ⊢
  rw [hB] at b1
  rw [a1]
  exact b1
theorem markG_ok {f : Nat} {ss : List MS} (hk : Φ f = some (markG ss)) (hn : Φ (f + modK) = none) (hss : MssOK Φ ext mT ss) : MsOK Φ ext mT f (msTs ss) := by
 intro row hr k h0 hk2
 have hN := mkN_le ss 5
 obtain ⟨m, hm⟩ : ∃ m, mkN 5 ss + 1 - 2 = m + 4 := ⟨mkN 5 ss - 5, by omega⟩
 have hz : (markG ss).body.noZ = true := by
  simp only [markG, ACode.noZ, noZ_mkC, Bool.and_true]
  rfl
 refine callM_fn hn hk hz ?_
 obtain ⟨ds, d1, d2⟩ := thaw_dn hr []
 simp only [List.length_nil, List.nil_append] at d1
 have hA : thawA [] [.agg (dnL (msTs ss) row), vint .i64 k] = ([.agg (ceL 0 (msTs ss) row), vint .i64 k], ds) := by
  simp only [thawA, thaw, d1, thawL]
 have hst : startM (markG ss) [.agg (dnL (msTs ss) row), vint .i64 k] = ⟨.agg (ceL 0 (msTs ss) row) :: vint .i64 k :: List.replicate (m + 4) (.tup []), zsL (msTs ss) row⟩ := by
  simp only [startM, hA, d2, markG, List.length_cons, List.length_nil, List.cons_append, List.nil_append, hm]
 have hlen : ds.length = (zsL (msTs ss) row).length := by rw [← d2]; simp
 let t0 : List V := .agg (ceL 0 (msTs ss) row) :: vint .i64 k :: .one (.ptr (zsL (msTs ss) row).length 0 0) :: .tup [] :: vint .i64 0 :: List.replicate (m + 1) (.tup [])
 have hl0 : t0.length = mkN 5 ss + 1 := by simp [t0]; omega
 obtain ⟨t', a1, a2⟩ := mkC_run (Φ := Φ) (ext := ext) ss hss (c := 5) (C1 := []) (Z1 := []) (b := row) (k := k) (t := t0) hr h0 hk2 rfl (by simp [t0]) (Nat.le_refl _) (by omega)
 simp only [List.length_nil, List.nil_append] at a1
 have hrun : execL Φ ext (markG ss).body (startM (markG ss) [.agg (dnL (msTs ss) row), vint .i64 k]) = some (.ret, ⟨t', zsL (msTs ss) (msL mT row k).1 ++ [.box (ceL 0 (msTs ss) row)]⟩) := by
  rw [hst]
  have hrep : List.replicate (m + 4) (V.tup []) = .tup [] :: .tup [] :: .tup [] :: List.replicate (m + 1) (.tup []) := rfl
  simp only [t0] at a1
  simp only [execL, markG, hrep, exec, execOps, stepO, wants, fop, eop, Opd.ev, put, List.getD_cons_zero, V.cells, ce_plain hr, if_true, List.set_cons_succ, List.set_cons_zero]
  exact a1
 have htake : (zsL (msTs ss) (msL mT row k).1 ++ [AObj.box (ceL 0 (msTs ss) row)]).take ds.length = zsL (msTs ss) (msL mT row k).1 := by
  rw [hlen, ← zs_len mT hr k, List.take_left]
 rw [hrun]
 simp only [doneM, finM, markG, finish, resultsOf, resultOf, a2, List.flatMap_cons, List.flatMap_nil, List.append_nil, V.cells, comps, comp, giveLs, giveL, hA, htake, outs_ms mT hr, L.flat, if_true]
 rfl
end
def digs : Nat → Nat → List UInt8 → List UInt8
 | 0, _, o => o
 | n + 1, k, o => if k = 0 then o else digs n (k / 10) (UInt8.ofNat (48 + k % 10) :: o)
def mText (k : Int) : List UInt8 := if k ≤ 0 then [109, 48] else 109 :: digs 13 k.toNat []
theorem digs_len : ∀ (n k : Nat) (o : List UInt8), (digs n k o).length ≤ n + o.length
 | 0, k, o => by simp [digs]
 | n + 1, k, o => by
  simp only [digs]
  split
  ·omega
  ·have := digs_len n (k / 10) (UInt8.ofNat (48 + k % 10) :: o)
   simp only [List.length_cons] at this
   omega
def txB : ACode := .seq (.seq (.region [⟨some 6, .mv (.tmp 0), none⟩, ⟨some 7, .bin .gtr (.tmp 6) (.pv (.int .i64 0)), none⟩]) (.cond (.tmp 7) .skip (.exit 0))) (.block 1 (.seq (.region [⟨some 8, .mv (.tmp 0), none⟩, ⟨some 9, .bin .rem (.tmp 8) (.pv (.int .i64 10)), none⟩, ⟨some 10, .bin .add (.pv (.int .i64 48)) (.tmp 9), none⟩, ⟨some 11, .conv .u8 (.tmp 10), none⟩, ⟨some 12, .buildS 1 [.tmp 11], none⟩, ⟨some 13, .b2s (.tmp 12), none⟩, ⟨some 14, .mv (.tmp 3), none⟩, ⟨some 15, .bin .add (.tmp 13) (.tmp 14), none⟩, ⟨some 3, .mv (.tmp 15), none⟩]) (.region [⟨some 16, .mv (.tmp 0), none⟩, ⟨some 17, .bin .quo (.tmp 16) (.pv (.int .i64 10)), none⟩, ⟨some 0, .mv (.tmp 17), none⟩])))
def txF : AFn := ⟨20, [.tmp 2], .seq (.region [⟨some 2, .mv (.pv (.str [])), none⟩]) (.seq (.seq (.region [⟨some 4, .mv (.tmp 0), none⟩, ⟨some 5, .bin .leq (.tmp 4) (.pv (.int .i64 0)), none⟩]) (.cond (.tmp 5) (.seq (.region [⟨some 2, .mv (.pv (.str [109, 48])), none⟩]) .ret) .skip)) (.seq (.region [⟨some 3, .mv (.pv (.str [])), none⟩]) (.seq (.block 0 (.loop txB)) (.seq (.region [⟨some 18, .mv (.tmp 3), none⟩, ⟨some 19, .bin .add (.pv (.str [109])) (.tmp 18), none⟩, ⟨some 2, .mv (.tmp 19), none⟩]) .ret))))⟩
section
variable {Φ : Nat → Option AFn} {ext : Nat → List V → Option V}
theorem tx_loop : ∀ (n k : Nat), k < 10 ^ n → k < 9223372036854775807 → ∀ (o : List UInt8), o.length + n ≤ 1000 → ∀ (u1 u2 u4 u5 u6 u7 u8 u9 u10 u11 u12 u13 u14 u15 u16 u17 u18 u19 : V) (h : List AObj),
 ∃ w1 w2 w4 w5 w6 w7 w8 w9 w10 w11 w12 w13 w14 w15 w16 w17 w18 w19 h', loopL (exec (callL Φ ext) loopL txB) ⟨[vint .i64 k, u1, u2, vstr o, u4, u5, u6, u7, u8, u9, u10, u11, u12, u13, u14, u15, u16, u17, u18, u19], h⟩ = some (.exit 0, ⟨[vint .i64 0, w1, w2, vstr (digs n k o), w4, w5, w6, w7, w8, w9, w10, w11, w12, w13, w14, w15, w16, w17, w18, w19], h'⟩) := by
 intro n
 induction n with
 | zero =>
  intro k hk hk2 o ho u1 u2 u4 u5 u6 u7 u8 u9 u10 u11 u12 u13 u14 u15 u16 u17 u18 u19 h
  obtain rfl : k = 0 := by simpa using hk
  refine ⟨u1, u2, u4, u5, vint .i64 0, vbool false, u8, u9, u10, u11, u12, u13, u14, u15, u16, u17, u18, u19, h, loopL_end ?_ (by simp)⟩
  simp [txB, exec, execOps, stepO, wants, fop, Opd.ev, put, bin, binInt, isBool, digs]
 | succ n ih =>
  intro k hk hk2 o ho u1 u2 u4 u5 u6 u7 u8 u9 u10 u11 u12 u13 u14 u15 u16 u17 u18 u19 h
  by_cases h0 : k = 0
  ·subst h0
   refine ⟨u1, u2, u4, u5, vint .i64 0, vbool false, u8, u9, u10, u11, u12, u13, u14, u15, u16, u17, u18, u19, h, loopL_end ?_ (by simp)⟩
   simp [txB, exec, execOps, stepO, wants, fop, Opd.ev, put, bin, binInt, isBool, digs]
  ·have hpos : (0 : Int) < (k : Int) := by omega
   have hm : (k : Int).tmod 10 = ((k % 10 : Nat) : Int) := by
    rw [Int.tmod_eq_emod_of_nonneg (by omega)]; omega
   have hq : (k : Int).tdiv 10 = ((k / 10 : Nat) : Int) := by
    rw [Int.tdiv_eq_ediv_of_nonneg (by omega)]; omega
   have hw1 : IntKind.i64.wrap (48 + ((k % 10 : Nat) : Int)) = ((48 + k % 10 : Nat) : Int) := by rw [IntKind.wrap_i64]; omega
   have hw2 : IntKind.u8.wrap ((48 + k % 10 : Nat) : Int) = ((48 + k % 10 : Nat) : Int) := by rw [IntKind.wrap_u8]; omega
   have hw3 : IntKind.i64.wrap ((k / 10 : Nat) : Int) = ((k / 10 : Nat) : Int) := by rw [IntKind.wrap_i64]; omega
   have hlt : k / 10 < 10 ^ n := by
    rw [Nat.pow_succ] at hk
    omega
   have hlen : ([UInt8.ofNat (48 + k % 10)] : List UInt8).length + o.length ≤ 9223372036854775807 := by simp; omega
   obtain ⟨w1, w2, w4, w5, w6, w7, w8, w9, w10, w11, w12, w13, w14, w15, w16, w17, w18, w19, h', e⟩ := ih (k / 10) hlt (by omega) (UInt8.ofNat (48 + k % 10) :: o) (by simp; omega) u1 u2 u4 u5 (vint .i64 k) (vbool true) (vint .i64 k) (vint .i64 ((k % 10 : Nat) : Int)) (vint .i64 ((48 + k % 10 : Nat) : Int)) (vint .u8 ((48 + k % 10 : Nat) : Int)) (.one (.arr h.length)) (vstr [UInt8.ofNat (48 + k % 10)]) (vstr o) (vstr (UInt8.ofNat (48 + k % 10) :: o)) (vint .i64 k) (vint .i64 ((k / 10 : Nat) : Int)) u18 u19 (h ++ [.arr 1 [[.int .u8 ((48 + k % 10 : Nat) : Int)]]])
   refine ⟨w1, w2, w4, w5, w6, w7, w8, w9, w10, w11, w12, w13, w14, w15, w16, w17, w18, w19, h', (loopL_next ?_).trans (e.trans ?_)⟩
   ·have hbs : bytesOf [[PV.int .u8 ((48 + k % 10 : Nat) : Int)]] = some [UInt8.ofNat (48 + k % 10)] := by
     simp only [bytesOf, Int.toNat_natCast]
    have hvr : viewRows h [vint .u8 ((48 + k % 10 : Nat) : Int)] = some [[.int .u8 ((48 + k % 10 : Nat) : Int)]] := rfl
    have hfz : freezeVs h [vint .u8 ((48 + k % 10 : Nat) : Int)] = h := rfl
    have hal : asList (h ++ [AObj.arr 1 [[.int .u8 ((48 + k % 10 : Nat) : Int)]]]) (.one (.arr h.length)) = some [[.int .u8 ((48 + k % 10 : Nat) : Int)]] := by
     simp [asList, L.view]
    have hbp : decide ((0 : Int) < (k : Int)) = true := decide_eq_true hpos
    have h10 : ¬ ((10 : Int) = 0) := by decide
    have hc1 : (([vint .u8 ((48 + k % 10 : Nat) : Int)] : List V).all (fun v => v.cells.length == 1) && decide (0 < 1) && decide (([vint .u8 ((48 + k % 10 : Nat) : Int)] : List V).length * 1 ≤ 16777216)) = true := rfl
    simp only [txB, exec, execOps, stepO, wants, fop, eop, Opd.ev, put, List.getD_cons_zero, List.getD_cons_succ, List.set_cons_succ, List.set_cons_zero, bin, binInt, binStr, if_true, if_neg h10, hbp, isBool, isInt, List.map_cons, List.map_nil, hm, hw1, hw2, hc1, hvr, hfz, hal, hbs, hlen, hq, hw3, List.cons_append, List.nil_append]
   ·simp only [digs, if_neg h0]
theorem txF_ok {f : Nat} (hk : Φ f = some txF) : TxOK Φ ext mText f := by
 intro k h0 hM
 refine callL_fn hk ?_
 by_cases hz : k ≤ 0
 ·have hb : decide (k ≤ 0) = true := decide_eq_true hz
  simp [txF, start, execL, exec, execOps, stepO, wants, fop, Opd.ev, put, bin, binInt, hb, isBool, done, finish, resultsOf, resultOf, comps, comp, giveLs, giveL, arrsOf, V.cells, mText, hz]
 ·have hb : decide (k ≤ 0) = false := decide_eq_false hz
  obtain ⟨n, rfl⟩ : ∃ n : Nat, k = n := ⟨k.toNat, by omega⟩
  unfold mkM at hM
  have hdl := digs_len 13 n []
  have hlen : ([109] : List UInt8).length + (digs 13 n []).length ≤ 9223372036854775807 := by simp at hdl ⊢; omega
  have hlen' : 1 + (digs 13 n []).length ≤ 9223372036854775807 := by simpa using hlen
  generalize hlp : loopL (exec (callL Φ ext) loopL txB) = lp
  have hloop : ∀ u1 u2 u4 u5 u6 u7 u8 u9 u10 u11 u12 u13 u14 u15 u16 u17 u18 u19 h, ∃ w1 w2 w4 w5 w6 w7 w8 w9 w10 w11 w12 w13 w14 w15 w16 w17 w18 w19 h', lp ⟨[vint .i64 n, u1, u2, vstr [], u4, u5, u6, u7, u8, u9, u10, u11, u12, u13, u14, u15, u16, u17, u18, u19], h⟩ = some (.exit 0, ⟨[vint .i64 0, w1, w2, vstr (digs 13 n []), w4, w5, w6, w7, w8, w9, w10, w11, w12, w13, w14, w15, w16, w17, w18, w19], h'⟩) := by
   rw [← hlp]
   exact tx_loop (Φ := Φ) (ext := ext) 13 n (by omega) (by omega) [] (by simp)
  obtain ⟨w1, w2, w4, w5, w6, w7, w8, w9, w10, w11, w12, w13, w14, w15, w16, w17, w18, w19, h', e⟩ := hloop (.tup []) (vstr []) (vint .i64 n) (vbool false) (.tup []) (.tup []) (.tup []) (.tup []) (.tup []) (.tup []) (.tup []) (.tup []) (.tup []) (.tup []) (.tup []) (.tup []) (.tup []) (.tup []) []
  have hm : mText (n : Int) = 109 :: digs 13 n [] := by simp only [mText, if_neg hz, Int.toNat_natCast]
  rw [hm]
  simp only [txF, start, execL, exec, hlp, List.length_singleton, Nat.reduceSub, List.replicate, List.cons_append, List.nil_append, execOps, stepO, wants, fop, Opd.ev, put, List.getD_cons_zero, List.getD_cons_succ, List.set_cons_succ, List.set_cons_zero, bin, binInt, hb, if_true, isBool, Bool.false_eq_true, if_false, e, binStr, hlen]
  simp [hlen', done, finish, resultsOf, resultOf, comps, comp, giveLs, giveL, arrsOf, V.cells]
end
end Gi
