/- Of this proof. -/
import Derived.Test.YthaajpjcibaopaaGreatGpr
namespace Gi
open Go Go.RowKit
set_option linter.unusedVariables false
set_option linter.unusedSimpArgs false
def hgI (c off : Nat) (g : Bool) (n f : Nat) : List AOper := [⟨some c, .fieldA (.tmp 2) off, none⟩, ⟨some (c + 1), .load g n (.tmp c), none⟩, ⟨some (c + 2), .mv (.tmp 1), none⟩, ⟨some (c + 3), .call f [.tmp (c + 1), .tmp (c + 2)] true false, none⟩, ⟨some 1, .mv (.tmp (c + 3)), none⟩]
def hgC : Nat → Nat → List MS → ACode
 | c, _, [] => .seq (.region [⟨some c, .mv (.tmp 1), none⟩, ⟨some 4, .mv (.tmp c), none⟩]) .ret
 | c, off, .k ts :: ss => hgC c (off + ts.length) ss
 | c, off, .s ts f :: ss => .seq (.region (hgI c off true ts.length f)) (.seq (neg1 (c + 4)) (hgC (c + 6) (off + ts.length) ss))
 | c, off, .l _ f :: ss => .seq (.region (hgI c off false 1 f)) (.seq (neg1 (c + 4)) (hgC (c + 6) (off + 1) ss))
def hgN : Nat → List MS → Nat
 | c, [] => c
 | c, .k _ :: ss => hgN c ss
 | c, _ :: ss => hgN (c + 6) ss
def heldG (ss : List MS) : AFn := ⟨hgN 5 ss + 1, [.tmp 4], .seq (.region [⟨some 2, .box (.tmp 0), none⟩, ⟨some 4, .mv (.pv (.int .i64 0)), none⟩]) (hgC 5 0 ss)⟩
theorem hgN_le : ∀ (ss : List MS) (c : Nat), c ≤ hgN c ss
 | [], c => Nat.le_refl _
 | .k ts :: ss, c => hgN_le ss c
 | .s ts f :: ss, c => Nat.le_trans (by omega) (hgN_le ss (c + 6))
 | .l us f :: ss, c => Nat.le_trans (by omega) (hgN_le ss (c + 6))
theorem msL_len (mT : Int → List UInt8) {ts : List PTy} {ps : List PV} (h : HasL ts ps) : ∀ k, (msL mT ps k).1.length = ts.length := by
 refine row_ind (P := fun ts ps => ∀ k, (msL mT ps k).1.length = ts.length) (fun _ => rfl) ?_ ?_ ts ps h
 ·intro us rows ts ps _ _ ih k
  simp only [msL, List.length_cons, ih]
 ·intro t p ts ps _ ht hp _ ih k
  rw [msL_flat mT hp]
  simp only [List.length_cons, ih]
section
variable {Φ : Nat → Option AFn} {ext : Nat → List V → Option V} {mT : Int → List UInt8}
def HsOK (Φ : Nat → Option AFn) (ext : Nat → List V → Option V) (mT : Int → List UInt8) (f : Nat) (ts : List PTy) : Prop :=
 ∀ row : List PV, HasL ts row → ∀ k : Int, 0 ≤ k → (msL mT row k).2 ≤ mkM → callL Φ ext f [.agg ((msL mT row k).1.map .pv), vint .i64 k] = some (vint .i64 (msL mT row k).2)
def HssOK (Φ : Nat → Option AFn) (ext : Nat → List V → Option V) (mT : Int → List UInt8) : List MS → Prop
 | [] => True
 | .k ts :: ss => ts.all PTy.flatT = true ∧ HssOK Φ ext mT ss
 | .s ts f :: ss => HsOK Φ ext mT f ts ∧ HssOK Φ ext mT ss
 | .l us f :: ss => HeldOK Φ ext mT f us ∧ HssOK Φ ext mT ss
theorem hgI_run {g : Bool} {n f c : Nat} {A : List L} {off : Nat} {v : V} {k k2 : Int} {t : List V} (h1 : t[1]? = some (vint .i64 k)) (h2 : t[2]? = some (.one (.ptr 0 0 0))) (hc : 5 ≤ c) (hl : c + 5 < t.length) (hk2 : 0 ≤ k2)
 (hcut : cut g n off A = some v) (hv : viewArgs [.box A] [v, vint .i64 k] = some [v, vint .i64 k]) (hcall : callL Φ ext f [v, vint .i64 k] = some (vint .i64 k2)) {lp} :
 ∃ t', exec (callL Φ ext) lp (.seq (.region (hgI c off g n f)) (neg1 (c + 4))) ⟨t, [.box A]⟩ = some (.normal, ⟨t', [.box A]⟩) ∧ t'.length = t.length ∧ t'[1]? = some (vint .i64 k2) ∧ t'[2]? = some (.one (.ptr 0 0 0)) := by
 have e1 := getD_some h1
 have e2 := getD_some h2
 have q1 : (t.set c (V.one (.ptr 0 0 off))).getD c (.tup []) = .one (.ptr 0 0 off) := getD_set (by omega)
 have q2 : ((t.set c (V.one (.ptr 0 0 off))).set (c + 1) v).getD 1 (.tup []) = vint .i64 k := (getD_ne (by omega)).trans ((getD_ne (by omega)).trans e1)
 have q3 : (((t.set c (V.one (.ptr 0 0 off))).set (c + 1) v).set (c + 2) (vint .i64 k)).getD (c + 1) (.tup []) = v := (getD_ne (by omega)).trans (getD_set (by simp; omega))
 have q4 : (((t.set c (V.one (.ptr 0 0 off))).set (c + 1) v).set (c + 2) (vint .i64 k)).getD (c + 2) (.tup []) = vint .i64 k := getD_set (by simp; omega)
 have q5 : ((((t.set c (V.one (.ptr 0 0 off))).set (c + 1) v).set (c + 2) (vint .i64 k)).set (c + 3) (vint .i64 k2)).getD (c + 3) (.tup []) = vint .i64 k2 := getD_set (by simp; omega)
 let t1 := ((((t.set c (V.one (.ptr 0 0 off))).set (c + 1) v).set (c + 2) (vint .i64 k)).set (c + 3) (vint .i64 k2)).set 1 (vint .i64 k2)
 have r1 : execOps (callL Φ ext) (hgI c off g n f) ⟨t, [.box A]⟩ = some ⟨t1, [.box A]⟩ := by
  simp only [hgI, execOps, stepO, wants, fop, Opd.ev, e2, put, Nat.zero_add, q1, loadV, List.getElem?_cons_zero, if_true, hcut, q2, Bool.or_false, List.map_cons, List.map_nil, q3, q4, hv, hcall, Bool.true_or, V.flat, L.flat, Bool.not_true, Bool.and_false, Bool.false_eq_true, if_false, setV, setL, q5, t1]
 have l1 : t1.length = t.length := by simp [t1]
 have g1 : t1[1]? = some (vint .i64 k2) := List.getElem?_set_self (by simp; omega)
 have g2 : t1[2]? = some (.one (.ptr 0 0 0)) := by simp only [t1]; rw [List.getElem?_set_ne (by omega), List.getElem?_set_ne (by omega), List.getElem?_set_ne (by omega), List.getElem?_set_ne (by omega), List.getElem?_set_ne (by omega)]; exact h2
 have r2 := neg1_ge (call := callL Φ ext) (lp := lp) (h := [.box A]) (c := c + 4) g1 (by omega) (by omega)
 refine ⟨_, by simp only [exec, r1, r2]; rfl, by simp; omega, ?_, ?_⟩
 ·rw [List.getElem?_set_ne (by omega), List.getElem?_set_ne (by omega)]; exact g1
 ·rw [List.getElem?_set_ne (by omega), List.getElem?_set_ne (by omega)]; exact g2
theorem hgC_run : ∀ (ss : List MS), HssOK Φ ext mT ss → ∀ {c : Nat} {dn b : List PV} {k : Int} {t : List V}, HasL (msTs ss) b → 0 ≤ k → (msL mT b k).2 ≤ mkM → t[1]? = some (vint .i64 k) → t[2]? = some (.one (.ptr 0 0 0)) → 5 ≤ c → hgN c ss < t.length →
 ∃ t' h', exec (callL Φ ext) loopL (hgC c dn.length ss) ⟨t, [.box ((dn ++ (msL mT b k).1).map .pv)]⟩ = some (.ret, ⟨t', h'⟩) ∧ t'.getD 4 (.tup []) = vint .i64 (msL mT b k).2
 | [], _, c, dn, b, k, t, hb, h0, hk, h1, h2, hc, hl => by
  obtain rfl := HasL_nil hb
  simp only [hgN] at hl
  have q2 : (t.set c (vint .i64 k)).getD c (.tup []) = vint .i64 k := getD_set hl
  refine ⟨(t.set c (vint .i64 k)).set 4 (vint .i64 k), [.box ((dn ++ (msL mT [] k).1).map .pv)], ?_, by simp only [msL]; exact getD_set (by simp; omega)⟩
  simp only [hgC, exec, execOps, stepO, wants, fop, Opd.ev, getD_some h1, put, q2]
 | .k ts :: ss, hss, c, dn, b, k, t, hb, h0, hk, h1, h2, hc, hl => by
  simp only [msTs, MS.ts] at hb
  obtain ⟨x, y, rfl, hx, hy⟩ := HasL_app (ts := ts) hb
  have flat : ∀ {ts : List PTy} {x : List PV}, HasL ts x → ts.all PTy.flatT = true → ∀ k, msL mT x k = (x, k) := by
   intro ts x h
   refine row_ind (P := fun ts x => ts.all PTy.flatT = true → ∀ k, msL mT x k = (x, k)) (fun _ _ => rfl) ?_ ?_ ts x h
   ·intro us rows ts ps _ _ _ ha
    simp [PTy.flatT] at ha
   ·intro t p ts ps _ ht hp _ ih ha
    simp only [List.all_cons, Bool.and_eq_true] at ha
    exact fun k => by rw [msL_flat mT hp, ih ha.2]
  have m0 := flat hx hss.1
  rw [msL_app, m0] at hk ⊢
  have hlen : (dn ++ x).length = dn.length + ts.length := by rw [List.length_append, HasL_len hx]
  obtain ⟨t', h', r1, r2⟩ := hgC_run ss hss.2 (c := c) (dn := dn ++ x) hy h0 hk h1 h2 hc hl
  rw [hlen, List.append_assoc] at r1
  exact ⟨t', h', r1, r2⟩
 | .s ts f :: ss, hss, c, dn, b, k, t, hb, h0, hk, h1, h2, hc, hl => by
  simp only [msTs, MS.ts] at hb
  obtain ⟨x, y, rfl, hx, hy⟩ := HasL_app (ts := ts) hb
  have hN := hgN_le ss (c + 6)
  simp only [hgN] at hl
  rw [msL_app] at hk ⊢
  have hle := msL_le mT y (msL mT x k).2
  have hlx := msL_le mT x k
  have hml := msL_len mT hx k
  simp only at hk hle
  have hcut : cut true ts.length dn.length ((dn ++ ((msL mT x k).1 ++ (msL mT y (msL mT x k).2).1)).map .pv) = some (.agg ((msL mT x k).1.map .pv)) := by rw [← hml]; exact cut_seg (agg := true) (.inl rfl)
  obtain ⟨t1, a1, a2, a3, a4⟩ := hgI_run (Φ := Φ) (ext := ext) (lp := loopL) h1 h2 hc (by omega) (by omega) hcut (by simp only [viewArgs, view_agg]; rfl) (hss.1 x hx k h0 (by omega))
  have hlen : (dn ++ (msL mT x k).1).length = dn.length + ts.length := by rw [List.length_append, hml]
  obtain ⟨t2, h', b1, b2⟩ := hgC_run ss hss.2 (c := c + 6) (dn := dn ++ (msL mT x k).1) (b := y) (k := (msL mT x k).2) (t := t1) hy (by omega) hk a3 a4 (by omega) (by omega)
  refine ⟨t2, h', ?_, b2⟩
  rw [hlen, List.append_assoc] at b1
  simp only [exec] at a1
  simp only [hgC, exec]
  split at a1
  ·rename_i σ1 e1
   simp only [e1, a1]
   exact b1
  ·exact absurd a1 (by intro h; simp_all)
 | .l us f :: ss, hss, c, dn, b, k, t, hb, h0, hk, h1, h2, hc, hl => by
  simp only [msTs, MS.ts] at hb
  obtain ⟨x, y, rfl, hx, hy⟩ := HasL_app (ts := [.lst us]) hb
  have hN := hgN_le ss (c + 6)
  simp only [hgN] at hl
  rw [msL_app] at hk ⊢
  have hle := msL_le mT y (msL mT x k).2
  have hlx := msL_le mT x k
  have hml := msL_len mT hx k
  have hx' := hx
  obtain ⟨p, x', rfl, hp, hn⟩ := HasL_cons hx'
  obtain rfl := HasL_nil hn
  obtain ⟨rows, rfl⟩ := Has_lst hp
  simp only [msL] at hk hle hlx hml ⊢
  have hcut : cut false 1 dn.length ((dn ++ ([PV.lst (mkR mT rows k).1] ++ (msL mT y (mkR mT rows k).2).1)).map .pv) = some (.one (.pv (.lst (mkR mT rows k).1))) := cut_seg (agg := false) (a := [.lst (mkR mT rows k).1]) (.inr rfl)
  obtain ⟨t1, a1, a2, a3, a4⟩ := hgI_run (Φ := Φ) (ext := ext) (lp := loopL) h1 h2 hc (by omega) (by omega) hcut rfl (hss.1 rows hp k h0 (by omega))
  have hlen : (dn ++ [PV.lst (mkR mT rows k).1]).length = dn.length + 1 := by simp
  obtain ⟨t2, h', b1, b2⟩ := hgC_run ss hss.2 (c := c + 6) (dn := dn ++ [PV.lst (mkR mT rows k).1]) (b := y) (k := (mkR mT rows k).2) (t := t1) hy (by omega) hk a3 a4 (by omega) (by omega)
  refine ⟨t2, h', ?_, b2⟩
  rw [hlen, List.append_assoc] at b1
  simp only [exec] at a1
  simp only [hgC, exec]
  split at a1
  ·rename_i σ1 e1
   simp only [e1, a1]
   exact b1
  ·exact absurd a1 (by intro h; simp_all)
theorem heldG_ok {f : Nat} {ss : List MS} (hk : Φ f = some (heldG ss)) (hss : HssOK Φ ext mT ss) : HsOK Φ ext mT f (msTs ss) := by
 intro row hr k h0 hk2
 have hN := hgN_le ss 5
 obtain ⟨m, hm⟩ : ∃ m, hgN 5 ss + 1 - 2 = m + 4 := ⟨hgN 5 ss - 5, by omega⟩
 refine callL_fn hk ?_
 have hpl : ((msL mT row k).1.map L.pv).all plain = true := by simp [plain]
 let t0 : List V := .agg ((msL mT row k).1.map .pv) :: vint .i64 k :: .one (.ptr 0 0 0) :: .tup [] :: vint .i64 0 :: List.replicate (m + 1) (.tup [])
 have hl0 : t0.length = hgN 5 ss + 1 := by simp [t0]; omega
 obtain ⟨t', h', a1, a2⟩ := hgC_run (Φ := Φ) (ext := ext) ss hss (c := 5) (dn := []) (b := row) (k := k) (t := t0) hr h0 hk2 rfl rfl (Nat.le_refl _) (by omega)
 have hrep : List.replicate (m + 4) (V.tup []) = .tup [] :: .tup [] :: .tup [] :: List.replicate (m + 1) (.tup []) := rfl
 have hrun : execL Φ ext (heldG ss).body (start (heldG ss) [.agg ((msL mT row k).1.map .pv), vint .i64 k]) = some (.ret, ⟨t', h'⟩) := by
  simp only [t0, List.length_nil, List.nil_append] at a1
  simp only [execL, heldG, start, List.length_cons, List.length_nil, Nat.zero_add, Nat.reduceAdd, hm, List.cons_append, List.nil_append, hrep, exec, execOps, stepO, wants, fop, eop, Opd.ev, put, List.getD_cons_zero, V.cells, hpl, if_true, List.set_cons_succ, List.set_cons_zero]
  exact a1
 rw [hrun]
 simp only [done, heldG, finish, resultsOf, resultOf, a2, List.flatMap_cons, List.flatMap_nil, List.append_nil, V.cells, comps, comp, giveLs, giveL]
 rfl
end
end Gi
