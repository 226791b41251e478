/- Of this proof. -/
import Derived.Test.YthaajpjcibaopaaGreatGpq
namespace Gi
open Go Go.RowKit
set_option linter.unusedVariables false
set_option linter.unusedSimpArgs false
def seqA : List ACode → ACode
 | [] => .skip
 | [a] => a
 | a :: b :: r => .seq a (seqA (b :: r))
def runA (call : Nat → List V → Option V) (lp : (St → Option (Ex × St)) → St → Option (Ex × St)) : List ACode → St → Option St
 | [], σ => some σ
 | a :: r, σ => match exec call lp a σ with
  | some (.normal, σ') => runA call lp r σ'
  | _ => none
theorem seqA_run {call : Nat → List V → Option V} {lp : (St → Option (Ex × St)) → St → Option (Ex × St)} : ∀ {xz : List ACode} {σ σ' : St}, runA call lp xz σ = some σ' → exec call lp (seqA xz) σ = some (.normal, σ')
 | [], σ, σ', h => by simp only [runA] at h; cases h; rfl
 | [a], σ, σ', h => by
  simp only [runA] at h
  split at h
  ·rename_i σ1 h1; cases h; exact h1
  ·cases h
 | a :: b :: r, σ, σ', h => by
  rw [runA] at h
  split at h
  ·rename_i σ1 h1
   have := seqA_run (xz := b :: r) h
   simp only [seqA, exec, h1, this]
  ·cases h
theorem runA_app {call : Nat → List V → Option V} {lp : (St → Option (Ex × St)) → St → Option (Ex × St)} : ∀ {xz bs : List ACode} {σ σ' : St}, runA call lp xz σ = some σ' → runA call lp (xz ++ bs) σ = runA call lp bs σ'
 | [], bs, σ, σ', h => by simp only [runA] at h; cases h; rfl
 | a :: xz, bs, σ, σ', h => by
  simp only [runA, List.cons_append] at h ⊢
  split at h
  ·rename_i σ1 h1
   exact runA_app h
  ·cases h
def valH (mt c : Nat) : PTy → List AOper
 | .int .i64 => []
 | .int κ => [⟨some (c + 3), .conv κ (.tmp (c + 2)), none⟩]
 | .str => [⟨some (c + 3), .call mt [.tmp (c + 2)] true true, none⟩]
 | .bool => [⟨some (c + 3), .bin .rem (.tmp (c + 2)) (.pv (.int .i64 3)), none⟩, ⟨some (c + 4), .bin .eql (.tmp (c + 3)) (.pv (.int .i64 0)), none⟩]
 | .lst _ => []
def retM : ACode := .seq (.region [⟨some 4, .mv (.pv (.int .i64 (-1))), none⟩]) .ret
def ldH (z c : Nat) (x : MC) : List AOper := mvs c ++ (⟨some (c + 2), .indexA z (.tmp c) (.tmp (c + 1)), none⟩ :: (chain (c + 2) x.p ++ [⟨some (c + 3 + x.p.length), .load false 1 (.tmp (c + 2 + x.p.length)), none⟩, ⟨some (c + 4 + x.p.length), .mv (.tmp 1), none⟩]))
def helS (z mt c : Nat) (t : PTy) (x : MC) : List ACode :=
 let d := c + 2 + x.p.length
 let v := d + 2 + (valH mt d t).length
 [.seq (.region (ldH z c x ++ (valH mt d t ++ [⟨some (v + 1), neqC t (.tmp (d + 1)) (.tmp v), none⟩]))) (.cond (.tmp (v + 1)) retM .skip), .region (incr (v + 2))]
def helT (z c : Nat) (x : MC) : List ACode :=
 let d := c + 2 + x.p.length
 [.region (ldH z c x ++ [⟨some (d + 3), .call x.f [.tmp (d + 1), .tmp (d + 2)] true false, none⟩, ⟨some 1, .mv (.tmp (d + 3)), none⟩]), neg1 (d + 4)]
def helR (z mt c : Nat) : PTy → MC → List ACode
 | .lst _, x => helT z c x
 | t, x => helS z mt c t x
def helN (mt c : Nat) : PTy → MC → Nat
 | .lst _, x => c + 8 + x.p.length
 | t, x => c + 8 + (valH mt (c + 2 + x.p.length) t).length + x.p.length
def hrwR (z mt : Nat) : Nat → List PTy → List MC → List ACode
 | c, t :: ts, x :: xs => helR z mt c t x ++ hrwR z mt (helN mt c t x) ts xs
 | _, _, _ => []
def hrwN (mt : Nat) : Nat → List PTy → List MC → Nat
 | c, t :: ts, x :: xs => hrwN mt (helN mt c t x) ts xs
 | c, _, _ => c
def heldB (mt : Nat) (ts : List PTy) (xs : List MC) : ACode := .seq (hdr 5 0 6) (.seq (.block 1 (seqA (hrwR ts.length mt 12 ts xs))) (ftr 5 10))
def heldF (mt : Nat) (ts : List PTy) (xs : List MC) : AFn := ⟨hrwN mt 12 ts xs + 1, [.tmp 4], .seq (.region [⟨some 4, .mv (.pv (.int .i64 0)), none⟩]) (.seq (.seq (.region [⟨some 5, .mv (.pv (.int .i64 0)), none⟩]) (.block 0 (.loop (heldB mt ts xs)))) (.seq (.region [⟨some (hrwN mt 12 ts xs), .mv (.tmp 1), none⟩, ⟨some 4, .mv (.tmp (hrwN mt 12 ts xs)), none⟩]) .ret))⟩
theorem chain_ip {call : Nat → List V → Option V} {e : List PV} : ∀ {p : List Nat} {c j : Nat} {t : List V} {h : List AObj}, t[c]? = some (.one (.ip e j)) → c + p.length < t.length →
 ∃ t', execOps call (chain c p) ⟨t, h⟩ = some ⟨t', h⟩ ∧ t'.length = t.length ∧ t'[c + p.length]? = some (.one (.ip e (j + p.sum))) ∧ ∀ n ≤ c, t'[n]? = t[n]?
 | [], c, j, t, h, hc, hl => ⟨t, rfl, rfl, by simpa using hc, fun _ _ => rfl⟩
 | d :: ds, c, j, t, h, hc, hl => by
  simp only [List.length_cons] at hl
  obtain ⟨t', e1, e2, e3, e4⟩ := chain_ip (call := call) (e := e) (p := ds) (c := c + 1) (j := j + d) (t := t.set (c + 1) (.one (.ip e (j + d)))) (h := h) (List.getElem?_set_self (by omega)) (by simp; omega)
  refine ⟨t', ?_, by simpa using e2, ?_, fun n hn => ?_⟩
  ·simp only [chain, execOps, stepO, wants, fop, Opd.ev, getD_some hc, put, e1]
  ·simp only [List.length_cons, List.sum_cons]
   rw [show c + (ds.length + 1) = c + 1 + ds.length by omega, e3, Nat.add_assoc]
  ·rw [e4 n (by omega), List.getElem?_set_ne (by omega)]
section
variable {Φ : Nat → Option AFn} {ext : Nat → List V → Option V} {mT : Int → List UInt8} {mt : Nat}
theorem valH_run (hT : TxOK Φ ext mT mt) {ty : PTy} {p : PV} (hp : Has ty p) (hf : ty.flatT = true) {c : Nat} {k : Int} (h0 : 0 ≤ k) (hk : k < mkM) {t : List V} {h : List AObj} (h2 : t[c + 2]? = some (vint .i64 k)) (hl : c + 2 + (valH mt c ty).length < t.length) :
 ∃ t', execOps (callL Φ ext) (valH mt c ty) ⟨t, h⟩ = some ⟨t', h⟩ ∧ t'.length = t.length ∧ t'[c + 2 + (valH mt c ty).length]? = some (.one (.pv (mkP mT p k).1)) ∧ ∀ n ≤ c + 2, t'[n]? = t[n]? := by
 have e2 := getD_some h2
 by_cases hs : ty = .str
 ·subst hs
  obtain ⟨s, rfl⟩ := Has_str hp
  simp only [valH, List.length_singleton] at hl ⊢
  refine ⟨t.set (c + 3) (vstr (mT k)), ?_, by simp, by simp only [mkP]; exact List.getElem?_set_self (by omega), fun n hn => List.getElem?_set_ne (by omega)⟩
  simp only [execOps, stepO, wants, fop, Bool.or_self, Bool.true_or, if_true, List.map_cons, List.map_nil, Opd.ev, e2, viewArgs, V.view, L.view, hT k h0 (by omega), V.flat, L.flat, Bool.not_true, Bool.and_false, Bool.false_eq_true, if_false, setV, setL, put]
 ·have : valH mt c ty = valO mt c ty := by
   cases ty with
   | int κ => cases κ <;> rfl
   | str => exact absurd rfl hs
   | _ => rfl
  rw [this] at hl ⊢
  exact val_run hT hp hf h0 hk h2 hl
theorem neqC_same {ty : PTy} {p : PV} (hp : Has ty p) (hf : ty.flatT = true) {k : Int} {t : List V} {a b : Nat} (ha : t[a]? = some (.one (.pv (mkP mT p k).1))) (hb : t[b]? = some (.one (.pv (mkP mT p k).1))) (call : Nat → List V → Option V) (h : List AObj) : fop call ⟨t, h⟩ (neqC ty (.tmp a) (.tmp b)) = some (vbool false) := by
 have e1 := getD_some ha
 have e2 := getD_some hb
 cases ty with
 | lst us => cases hf
 | str =>
  obtain ⟨s, rfl⟩ := Has_str hp
  simp only [neqC, fop, Opd.ev, e1, e2]
  exact neq_self rfl
 | int κ =>
  obtain ⟨s, rfl⟩ := Has_int hp
  simp only [neqC, fop, Opd.ev, e1, e2]
  exact neq_self rfl
 | bool =>
  obtain ⟨s, rfl⟩ := Has_bool hp
  simp only [neqC, fop, Opd.ev, e1, e2, mkP, isBool]
  cases k.tmod 3 == 0 <;> rfl
structure HdSt (rows : List (List PV)) (i : Nat) (k : Int) (t : List V) : Prop where
 t0 : t[0]? = some (vlst rows)
 t1 : t[1]? = some (vint .i64 k)
 t5 : t[5]? = some (vint .i64 i)
theorem ldH_run {rows : List (List PV)} {e : List PV} {q : PV} {x : MC} {z i c : Nat} {k : Int} {t : List V} (s : HdSt rows i k t) (he : rows[i]? = some e) (hz : e.length = z) (hq : e[x.p.sum]? = some q) (hc : 12 ≤ c) (hl : c + 4 + x.p.length < t.length) (call : Nat → List V → Option V) :
 ∃ t', execOps call (ldH z c x) ⟨t, []⟩ = some ⟨t', []⟩ ∧ t'.length = t.length ∧ t'[c + 3 + x.p.length]? = some (.one (.pv q)) ∧ t'[c + 4 + x.p.length]? = some (vint .i64 k) ∧ ∀ n < c, t'[n]? = t[n]? := by
 let t1 := ((t.set c (vlst rows)).set (c + 1) (vint .i64 i)).set (c + 2) (.one (.ip e 0))
 have a0 : execOps call (mvs c ++ [⟨some (c + 2), .indexA z (.tmp c) (.tmp (c + 1)), none⟩]) ⟨t, []⟩ = some ⟨t1, []⟩ := by
  have e1 := getD_some s.t0
  have e2 : (t.set c (vlst rows)).getD 5 (.tup []) = vint .i64 i := (getD_ne (by omega)).trans (getD_some s.t5)
  have e3 : ((t.set c (vlst rows)).set (c + 1) (vint .i64 i)).getD c (.tup []) = vlst rows := (getD_ne (by omega)).trans (getD_set (by omega))
  have e4 : ((t.set c (vlst rows)).set (c + 1) (vint .i64 i)).getD (c + 1) (.tup []) = vint .i64 i := getD_set (by simp; omega)
  simp only [mvs, List.cons_append, List.nil_append, execOps, stepO, wants, fop, Opd.ev, e1, put, e2, e3, e4, isInt, Int.natCast_nonneg, if_true, Int.toNat_natCast, elemPtr, he, hz, t1]
 have l1 : t1.length = t.length := by simp [t1]
 have g1 : ∀ n, n < c → t1[n]? = t[n]? := fun n hn => by simp only [t1]; rw [List.getElem?_set_ne (by omega), List.getElem?_set_ne (by omega), List.getElem?_set_ne (by omega)]
 have ge : t1[c + 2]? = some (.one (.ip e 0)) := by simp only [t1]; exact List.getElem?_set_self (by simp; omega)
 clear_value t1
 obtain ⟨t4, d1, d2, d3, d4⟩ := chain_ip (call := call) (e := e) (p := x.p) (c := c + 2) (j := 0) (t := t1) (h := []) ge (by omega)
 rw [Nat.zero_add] at d3
 have hcut : cut false 1 x.p.sum (e.map L.pv) = some (.one (.pv q)) := by
  have hlt := (List.getElem?_eq_some_iff.1 hq).1
  unfold cut
  rw [if_pos (by simp; omega)]
  simp [hq]
 have q1 : (t4.set (c + 3 + x.p.length) (V.one (.pv q))).getD 1 (.tup []) = vint .i64 k := (getD_ne (by omega)).trans (getD_some ((d4 1 (by omega)).trans ((g1 1 (by omega)).trans s.t1)))
 refine ⟨(t4.set (c + 3 + x.p.length) (.one (.pv q))).set (c + 4 + x.p.length) (vint .i64 k), ?_, by simp; omega, by rw [List.getElem?_set_ne (by omega)]; exact List.getElem?_set_self (by omega), List.getElem?_set_self (by simp; omega), fun n hn => by rw [List.getElem?_set_ne (by omega), List.getElem?_set_ne (by omega), d4 n (by omega), g1 n hn]⟩
 have hflat : ldH z c x = (mvs c ++ [⟨some (c + 2), .indexA z (.tmp c) (.tmp (c + 1)), none⟩]) ++ (chain (c + 2) x.p ++ [⟨some (c + 3 + x.p.length), .load false 1 (.tmp (c + 2 + x.p.length)), none⟩, ⟨some (c + 4 + x.p.length), .mv (.tmp 1), none⟩]) := by
  simp only [ldH, List.append_assoc, List.cons_append, List.nil_append]
 rw [hflat, execOps_app _ _ _ a0, execOps_app _ _ _ d1]
 simp only [execOps, stepO, wants, fop, Opd.ev, getD_some d3, loadV, hcut, put, q1]
theorem incr_hd {call : Nat → List V → Option V} {rows : List (List PV)} {i c : Nat} {k : Int} {t : List V} {h : List AObj} (s : HdSt rows i k t) (h0 : 0 ≤ k) (hk : k < mkM) (hc : 6 ≤ c) (hl : c + 1 < t.length) :
 ∃ t', execOps call (incr c) ⟨t, h⟩ = some ⟨t', h⟩ ∧ t'.length = t.length ∧ HdSt rows i (k + 1) t' := by
 have e1 := getD_some s.t1
 have e2 : (t.set c (vint .i64 k)).getD c (.tup []) = vint .i64 k := getD_set (by omega)
 have hw : IntKind.i64.wrap (k + 1) = k + 1 := by rw [IntKind.wrap_i64]; unfold mkM at hk; omega
 have e3 : ((t.set c (vint .i64 k)).set (c + 1) (vint .i64 (k + 1))).getD (c + 1) (.tup []) = vint .i64 (k + 1) := getD_set (by simp; omega)
 refine ⟨((t.set c (vint .i64 k)).set (c + 1) (vint .i64 (k + 1))).set 1 (vint .i64 (k + 1)), ?_, by simp, ?_, ?_, ?_⟩
 ·simp only [incr, execOps, stepO, wants, fop, Opd.ev, e1, put, e2, bin, if_true, binInt, hw, e3]
 ·rw [List.getElem?_set_ne (by omega), List.getElem?_set_ne (by omega), List.getElem?_set_ne (by omega)]; exact s.t0
 ·exact List.getElem?_set_self (by simp; omega)
 ·rw [List.getElem?_set_ne (by omega), List.getElem?_set_ne (by omega), List.getElem?_set_ne (by omega)]; exact s.t5
theorem helS_run (hT : TxOK Φ ext mT mt) {rows : List (List PV)} {ty : PTy} {p : PV} {x : MC} {e : List PV} {z i c : Nat} {k : Int} {t : List V} (hp : Has ty p) (hf : ty.flatT = true) (s : HdSt rows i k t) (h0 : 0 ≤ k) (hk : k < mkM) (hc : 12 ≤ c) (he : rows[i]? = some e) (hz : e.length = z) (hq : e[x.p.sum]? = some (mkP mT p k).1) (hl : c + 8 + (valH mt (c + 2 + x.p.length) ty).length + x.p.length ≤ t.length) :
 ∃ t', runA (callL Φ ext) loopL (helS z mt c ty x) ⟨t, []⟩ = some ⟨t', []⟩ ∧ t'.length = t.length ∧ HdSt rows i (mkP mT p k).2 t' := by
 obtain ⟨t1, a1, a2, a3, a4, a5⟩ := ldH_run s he hz hq hc (by omega) (callL Φ ext)
 generalize hd : c + 2 + x.p.length = d at *
 rw [show c + 3 + x.p.length = d + 1 by omega] at a3
 rw [show c + 4 + x.p.length = d + 2 by omega] at a4
 obtain ⟨t2, b1, b2, b3, b4⟩ := valH_run (h := []) hT hp hf h0 hk a4 (by omega)
 generalize hv : d + 2 + (valH mt d ty).length = v at *
 have b5 : t2[d + 1]? = some (.one (.pv (mkP mT p k).1)) := (b4 (d + 1) (by omega)).trans a3
 have c1 := neqC_same hp hf b5 b3 (callL Φ ext) []
 have q1 : (t2.set (v + 1) (vbool false)).getD (v + 1) (.tup []) = vbool false := getD_set (by omega)
 have low : ∀ n, n < c → (t2.set (v + 1) (vbool false))[n]? = t[n]? := fun n hn => by rw [List.getElem?_set_ne (by omega), b4 n (by omega), a5 n hn]
 obtain ⟨t5, i1, i2, i3⟩ := incr_hd (call := callL Φ ext) (c := v + 2) (h := []) (⟨(low 0 (by omega)).trans s.t0, (low 1 (by omega)).trans s.t1, (low 5 (by omega)).trans s.t5⟩ : HdSt rows i k (t2.set (v + 1) (vbool false))) h0 hk (by omega) (by simp; omega)
 have f3 := (mkP_flat (mT := mT) hp hf k).2.2
 refine ⟨t5, ?_, by rw [i2]; simp; omega, by rw [f3]; exact i3⟩
 have hops : execOps (callL Φ ext) (ldH z c x ++ (valH mt d ty ++ [⟨some (v + 1), neqC ty (.tmp (d + 1)) (.tmp v), none⟩])) ⟨t, []⟩ = some ⟨t2.set (v + 1) (vbool false), []⟩ := by
  rw [execOps_app _ _ _ a1, execOps_app _ _ _ b1]
  simp only [execOps, stepO, wants, c1, put]
 simp only [helS, hd, hv, runA, exec, hops, Opd.ev, q1, isBool, Bool.false_eq_true, if_false, i1]
def HeldOK (Φ : Nat → Option AFn) (ext : Nat → List V → Option V) (mT : Int → List UInt8) (f : Nat) (ts : List PTy) : Prop :=
 ∀ rows : List (List PV), Has (.lst ts) (.lst rows) → ∀ k : Int, 0 ≤ k → (mkR mT rows k).2 ≤ mkM → callL Φ ext f [vlst (mkR mT rows k).1, vint .i64 k] = some (vint .i64 (mkR mT rows k).2)
theorem helT_run {rows : List (List PV)} {us : List PTy} {ys : List (List PV)} {x : MC} {e : List PV} {z i c : Nat} {k : Int} {t : List V} (hO : HeldOK Φ ext mT x.f us) (hp : Has (.lst us) (.lst ys)) (s : HdSt rows i k t) (h0 : 0 ≤ k) (hk : (mkR mT ys k).2 ≤ mkM) (hc : 12 ≤ c) (he : rows[i]? = some e) (hz : e.length = z) (hq : e[x.p.sum]? = some (mkP mT (.lst ys) k).1) (hl : c + 8 + x.p.length ≤ t.length) :
 ∃ t', runA (callL Φ ext) loopL (helT z c x) ⟨t, []⟩ = some ⟨t', []⟩ ∧ t'.length = t.length ∧ HdSt rows i (mkP mT (.lst ys) k).2 t' := by
 obtain ⟨t1, a1, a2, a3, a4, a5⟩ := ldH_run s he hz hq hc (by omega) (callL Φ ext)
 have hle := mkR_le mT ys k
 generalize hd : c + 2 + x.p.length = d at *
 rw [show c + 3 + x.p.length = d + 1 by omega] at a3
 rw [show c + 4 + x.p.length = d + 2 by omega] at a4
 simp only [mkP] at a3 ⊢
 generalize hk2 : (mkR mT ys k).2 = k2 at *
 have hcall := hO ys hp k h0 (by omega)
 rw [hk2] at hcall
 generalize (mkR mT ys k).1 = ys' at *
 have e1 := getD_some a3
 have e2 := getD_some a4
 have q1 : (t1.set (d + 3) (vint .i64 k2)).getD (d + 3) (.tup []) = vint .i64 k2 := getD_set (by omega)
 have hview : viewArgs [] [vlst ys', vint .i64 k] = some [vlst ys', vint .i64 k] := rfl
 let t2 := (t1.set (d + 3) (vint .i64 k2)).set 1 (vint .i64 k2)
 have hops : execOps (callL Φ ext) (ldH z c x ++ [⟨some (d + 3), .call x.f [.tmp (d + 1), .tmp (d + 2)] true false, none⟩, ⟨some 1, .mv (.tmp (d + 3)), none⟩]) ⟨t, []⟩ = some ⟨t2, []⟩ := by
  rw [execOps_app _ _ _ a1]
  have hvl : viewArgs [] [V.one (L.pv (PV.lst ys')), vint .i64 k] = some [vlst ys', vint .i64 k] := rfl
  simp only [execOps, stepO, wants, fop, Bool.or_false, Bool.true_or, if_true, List.map_cons, List.map_nil, Opd.ev, e1, e2, hvl, hcall, V.flat, L.flat, Bool.not_true, Bool.and_false, Bool.false_eq_true, if_false, setV, setL, put, q1, t2]
 have l2 : t2.length = t.length := by simp [t2]; omega
 have q2 : t2.getD 1 (.tup []) = vint .i64 k2 := getD_set (by simp; omega)
 have q3 : (t2.set (d + 4) (vint .i64 k2)).getD (d + 4) (.tup []) = vint .i64 k2 := getD_set (by omega)
 have q4 : ((t2.set (d + 4) (vint .i64 k2)).set (d + 5) (vbool false)).getD (d + 5) (.tup []) = vbool false := getD_set (by simp; omega)
 have hlt : decide (k2 < 0) = false := decide_eq_false (by omega)
 refine ⟨(t2.set (d + 4) (vint .i64 k2)).set (d + 5) (vbool false), ?_, by simp; omega, ?_, ?_, ?_⟩
 ·have h5 : d + 4 + 1 = d + 5 := by omega
  simp only [helT, hd, runA, exec, hops, neg1, execOps, stepO, wants, fop, Opd.ev, q2, put, q3, bin, if_true, binInt, hlt, h5, q4, isBool, Bool.false_eq_true, if_false]
 ·simp only [t2]; rw [List.getElem?_set_ne (by omega), List.getElem?_set_ne (by omega), List.getElem?_set_ne (by omega), List.getElem?_set_ne (by omega)]; exact (a5 0 (by omega)).trans s.t0
 ·rw [List.getElem?_set_ne (by omega), List.getElem?_set_ne (by omega)]; exact List.getElem?_set_self (by simp; omega)
 ·simp only [t2]; rw [List.getElem?_set_ne (by omega), List.getElem?_set_ne (by omega), List.getElem?_set_ne (by omega), List.getElem?_set_ne (by omega)]; exact (a5 5 (by omega)).trans s.t5
def HcsOK (Φ : Nat → Option AFn) (ext : Nat → List V → Option V) (mT : Int → List UInt8) : Nat → List PTy → List MC → Prop
 | j, .lst us :: ts, x :: xs => x.p.sum = j ∧ HeldOK Φ ext mT x.f us ∧ HcsOK Φ ext mT (j + 1) ts xs
 | j, _ :: ts, x :: xs => x.p.sum = j ∧ HcsOK Φ ext mT (j + 1) ts xs
 | _, [], [] => True
 | _, _, _ => False
theorem hrwN_le : ∀ (ts : List PTy) (xs : List MC) (c : Nat), c ≤ hrwN mt c ts xs
 | [], _, c => Nat.le_refl _
 | _ :: _, [], c => Nat.le_refl _
 | t :: ts, x :: xs, c => by
  simp only [hrwN]
  refine Nat.le_trans ?_ (hrwN_le ts xs _)
  cases t <;> simp only [helN] <;> omega
theorem hrw_run (hT : TxOK Φ ext mT mt) {rows : List (List PV)} {z i : Nat} : ∀ (ts : List PTy) (xs : List MC) {c : Nat} {dn row : List PV} {k : Int} {t : List V}, HcsOK Φ ext mT dn.length ts xs → HasL ts row → rows[i]? = some (dn ++ (mkL mT row k).1) → z = dn.length + ts.length → HdSt rows i k t → 0 ≤ k → (mkL mT row k).2 ≤ mkM → 12 ≤ c → hrwN mt c ts xs ≤ t.length →
 ∃ t', runA (callL Φ ext) loopL (hrwR z mt c ts xs) ⟨t, []⟩ = some ⟨t', []⟩ ∧ t'.length = t.length ∧ HdSt rows i (mkL mT row k).2 t'
 | [], xs, c, dn, row, k, t, hm, hr, hE, hz, s, h0, hk, hc, hl => by
  obtain rfl := HasL_nil hr
  cases xs <;> exact ⟨t, rfl, rfl, by simpa only [mkL] using s⟩
 | ty :: ts, [], c, dn, row, k, t, hm, hr, hE, hz, s, h0, hk, hc, hl => by cases ty <;> exact hm.elim
 | ty :: ts, x :: xs, c, dn, row, k, t, hm, hr, hE, hz, s, h0, hk, hc, hl => by
  obtain ⟨p, rest, rfl, hp, hr'⟩ := HasL_cons hr
  have hle := mkL_le mT rest (mkP mT p k).2
  have hlp := mkP_le mT p k
  simp only [mkL] at hk hE
  simp only [hrwN] at hl
  have hN := hrwN_le (mt := mt) ts xs (helN mt c ty x)
  have hnext : HcsOK Φ ext mT (dn ++ [(mkP mT p k).1]).length ts xs := by
   have : (dn ++ [(mkP mT p k).1]).length = dn.length + 1 := by simp
   rw [this]
   cases ty <;> first | exact hm.2 | exact hm.2.2
  have hx : x.p.sum = dn.length := by cases ty <;> exact hm.1
  have hel : (dn ++ (mkP mT p k).1 :: (mkL mT rest (mkP mT p k).2).1).length = z := by
   rw [hz, List.length_append, List.length_cons, mkL_len, HasL_len hr']; rfl
  have hq : (dn ++ (mkP mT p k).1 :: (mkL mT rest (mkP mT p k).2).1)[x.p.sum]? = some (mkP mT p k).1 := by rw [hx]; exact get_mid
  have cell : ∃ t', runA (callL Φ ext) loopL (helR z mt c ty x) ⟨t, []⟩ = some ⟨t', []⟩ ∧ t'.length = t.length ∧ HdSt rows i (mkP mT p k).2 t' := by
   by_cases hf : ty.flatT = true
   ·have hR : helR z mt c ty x = helS z mt c ty x := by cases ty <;> first | rfl | cases hf
    have hN' : helN mt c ty x = c + 8 + (valH mt (c + 2 + x.p.length) ty).length + x.p.length := by cases ty <;> first | rfl | cases hf
    rw [hR]
    have := (mkP_flat (mT := mT) hp hf k).2.2
    exact helS_run hT hp hf s h0 (by omega) hc hE hel hq (by omega)
   ·cases ty with
    | lst us =>
     obtain ⟨ys, rfl⟩ := Has_lst hp
     have hN' : helN mt c (.lst us) x = c + 8 + x.p.length := rfl
     have hk' : (mkR mT ys k).2 ≤ mkM := by simp only [mkP] at hle hk; omega
     exact helT_run hm.2.1 hp s h0 hk' hc hE hel hq (by omega)
    | _ => exact absurd rfl hf
  obtain ⟨t1, e1, e2, e3⟩ := cell
  have hc' : c ≤ helN mt c ty x := by cases ty <;> simp only [helN] <;> omega
  obtain ⟨t2, f1, f2, f3⟩ := hrw_run hT (rows := rows) (z := z) (i := i) ts xs (c := helN mt c ty x) (dn := dn ++ [(mkP mT p k).1]) (row := rest) (k := (mkP mT p k).2) (t := t1) hnext hr' (by rw [hE]; simp) (by rw [hz]; simp; omega) e3 (by omega) hk (by omega) (by omega)
  refine ⟨t2, ?_, by omega, by simp only [mkL]; exact f3⟩
  simp only [hrwR]
  rw [runA_app e1, f1]
theorem held_loop (hT : TxOK Φ ext mT mt) {ts : List PTy} {xs : List MC} (hm : HcsOK Φ ext mT 0 ts xs) {R : List (List PV)} (hR : R.length ≤ maxLen) : ∀ (rest done : List (List PV)) (k : Int) (t : List V), R = done ++ (mkR mT rest k).1 → HdSt R done.length k t → (∀ r ∈ rest, HasL ts r) → 0 ≤ k → (mkR mT rest k).2 ≤ mkM → hrwN mt 12 ts xs ≤ t.length →
 ∃ t', loopL (exec (callL Φ ext) loopL (heldB mt ts xs)) ⟨t, []⟩ = some (.exit 0, ⟨t', []⟩) ∧ t'.length = t.length ∧ t'[1]? = some (vint .i64 (mkR mT rest k).2) := by
 intro rest
 have hN := hrwN_le (mt := mt) ts xs 12
 have head : ∀ (n : Nat) (k : Int) (t : List V), HdSt R n k t → hrwN mt 12 ts xs ≤ t.length → ∃ t', exec (callL Φ ext) loopL (hdr 5 0 6) ⟨t, []⟩ = some (if n < R.length then .normal else .exit 0, ⟨t', []⟩) ∧ t'.length = t.length ∧ HdSt R n k t' := by
  intro n k t s hl
  let t1 := (((t.set 6 (vint .i64 n)).set 7 (vlst R)).set 8 (vint .i64 R.length)).set 9 (vbool (decide (n < R.length)))
  have e0 := getD_some s.t5
  have e1 : (t.set 6 (vint .i64 n)).getD 0 (.tup []) = vlst R := (getD_ne (by omega)).trans (getD_some s.t0)
  have e2 : ((t.set 6 (vint .i64 n)).set 7 (vlst R)).getD 7 (.tup []) = vlst R := getD_set (by simp; omega)
  have e3 : (((t.set 6 (vint .i64 n)).set 7 (vlst R)).set 8 (vint .i64 R.length)).getD 6 (.tup []) = vint .i64 n := (getD_ne (by omega)).trans ((getD_ne (by omega)).trans (getD_set (by omega)))
  have e4 : (((t.set 6 (vint .i64 n)).set 7 (vlst R)).set 8 (vint .i64 R.length)).getD 8 (.tup []) = vint .i64 R.length := getD_set (by simp; omega)
  have e5 : t1.getD 9 (.tup []) = vbool (decide (n < R.length)) := getD_set (by simp; omega)
  have e6 : asList [] (vlst R) = some R := rfl
  have e7 : decide ((n : Int) < (R.length : Int)) = decide (n < R.length) := by
   by_cases h : n < R.length
   ·rw [decide_eq_true h, decide_eq_true (by omega)]
   ·rw [decide_eq_false h, decide_eq_false (by omega)]
  refine ⟨t1, ?_, by simp [t1], ?_, ?_, ?_⟩
  ·simp only [hdr, exec, execOps, stepO, wants, fop, Opd.ev, e0, put, e1, e2, e6, e3, e4, bin, if_true, binInt, e7]
   have e5' := e5
   simp only [t1] at e5'
   rw [e5']
   by_cases h : n < R.length
   ·simp only [isBool, h, decide_true, if_true, t1]
   ·simp only [isBool, h, decide_false, Bool.false_eq_true, if_false, t1]
  ·simp only [t1]; rw [List.getElem?_set_ne (by omega), List.getElem?_set_ne (by omega), List.getElem?_set_ne (by omega), List.getElem?_set_ne (by omega)]; exact s.t0
  ·simp only [t1]; rw [List.getElem?_set_ne (by omega), List.getElem?_set_ne (by omega), List.getElem?_set_ne (by omega), List.getElem?_set_ne (by omega)]; exact s.t1
  ·simp only [t1]; rw [List.getElem?_set_ne (by omega), List.getElem?_set_ne (by omega), List.getElem?_set_ne (by omega), List.getElem?_set_ne (by omega)]; exact s.t5
 induction rest with
 | nil =>
  intro done k t hRe s hr h0 hk hl
  simp only [mkR, List.append_nil] at hRe
  obtain ⟨t', a1, a2, a3⟩ := head done.length k t s hl
  refine ⟨t', loopL_end ?_ (by simp), a2, by simp only [mkR]; exact a3.t1⟩
  have : ¬ done.length < R.length := by rw [hRe]; omega
  simp only [heldB, exec, a1, this, if_false]
 | cons r rest ih =>
  intro done k t hRe s hr h0 hk hl
  obtain ⟨t1, a1, a2, a3⟩ := head done.length k t s hl
  simp only [mkR] at hk hRe
  have hle := mkR_le mT rest (mkL mT r k).2
  have hll := mkL_le mT r k
  have hlt : done.length < R.length := by rw [hRe]; simp
  obtain ⟨t2, b1, b2, b3⟩ := hrw_run hT (rows := R) (z := ts.length) (i := done.length) ts xs (c := 12) (dn := []) (row := r) (k := k) (t := t1) hm (hr r (by simp)) (by rw [hRe, List.getElem?_append_right (Nat.le_refl _), Nat.sub_self]; rfl) (by simp) a3 h0 (by omega) (Nat.le_refl _) (by omega)
  have hw := wrap_small (k := done.length) (by unfold maxLen at hR; omega)
  let t3 := ((t2.set 10 (vint .i64 done.length)).set 11 (vint .i64 ((done.length : Int) + 1))).set 5 (vint .i64 ((done.length : Int) + 1))
  have f0 := getD_some b3.t5
  have f1 : (t2.set 10 (vint .i64 done.length)).getD 10 (.tup []) = vint .i64 done.length := getD_set (by omega)
  have f2 : ((t2.set 10 (vint .i64 done.length)).set 11 (vint .i64 ((done.length : Int) + 1))).getD 11 (.tup []) = vint .i64 ((done.length : Int) + 1) := getD_set (by simp; omega)
  have f3 : exec (callL Φ ext) loopL (ftr 5 10) ⟨t2, []⟩ = some (.normal, ⟨t3, []⟩) := by
   simp only [ftr, exec, execOps, stepO, wants, fop, Opd.ev, f0, put, f1, bin, if_true, binInt, hw, f2, t3]
  have s3 : HdSt R (done ++ [(mkL mT r k).1]).length (mkL mT r k).2 t3 := by
   have hlen1 : (done ++ [(mkL mT r k).1]).length = done.length + 1 := by simp
   rw [hlen1]
   refine ⟨?_, ?_, ?_⟩
   ·simp only [t3]; rw [List.getElem?_set_ne (by omega), List.getElem?_set_ne (by omega), List.getElem?_set_ne (by omega)]; exact b3.t0
   ·simp only [t3]; rw [List.getElem?_set_ne (by omega), List.getElem?_set_ne (by omega), List.getElem?_set_ne (by omega)]; exact b3.t1
   ·simp only [t3]; exact List.getElem?_set_self (by simp; omega)
  obtain ⟨t4, g1, g2, g3⟩ := ih (done ++ [(mkL mT r k).1]) (mkL mT r k).2 t3 (by rw [hRe]; simp) s3 (fun r m => hr r (by simp [m])) (by omega) hk (by simp [t3]; omega)
  refine ⟨t4, (loopL_next (σ' := ⟨t3, []⟩) ?_).trans g1, by rw [g2]; simp [t3]; omega, by simp only [mkR]; exact g3⟩
  have hb := seqA_run b1
  simp only [heldB, exec, a1, hlt, if_true, hb, f3]
theorem heldF_ok (hT : TxOK Φ ext mT mt) {f : Nat} {ts : List PTy} {xs : List MC} (hk : Φ f = some (heldF mt ts xs)) (hm : HcsOK Φ ext mT 0 ts xs) : HeldOK Φ ext mT f ts := by
 have hN := hrwN_le (mt := mt) ts xs 12
 obtain ⟨m, hm'⟩ : ∃ m, hrwN mt 12 ts xs + 1 - 2 = m + 11 := ⟨hrwN mt 12 ts xs - 12, by omega⟩
 intro rows h k h0 hk2
 obtain ⟨hl1, hr⟩ := Has_rows h
 refine callL_fn hk ?_
 have hst : start (heldF mt ts xs) [vlst (mkR mT rows k).1, vint .i64 k] = ⟨vlst (mkR mT rows k).1 :: vint .i64 k :: List.replicate (m + 11) (.tup []), []⟩ := by
  simp only [start, heldF, List.length_cons, List.length_nil, List.cons_append, List.nil_append, hm']
 let t0 : List V := vlst (mkR mT rows k).1 :: vint .i64 k :: .tup [] :: .tup [] :: vint .i64 0 :: vint .i64 0 :: List.replicate (m + 7) (.tup [])
 have hl0 : t0.length = hrwN mt 12 ts xs + 1 := by simp [t0]; omega
 obtain ⟨t', a1, a2, a3⟩ := held_loop hT hm (R := (mkR mT rows k).1) (by rw [mkR_len]; exact hl1) rows [] k t0 (by simp) ⟨rfl, rfl, rfl⟩ hr h0 hk2 (by omega)
 have q1 : t'.getD 1 (.tup []) = vint .i64 (mkR mT rows k).2 := getD_some a3
 have q2 : (t'.set (hrwN mt 12 ts xs) (vint .i64 (mkR mT rows k).2)).getD (hrwN mt 12 ts xs) (.tup []) = vint .i64 (mkR mT rows k).2 := getD_set (by omega)
 have hend : exec (callL Φ ext) loopL (.seq (.region [⟨some (hrwN mt 12 ts xs), .mv (.tmp 1), none⟩, ⟨some 4, .mv (.tmp (hrwN mt 12 ts xs)), none⟩]) .ret) ⟨t', []⟩ = some (.ret, ⟨(t'.set (hrwN mt 12 ts xs) (vint .i64 (mkR mT rows k).2)).set 4 (vint .i64 (mkR mT rows k).2), []⟩) := by
  simp only [exec, execOps, stepO, wants, fop, Opd.ev, q1, put, q2]
 have q3 : ((t'.set (hrwN mt 12 ts xs) (vint .i64 (mkR mT rows k).2)).set 4 (vint .i64 (mkR mT rows k).2)).getD 4 (.tup []) = vint .i64 (mkR mT rows k).2 := getD_set (by simp; omega)
 have hrun : execL Φ ext (heldF mt ts xs).body (start (heldF mt ts xs) [vlst (mkR mT rows k).1, vint .i64 k]) = some (.ret, ⟨(t'.set (hrwN mt 12 ts xs) (vint .i64 (mkR mT rows k).2)).set 4 (vint .i64 (mkR mT rows k).2), []⟩) := by
  rw [hst]
  generalize hec : ACode.seq (.region [⟨some (hrwN mt 12 ts xs), .mv (.tmp 1), none⟩, ⟨some 4, .mv (.tmp (hrwN mt 12 ts xs)), none⟩]) .ret = ec at hend
  have hrep : List.replicate (m + 11) (V.tup []) = .tup [] :: .tup [] :: .tup [] :: .tup [] :: List.replicate (m + 7) (.tup []) := rfl
  generalize hlp : loopL (exec (callL Φ ext) loopL (heldB mt ts xs)) = lp at a1
  simp only [t0] at a1
  simp only [execL, heldF, hec, hrep, exec, execOps, stepO, wants, fop, Opd.ev, put, List.set_cons_succ, List.set_cons_zero, hlp, a1, if_true]
  exact hend
 rw [hrun]
 simp only [done, heldF, finish, resultsOf, resultOf, q3, List.flatMap_cons, List.flatMap_nil, List.append_nil, V.cells, comps, comp, giveLs, giveL]
 rfl
end
end Gi
