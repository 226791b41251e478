/- Of this proof. -/
import Derived.Test.YtlohbkffhpnfgaaGreatGpa
set_option linter.unusedSimpArgs false
set_option linter.unusedVariables false
namespace Gi
open Go Go.RowKit
def Jm (z : Nat) (rows : List (List PV)) : L := match rows with
 | [] => .own z []
 | rows => .down z rows
def pB (k z : Nat) (es : List (List PV)) : AObj := match k with
 | 0 => .arr z es
 | _ + 1 => .darr z es
theorem GO {z : Nat} {es : List (List PV)} : pB 0 z es = .arr z es := rfl
theorem Mz {k z : Nat} {es : List (List PV)} : pB (k + 1) z es = .darr z es := rfl
theorem AW {h : List AObj} {k z : Nat} {es : List (List PV)} (h0 : h[0]? = some (pB k z es)) (hb : k = 0 → it es = true) : ba h 0 = some (z, es) := by
 cases k with
 | zero => simp only [pB] at h0; simp only [ba, h0, hb rfl, if_true]
 | succ k => simp only [pB] at h0; simp only [ba, h0]
theorem AX {h : List AObj} {k z i : Nat} {es : List (List PV)} (h0 : h[0]? = some (pB k z es)) (hi : i < es.length) : aI h z (.one (.arr 0)) i = some (.one (.ptr 0 i 0)) := by
 cases k with
 | zero => simp only [pB] at h0; simp [aI, h0, hi]
 | succ k => simp only [pB] at h0; simp [aI, h0, hi]
theorem GQ {m : Nat} {zero : List PV} (hz : zero.all PV.bare = true) : it (List.replicate m zero) = true := by
 unfold it
 rw [List.all_eq_true]
 intro e he
 obtain ⟨_, rfl⟩ := List.mem_replicate.1 he
 exact hz
theorem sa : ∀ (ls : List L) (h : List AObj), ls.all L.clean = true → ls.all L.closed = true → (thawL h ls).1.all (L.mov (thawL h ls).2) = true
 | [], h, _, _ => by simp [thawL]
 | l :: ls, h, hc, hk => by
  simp only [List.all_cons, Bool.and_eq_true] at hc hk
  cases l with
  | own z es =>
   obtain ⟨t, ht⟩ := mD ls (h ++ [.arr z es]) hc.2
   have hg : (thawL (h ++ [AObj.arr z es]) ls).2[h.length]? = some (.arr z es) := by rw [ht]; simp
   simp only [thawL, List.all_cons, Bool.and_eq_true]
   refine ⟨?_, sa ls _ hc.2 hk.2⟩
   simp only [L.mov, hg]
   exact hk.1
  | down z es =>
   obtain ⟨t, ht⟩ := mD ls (h ++ [.darr z es]) hc.2
   have hg : (thawL (h ++ [AObj.darr z es]) ls).2[h.length]? = some (.darr z es) := by rw [ht]; simp
   simp only [thawL, List.all_cons, Bool.and_eq_true]
   refine ⟨?_, sa ls _ hc.2 hk.2⟩
   simp only [L.mov, hg]
  | pv p =>
   simp only [thawL, List.all_cons, Bool.and_eq_true]
   exact ⟨hk.1, sa ls _ hc.2 hk.2⟩
  | nil =>
   simp only [thawL, List.all_cons, Bool.and_eq_true]
   exact ⟨rfl, sa ls _ hc.2 hk.2⟩
  | _ => simp [L.closed] at hk
theorem zb {t : PTy} {p : PV} (h : nb t p) : (uk t p).closed = true := by
 cases t with
 | int k => obtain ⟨n, rfl⟩ := kI h; rfl
 | bool => obtain ⟨n, rfl⟩ := jH h; rfl
 | str => obtain ⟨n, rfl⟩ := jh h; rfl
 | lst us =>
  obtain ⟨rows, rfl⟩ := mn h
  cases rows <;> rfl
theorem rE : ∀ {ts : List PTy} {ps : List PV}, a9 ts ps → (gu ts ps).all L.closed = true
 | [], ps, _ => by simp [gu]
 | t :: ts, ps, h => by
  obtain ⟨p, r, rfl, h1, h2⟩ := dk h
  simp only [gu, List.all_cons, zb h1, rE h2, Bool.and_self]
theorem CS {h' : List AObj} {z k : Nat} {es : List (List PV)} {e r : List PV} {ls' : List L} (hd : ba h' 0 = some (z, es)) (hpos : 0 < h'.length) (he : es[k]? = some e) (hez : e.length = z) (hv : viewL h' ls' = some r) (hl : ls'.length = z) (hna : ls'.all (L.notArr 0) = true) (hm : ls'.all (L.mov h') = true) (hnd : (ah ls').Nodup) :
 ∃ h'', storeD h' z (.one (.ptr 0 k 0)) (.agg ls') = some (.darr z (es.set k r) :: h'') := by
 have hrl : r.length = z := by rw [(lA hv).1]; exact hl
 have hlen : (freezeLs h' ls').length = h'.length := lg ls'
 cases hf : freezeLs h' ls' with
 | nil => rw [hf] at hlen; simp at hlen; omega
 | cons x h'' =>
  refine ⟨h'', ?_⟩
  have hv' : viewL h' (V.agg ls').cells = some r := hv
  have key : (V.agg ls').cells.length = z ∧ 0 + z ≤ e.length ∧ (V.agg ls').cells.all (L.notArr 0) = true ∧ (V.agg ls').cells.all (L.mov h') = true ∧ (ah (V.agg ls').cells).Nodup := ⟨hl, by omega, hna, hm, hnd⟩
  simp only [storeD, hd, he, hv']
  rw [if_pos key, CA e r (by omega)]
  simp only [V.cells, hf]
  rfl
section
variable {Φ : Nat → Option AFn} {ext : Nat → List V → Option V}
def sH (z : Nat) (K : Ks) : ACode := .seq (EB 4 0 8) (.seq (.block 1 (.region [⟨some 14, .mv (.tmp 3), none⟩, ⟨some 15, .mv (.tmp 4), none⟩, ⟨some 16, .mv (.tmp 0), none⟩, ⟨some 17, .mv (.tmp 4), none⟩, ⟨some 18, .indexA z (.tmp 16) (.tmp 17), none⟩, ⟨some 19, .load true z (.tmp 18), none⟩, ⟨some 20, GZ K (.tmp 19), none⟩, ⟨some 21, .indexA z (.tmp 14) (.tmp 15), none⟩, ⟨none, .storeD z (.tmp 21) (.tmp 20), none⟩])) (Fz 4 12))
def Gp (bytes z : Nat) (K : Ks) (zero : List PV) : AFn := ⟨23, [.tmp 2], .seq (.region [⟨some 2, .mv .nil, none⟩]) (.seq (.region [⟨some 5, .mv (.tmp 0), none⟩, ⟨some 6, .len (.tmp 5), none⟩, ⟨some 7, .make bytes zero (.tmp 6), none⟩, ⟨some 3, .mv (.tmp 7), none⟩]) (.seq (.seq (.region [⟨some 4, .mv (.pv (.int .i64 0)), none⟩]) (.block 0 (.loop (sH z K)))) (.seq (.region [⟨some 22, .mv (.tmp 3), none⟩, ⟨some 2, .mv (.tmp 22), none⟩]) .ret)))⟩
def JT (Φ : Nat → Option AFn) (ext : Nat → List V → Option V) (K : Ks) (r : List PV) : Prop :=
 ∃ ls, ae Φ ext K.kt [.agg (r.map .pv)] = some (.agg ls) ∧ ls.all L.clean = true ∧ ls.all L.closed = true ∧ ls.map B3 = r ∧ (K.fl = true → ls = r.map .pv ∧ ls.all L.flat = true)
theorem NA {z : Nat} {K : Ks} {zero : List PV} {rows : List (List PV)} (hz : ∀ r ∈ rows, r.length = z) (hzero : zero.length = z) (hzb : zero.all PV.bare = true) (hlen : rows.length ≤ maxLen) (hcp : ∀ r ∈ rows, JT Φ ext K r) : ∀ (m k : Nat), k + m = rows.length →
 ∀ (u1 u2 u5 u6 u7 x8 x9 x10 x11 x12 x13 x14 x15 x16 x17 x18 x19 x20 x21 u22 : V) (extra : List AObj),
  ∃ t' h', aq (ai (ae Φ ext) aq (sH z K)) ⟨[bu rows, u1, u2, .one (.arr 0), aa .i64 k, u5, u6, u7, x8, x9, x10, x11, x12, x13, x14, x15, x16, x17, x18, x19, x20, x21, u22], pB k z (rows.take k ++ List.replicate m zero) :: extra⟩ = some (.exit 0, ⟨t', pB rows.length z rows :: h'⟩) ∧ t'.length = 23 ∧ t'[3]? = some (.one (.arr 0)) := by
 intro m
 induction m with
 | zero =>
  intro k hk u1 u2 u5 u6 u7 x8 x9 x10 x11 x12 x13 x14 x15 x16 x17 x18 x19 x20 x21 u22 extra
  have hk' : k = rows.length := by omega
  subst hk'
  rw [rq]
  simp [sH, EB, ai, ag, aw, aH, bf, Opd.ev, put, asList, L.view, bin, bC, isBool]
 | succ m ih =>
  intro k hk u1 u2 u5 u6 u7 x8 x9 x10 x11 x12 x13 x14 x15 x16 x17 x18 x19 x20 x21 u22 extra
  have hlt : k < rows.length := by omega
  have hr : rows[k]? = some rows[k] := by simp [hlt]
  have hrz : (rows[k]).length = z := hz _ (List.getElem_mem hlt)
  obtain ⟨ls, c1, c2, c5, c3, c4⟩ := hcp _ (List.getElem_mem hlt)
  have hw := je (k := k) (by unfold maxLen at hlen; omega)
  have hcut : f4 true z 0 ((rows[k]).map L.pv) = some (.agg ((rows[k]).map .pv)) := by
   simp [f4, hrz, List.take_of_length_le (show ((rows[k]).map L.pv).length ≤ z by simp [hrz])]
  have hcast : ((k + 1 : Nat) : Int) = (k : Int) + 1 := by omega
  have hbz : k = 0 → it (rows.take k ++ List.replicate (m + 1) zero) = true := by
   intro e; subst e; simpa using GQ hzb
  generalize hE : rows.take k ++ List.replicate (m + 1) zero = E at *
  have hEl : k < E.length := by rw [← hE]; simp; omega
  have hat : E[k]? = some zero := by rw [← hE]; exact OJ (by omega)
  have hset' : E.set k rows[k] = rows.take (k + 1) ++ List.replicate m zero := by rw [← hE]; exact MV (by omega)
  cases hK : K.fl with
  | true =>
   obtain ⟨rfl, hfl⟩ := c4 hK
   obtain ⟨g, ea⟩ := Gives.pvs (pB k z E :: extra) rows[k]
   obtain ⟨h'', hst⟩ := CS (h' := pB k z E :: extra) (k := k) (r := rows[k]) (ls' := (rows[k]).map .pv) (AW rfl hbz) (by simp) hat hzero (oL _ _) (by simp [hrz]) (LK _ _) (by
    rw [List.all_eq_true] at c5 ⊢
    intro l hl
    obtain ⟨p, hp, rfl⟩ := List.mem_map.1 hl
    exact c5 _ hl) (by rw [ea]; exact List.nodup_nil)
   rw [hset'] at hst
   have hset : ((rows[k]).map L.pv).map di = (rows[k]).map L.pv := by simp [di]
   have hel := AX (h := pB k z E :: extra) (k := k) (z := z) (i := k) (es := E) rfl hEl
   have key := ih (k + 1) (by omega) u1 u2 u5 u6 u7 (aa .i64 k) (bu rows) (aa .i64 rows.length) (ar true) (aa .i64 k) (aa .i64 ((k : Int) + 1)) (.one (.arr 0)) (aa .i64 k) (bu rows) (aa .i64 k) (.one (.ip rows[k] 0)) (.agg ((rows[k]).map .pv)) (.agg ((rows[k]).map .pv)) (.one (.ptr 0 k 0)) u22 h''
   obtain ⟨t', h', e1, e2, e3⟩ := key
   refine ⟨t', h', (fv ?_).trans e1, e2, e3⟩
   rw [hcast]
   have hip : aI (pB k z E :: extra) z (bu rows) k = some (.one (.ip rows[k] 0)) := by simp [aI, hlt, hrz]
   generalize hO : pB k z E = O at *
   simp [sH, EB, Fz, ai, ag, aw, aH, bf, bW, Opd.ev, put, asList, L.view, bin, bC, isBool, isInt, hlt, hip, hel, hrz, bm, hcut, GZ, hK, am, p6, c1, V.flat, hfl, dF, hset, hst, hw, pB]
  | false =>
   obtain ⟨t, ht⟩ := mD ls (pB k z E :: extra) c2
   have hv := p5 ls (pB k z E :: extra) c2
   have hna := mE ls (pB k z E :: extra) 0 c2 (by simp)
   have hll := (jP ls (pB k z E :: extra) c2).1
   have hmv := sa ls (pB k z E :: extra) c2 c5
   have hnd := (oK ls (pB k z E :: extra) c2).1.nodup
   have hlz : ls.length = z := by rw [← hrz, ← c3]; simp
   rw [c3] at hv
   generalize hth : thawL (pB k z E :: extra) ls = th at *
   obtain ⟨ls', h1⟩ := th
   simp only at ht hv hna hll hmv hnd
   have hh0 : h1[0]? = some (pB k z E) := by rw [ht]; rfl
   obtain ⟨h'', hst⟩ := CS (h' := h1) (k := k) (r := rows[k]) (ls' := ls') (AW hh0 hbz) (by rw [ht]; simp) hat hzero hv (by rw [hll, hlz]) hna hmv hnd
   rw [hset'] at hst
   have hel := AX (h := h1) (k := k) (z := z) (i := k) (es := E) hh0 hEl
   have key := ih (k + 1) (by omega) u1 u2 u5 u6 u7 (aa .i64 k) (bu rows) (aa .i64 rows.length) (ar true) (aa .i64 k) (aa .i64 ((k : Int) + 1)) (.one (.arr 0)) (aa .i64 k) (bu rows) (aa .i64 k) (.one (.ip rows[k] 0)) (.agg ((rows[k]).map .pv)) (.agg ls') (.one (.ptr 0 k 0)) u22 h''
   obtain ⟨t', h', e1, e2, e3⟩ := key
   refine ⟨t', h', (fv ?_).trans e1, e2, e3⟩
   rw [hcast]
   have hip : aI (pB k z E :: extra) z (bu rows) k = some (.one (.ip rows[k] 0)) := by simp [aI, hlt, hrz]
   generalize hO : pB k z E = O at *
   simp [sH, EB, Fz, ai, ag, aw, aH, bf, bW, Opd.ev, put, asList, L.view, bin, bC, isBool, isInt, hlt, hip, hel, hrz, bm, hcut, GZ, hK, am, p6, c1, thaw, hth, yU, hst, hw, pB]
theorem Pl {k bytes z : Nat} {K : Ks} {zero : List PV} {rows : List (List PV)} (hk : Φ k = some (Gp bytes z K zero)) (hz : ∀ r ∈ rows, r.length = z) (hz0 : 0 < z) (hzero : zero.length = z) (hzb : zero.all PV.bare = true) (hlen : rows.length ≤ maxLen) (hb : (rows.length : Int) * bytes ≤ 140737488355328) (hcp : ∀ r ∈ rows, JT Φ ext K r) :
 ae Φ ext k [bu rows] = some (.one (Jm z rows)) := by
 refine eN hk ?_
 obtain ⟨t', h', e1, e2, e3⟩ := NA (Φ := Φ) (ext := ext) hz hzero hzb hlen hcp rows.length 0 (by omega) (.tup []) (.one .nil) (bu rows) (aa .i64 rows.length) (.one (.arr 0)) (.tup []) (.tup []) (.tup []) (.tup []) (.tup []) (.tup []) (.tup []) (.tup []) (.tup []) (.tup []) (.tup []) (.tup []) (.tup []) (.tup []) (.tup []) []
 simp only [List.take_zero, List.nil_append, show ((0 : Nat) : Int) = 0 from rfl, GO] at e1
 have hl63 : (rows.length : Int) ≤ 9223372036854775807 := by unfold maxLen at hlen; omega
 obtain ⟨_, e4⟩ := List.getElem?_eq_some_iff.1 e3
 generalize hF : ai (ae Φ ext) aq (sH z K) = F at e1
 have e5 : br (pB rows.length z rows :: h') (.arr 0) = some (Jm z rows) := by cases rows <;> simp [br, pB, Jm]
 generalize hO : pB rows.length z rows = O at *
 simp [Gp, bt, fe, ai, hF, ag, aw, aH, bf, bW, Opd.ev, put, asList, L.view, isInt, hb, hl63, hzero, hz0, e1, done, aR, au, bw, bO, comp, aJ, e5, ah, e2, e4, V.cells]
def wI : ACode := .seq (EB 4 0 8) (.seq (.block 1 (.region [⟨some 14, .mv (.tmp 3), none⟩, ⟨some 15, .mv (.tmp 4), none⟩, ⟨some 16, .mv (.tmp 0), none⟩, ⟨some 17, .mv (.tmp 4), none⟩, ⟨some 18, .indexA 1 (.tmp 16) (.tmp 17), none⟩, ⟨some 19, .load false 1 (.tmp 18), none⟩, ⟨some 20, .indexA 1 (.tmp 14) (.tmp 15), none⟩, ⟨none, .storeD 1 (.tmp 20) (.tmp 19), none⟩])) (Fz 4 12))
def Pv (bytes : Nat) (zero : PV) : AFn := ⟨22, [.tmp 2], .seq (.region [⟨some 2, .mv .nil, none⟩]) (.seq (.region [⟨some 5, .mv (.tmp 0), none⟩, ⟨some 6, .len (.tmp 5), none⟩, ⟨some 7, .make bytes [zero] (.tmp 6), none⟩, ⟨some 3, .mv (.tmp 7), none⟩]) (.seq (.seq (.region [⟨some 4, .mv (.pv (.int .i64 0)), none⟩]) (.block 0 (.loop wI))) (.seq (.region [⟨some 21, .mv (.tmp 3), none⟩, ⟨some 2, .mv (.tmp 21), none⟩]) .ret)))⟩
theorem NC {zero : PV} {rows : List (List PV)} (hz : ∀ r ∈ rows, ∃ q : PV, r = [q] ∧ q.bare = true) (hzb : zero.bare = true) (hlen : rows.length ≤ maxLen) : ∀ (m k : Nat), k + m = rows.length →
 ∀ (u1 u2 u5 u6 u7 x8 x9 x10 x11 x12 x13 x14 x15 x16 x17 x18 x19 x20 u21 : V) (extra : List AObj),
  ∃ t' h', aq (ai (ae Φ ext) aq wI) ⟨[bu rows, u1, u2, .one (.arr 0), aa .i64 k, u5, u6, u7, x8, x9, x10, x11, x12, x13, x14, x15, x16, x17, x18, x19, x20, u21], pB k 1 (rows.take k ++ List.replicate m [zero]) :: extra⟩ = some (.exit 0, ⟨t', pB rows.length 1 rows :: h'⟩) ∧ t'.length = 22 ∧ t'[3]? = some (.one (.arr 0)) := by
 intro m
 induction m with
 | zero =>
  intro k hk u1 u2 u5 u6 u7 x8 x9 x10 x11 x12 x13 x14 x15 x16 x17 x18 x19 x20 u21 extra
  have hk' : k = rows.length := by omega
  subst hk'
  rw [rq]
  simp [wI, EB, ai, ag, aw, aH, bf, Opd.ev, put, asList, L.view, bin, bC, isBool]
 | succ m ih =>
  intro k hk u1 u2 u5 u6 u7 x8 x9 x10 x11 x12 x13 x14 x15 x16 x17 x18 x19 x20 u21 extra
  have hlt : k < rows.length := by omega
  obtain ⟨q, hq, hqb⟩ := hz _ (List.getElem_mem hlt)
  have hw := je (k := k) (by unfold maxLen at hlen; omega)
  have hcut : f4 false 1 0 [L.pv q] = some (.one (.pv q)) := by simp [f4]
  have hcast : ((k + 1 : Nat) : Int) = (k : Int) + 1 := by omega
  have hbz : k = 0 → it (rows.take k ++ List.replicate (m + 1) [zero]) = true := by
   intro e; subst e; simpa using GQ (m := m + 1) (zero := [zero]) (by simp [hzb])
  generalize hE : rows.take k ++ List.replicate (m + 1) [zero] = E at *
  have hEl : k < E.length := by rw [← hE]; simp; omega
  have hat : E[k]? = some [zero] := by rw [← hE]; exact OJ (by omega)
  have hset' : E.set k rows[k] = rows.take (k + 1) ++ List.replicate m [zero] := by rw [← hE]; exact MV (by omega)
  rw [hq] at hset'
  have hdp := AW (h := pB k 1 E :: extra) rfl hbz
  have hst : storeD (pB k 1 E :: extra) 1 (.one (.ptr 0 k 0)) (.one (.pv q)) = some (pB (k + 1) 1 (rows.take (k + 1) ++ List.replicate m [zero]) :: extra) := by
   simp [storeD, hdp, hat, V.cells, viewL, L.view, L.notArr, L.mov, hqb, ah, freezeLs, freezeL, putAt, hset', Mz]
  have hel := AX (h := pB k 1 E :: extra) (k := k) (z := 1) (i := k) (es := E) rfl hEl
  obtain ⟨t', h', g1, g2⟩ := ih (k + 1) (by omega) u1 u2 u5 u6 u7 (aa .i64 k) (bu rows) (aa .i64 rows.length) (ar true) (aa .i64 k) (aa .i64 ((k : Int) + 1)) (.one (.arr 0)) (aa .i64 k) (bu rows) (aa .i64 k) (.one (.ip [q] 0)) (.one (.pv q)) (.one (.ptr 0 k 0)) u21 extra
  refine ⟨t', h', (fv ?_).trans g1, g2⟩
  rw [hcast]
  have hip : aI (pB k 1 E :: extra) 1 (bu rows) k = some (.one (.ip [q] 0)) := by simp [aI, hlt, hq]
  generalize hO : pB k 1 E = O at *
  generalize hO' : pB (k + 1) 1 (rows.take (k + 1) ++ List.replicate m [zero]) = O' at *
  simp [wI, EB, Fz, ai, ag, aw, aH, bf, bW, Opd.ev, put, asList, L.view, bin, bC, isBool, isInt, hlt, hip, hel, bm, hcut, hst, hw]
theorem Pm {k bytes : Nat} {zero : PV} {rows : List (List PV)} (hk : Φ k = some (Pv bytes zero)) (hz : ∀ r ∈ rows, ∃ q : PV, r = [q] ∧ q.bare = true) (hzb : zero.bare = true) (hlen : rows.length ≤ maxLen) (hb : (rows.length : Int) * bytes ≤ 140737488355328) :
 ae Φ ext k [bu rows] = some (.one (Jm 1 rows)) := by
 refine eN hk ?_
 obtain ⟨t', h', e1, e2, e3⟩ := NC (Φ := Φ) (ext := ext) (zero := zero) hz hzb hlen rows.length 0 (by omega) (.tup []) (.one .nil) (bu rows) (aa .i64 rows.length) (.one (.arr 0)) (.tup []) (.tup []) (.tup []) (.tup []) (.tup []) (.tup []) (.tup []) (.tup []) (.tup []) (.tup []) (.tup []) (.tup []) (.tup []) (.tup []) []
 simp only [List.take_zero, List.nil_append, show ((0 : Nat) : Int) = 0 from rfl, GO] at e1
 have hl63 : (rows.length : Int) ≤ 9223372036854775807 := by unfold maxLen at hlen; omega
 obtain ⟨_, e4⟩ := List.getElem?_eq_some_iff.1 e3
 generalize hF : ai (ae Φ ext) aq wI = F at e1
 have e5 : br (pB rows.length 1 rows :: h') (.arr 0) = some (Jm 1 rows) := by cases rows <;> simp [br, pB, Jm]
 generalize hO : pB rows.length 1 rows = O at *
 simp [Pv, bt, fe, ai, hF, ag, aw, aH, bf, bW, Opd.ev, put, asList, L.view, isInt, hb, hl63, e1, done, aR, au, bw, bO, comp, aJ, e5, ah, e2, e4, V.cells]
theorem HK (ts : List PTy) (rows : List (List PV)) : uk (.lst ts) (.lst rows) = (Jm ts.length rows) := by cases rows <;> rfl
theorem gG {k bytes z : Nat} {K : Ks} {ts : List PTy} {zero : List PV} (hk : Φ k = some (Gp bytes z K zero)) (hz : ts.length = z) (hzero : zero.length = z) (hzb : zero.all PV.bare = true) (hz0 : 0 < z) (hb : bytes ≤ 134217728) (hx : ji Φ ext K.kt ts) (hfl : K.fl = true → ts.all PTy.flatT = true) : ju Φ ext k ts := by
 intro rows h hs
 obtain ⟨hl, hr⟩ := aK h
 have hn : rows.length ≤ 1048576 := Nat.le_trans (Nat.le_add_right _ (cz rows)) (by rw [← jF]; exact hs)
 rw [HK, hz]
 refine Pl hk (fun r m => by rw [iW (hr r m), hz]) hz0 hzero hzb hl ?_ (fun r m => ?_)
 ·have := Nat.mul_le_mul hn hb
  omega
 ·refine ⟨_, hx r (hr r m) (Pf m hs), ul _ _, rE (hr r m), zc (hr r m), fun hf => ?_⟩
  obtain ⟨e1, e2⟩ := pS (hfl hf) (hr r m)
  exact ⟨e1, by rw [e1]; exact e2⟩
theorem Gq {k bytes : Nat} {t : PTy} {zero : PV} (hk : Φ k = some (Pv bytes zero)) (hzb : zero.bare = true) (ht : t.flatT = true) (hb : bytes ≤ 134217728) : ju Φ ext k [t] := by
 intro rows h hs
 obtain ⟨hl, hr⟩ := aK h
 have hn : rows.length ≤ 1048576 := Nat.le_trans (Nat.le_add_right _ (cz rows)) (by rw [← jF]; exact hs)
 rw [HK]
 refine Pm hk (fun r m => ?_) hzb hl ?_
 ·obtain ⟨q, r', rfl, h1, h2⟩ := dk (hr r m)
  obtain rfl := eL h2
  refine ⟨q, rfl, ?_⟩
  have := zb h1
  rw [vN ht h1] at this
  exact this
 ·have := Nat.mul_le_mul hn hb
  omega
end
end Gi
