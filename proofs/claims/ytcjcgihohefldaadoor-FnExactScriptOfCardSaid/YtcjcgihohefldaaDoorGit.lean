/- Copying, measuring and comparing slices element by element: three loops, each for any element type. -/
import Derived.Test.YtcjcgihohefldaaDoorGis
import Derived.KernelRfl
namespace Gi
open Go Go.RowKit
set_option linter.unusedVariables false
set_option linter.unusedSimpArgs false

theorem loopL_eq (f : St → Option (Ex × St)) (σ : St) : loopL f σ = (match f σ with
    | some (.normal, σ') => loopL f σ'
    | r => r) := by
  cases h : f σ with
  | none =>
    cases hl : loopL f σ with
    | none => rfl
    | some r =>
      obtain ⟨n, hn⟩ := loopL_spec.1 hl
      cases n with
      | zero => simp [loopN] at hn
      | succ n => simp [loopN, h] at hn
  | some x =>
    obtain ⟨e, σ'⟩ := x
    cases e with
    | normal => exact loopL_next h
    | exit i => exact loopL_end h (by simp)
    | ret => exact loopL_end h (by simp)

/-- what a result's cell reads as -/
def forget : L → PV
  | .pv p => p
  | .own _ es => .lst es
  | .down _ es => .lst es
  | _ => .lst []

theorem viewL_pv (h : List AObj) : ∀ (ps : List PV), viewL h (ps.map .pv) = some ps
  | [] => rfl
  | p :: ps => by simp only [List.map_cons, viewL, L.view, viewL_pv h ps]
theorem view_agg (h : List AObj) (ps : List PV) : V.view h (.agg (ps.map .pv)) = some (.agg (ps.map .pv)) := by simp only [V.view, viewL_pv]
theorem mut_pv (h : List AObj) (ps : List PV) : V.mut h (.agg (ps.map .pv)) = false := by
  simp only [V.mut, V.cells, List.any_eq_false]
  intro l hl
  obtain ⟨p, _, rfl⟩ := List.mem_map.1 hl
  simp [L.mut]

theorem thaw_ext : ∀ (ls : List L) (h : List AObj), ls.all L.clean = true → ∃ t, (thawL h ls).2 = h ++ t := fun ls h hc => (thawL_at ls h hc).2.1
theorem view_ext {h t : List AObj} {l : L} {p : PV} (e : l.view h = some p) : l.view (h ++ t) = some p := by
  cases l with
  | arr o =>
    simp only [L.view] at e ⊢
    have ho : o < h.length := by
      cases hh : h[o]? with
      | none => rw [hh] at e; cases e
      | some x => exact (List.getElem?_eq_some_iff.1 hh).1
    rw [List.getElem?_append_left ho]
    exact e
  | _ => exact e
theorem viewL_ext {h t : List AObj} : ∀ {ls : List L} {ps : List PV}, viewL h ls = some ps → viewL (h ++ t) ls = some ps
  | [], ps, e => e
  | l :: ls, ps, e => by
    unfold viewL at e ⊢
    split at e
    · rename_i p ps' h1 h2
      rw [view_ext h1, viewL_ext h2]
      exact e
    · cases e
theorem thaw_view : ∀ (ls : List L) (h : List AObj), ls.all L.clean = true → viewL (thawL h ls).2 (thawL h ls).1 = some (ls.map forget)
  | [], h, _ => rfl
  | l :: ls, h, hc => by
    simp only [List.all_cons, Bool.and_eq_true] at hc
    cases l with
    | own z es =>
      simp only [thawL, List.map_cons, viewL]
      obtain ⟨t, ht⟩ := thaw_ext ls (h ++ [.arr z es]) hc.2
      rw [thaw_view ls _ hc.2]
      have : L.view (thawL (h ++ [AObj.arr z es]) ls).2 (.arr h.length) = some (.lst es) := by
        rw [ht]
        simp [L.view]
      rw [this]
      rfl
    | down z es =>
      simp only [thawL, List.map_cons, viewL]
      obtain ⟨t, ht⟩ := thaw_ext ls (h ++ [.darr z es]) hc.2
      rw [thaw_view ls _ hc.2]
      have : L.view (thawL (h ++ [AObj.darr z es]) ls).2 (.arr h.length) = some (.lst es) := by
        rw [ht]
        simp [L.view]
      rw [this]
      rfl
    | pv p => simp only [thawL, List.map_cons, viewL, L.view, thaw_view ls h hc.2]; rfl
    | nil => simp only [thawL, List.map_cons, viewL, L.view, thaw_view ls h hc.2]; rfl
    | _ => simp [L.clean] at hc
theorem thaw_notArr : ∀ (ls : List L) (h : List AObj) (o : Nat), ls.all L.clean = true → o < h.length → (thawL h ls).1.all (L.notArr o) = true
  | [], _, _, _, _ => rfl
  | l :: ls, h, o, hc, ho => by
    simp only [List.all_cons, Bool.and_eq_true] at hc
    cases l with
    | own z es =>
      simp only [thawL, List.all_cons, Bool.and_eq_true]
      exact ⟨by simp [L.notArr]; omega, thaw_notArr ls _ o hc.2 (by simp; omega)⟩
    | down z es =>
      simp only [thawL, List.all_cons, Bool.and_eq_true]
      exact ⟨by simp [L.notArr]; omega, thaw_notArr ls _ o hc.2 (by simp; omega)⟩
    | pv p => simp only [thawL, List.all_cons, Bool.and_eq_true]; exact ⟨rfl, thaw_notArr ls h o hc.2 ho⟩
    | nil => simp only [thawL, List.all_cons, Bool.and_eq_true]; exact ⟨rfl, thaw_notArr ls h o hc.2 ho⟩
    | _ => simp [L.clean] at hc

theorem putAt_full {α : Type} (a b : List α) (h : a.length = b.length) : putAt a 0 b = b := by
  simp [putAt, h.symm]
theorem freezeLs_pv (h : List AObj) : ∀ (ps : List PV), freezeLs h (ps.map .pv) = h
  | [] => rfl
  | p :: ps => by
    show freezeLs (freezeL h (.pv p)) (ps.map .pv) = h
    exact freezeLs_pv h ps
theorem freezeVs_pv (h : List AObj) (ps : List PV) : freezeVs h [.agg (ps.map .pv)] = h := freezeLs_pv h ps
theorem notArr_pv (o : Nat) (ps : List PV) : (ps.map L.pv).all (L.notArr o) = true := by
  simp [L.notArr]

theorem store_row {h' : List AObj} {z k : Nat} {es : List (List PV)} {e r : List PV} {ls' : List L} (h0 : h'[0]? = some (.arr z es)) (he : es[k]? = some e) (hez : e.length = z) (hv : viewL h' ls' = some r) (hl : ls'.length = z) (hna : ls'.all (L.notArr 0) = true) :
    ∃ h'', storeV h' z (.one (.ptr 0 k 0)) (.agg ls') = some (.arr z (es.set k r) :: h'') := by
  have hk := freezeLs_keep ls' h' hna h0
  cases hf : freezeLs h' ls' with
  | nil => rw [hf] at hk; simp at hk
  | cons x h'' =>
    rw [hf] at hk
    simp at hk
    subst hk
    refine ⟨h'', ?_⟩
    have hrl : r.length = z := by rw [(viewL_at hv).1]; exact hl
    simp only [storeV, V.cells, hl, if_true, h0, he, hv, hf]
    rw [if_pos ⟨by omega, hna⟩, putAt_full e r (by omega)]
    rfl

theorem es_at {rows : List (List PV)} {k m : Nat} {zero : List PV} (h : k + (m + 1) = rows.length) : (rows.take k ++ List.replicate (m + 1) zero)[k]? = some zero := by
  rw [List.getElem?_append_right (by simp; omega), List.getElem?_replicate]
  rw [if_pos (by simp; omega)]
theorem es_set {rows : List (List PV)} {k m : Nat} {zero : List PV} (h : k + (m + 1) = rows.length) : (rows.take k ++ List.replicate (m + 1) zero).set k (rows[k]'(by omega)) = rows.take (k + 1) ++ List.replicate m zero := by
  have hk : k < rows.length := by omega
  rw [List.set_append_right _ _ (by simp; omega)]
  have : k - (rows.take k).length = 0 := by simp; omega
  rw [this, List.replicate_succ, List.set_cons_zero, List.take_succ_eq_append_getElem hk, List.append_assoc]
  rfl

section
variable {Φ : Nat → Option AFn} {ext : Nat → List V → Option V}

/-- the head of each round: i < len(a) -/
def hdr (i a t0 : Nat) : ACode := .seq (.region [⟨some t0, .mv (.tmp i), none⟩, ⟨some (t0 + 1), .mv (.tmp a), none⟩, ⟨some (t0 + 2), .len (.tmp (t0 + 1)), none⟩, ⟨some (t0 + 3), .bin .lss (.tmp t0) (.tmp (t0 + 2)), none⟩]) (.cond (.tmp (t0 + 3)) .skip (.exit 0))
/-- its foot: i++ -/
def ftr (i t0 : Nat) : ACode := .region [⟨some t0, .mv (.tmp i), none⟩, ⟨some (t0 + 1), .bin .add (.tmp t0) (.pv (.int .i64 1)), none⟩, ⟨some i, .mv (.tmp (t0 + 1)), none⟩]

/-- out[i] = to(a[i]) -/
def toSBody (z kx : Nat) (fl : Bool) : ACode := .seq (hdr 4 0 8) (.seq (.block 1 (.region [⟨some 14, .mv (.tmp 3), none⟩, ⟨some 15, .mv (.tmp 4), none⟩, ⟨some 16, .mv (.tmp 0), none⟩, ⟨some 17, .mv (.tmp 4), none⟩, ⟨some 18, .indexA z (.tmp 16) (.tmp 17), none⟩, ⟨some 19, .load true z (.tmp 18), none⟩, ⟨some 20, .call kx [.tmp 19] fl false, none⟩, ⟨some 21, .indexA z (.tmp 14) (.tmp 15), none⟩, ⟨none, .store z (.tmp 21) (.tmp 20), none⟩])) (ftr 4 12))
def toS (bytes z kx : Nat) (zero : List PV) (fl : Bool) : AFn := ⟨23, [.tmp 2], .seq (.region [⟨some 2, .mv .nil, none⟩]) (.seq (.region [⟨some 5, .mv (.tmp 0), none⟩, ⟨some 6, .len (.tmp 5), none⟩, ⟨some 7, .make bytes zero (.tmp 6), none⟩, ⟨some 3, .mv (.tmp 7), none⟩]) (.seq (.seq (.region [⟨some 4, .mv (.pv (.int .i64 0)), none⟩]) (.block 0 (.loop (toSBody z kx fl)))) (.seq (.region [⟨some 22, .mv (.tmp 3), none⟩, ⟨some 2, .mv (.tmp 22), none⟩]) .ret)))⟩

theorem wrap_small {k : Nat} (h : k < 9223372036854775807) : IntKind.i64.wrap ((k : Int) + 1) = (k : Int) + 1 := by
  rw [IntKind.wrap_i64]; omega

/-- the element function copies the cells of an element -/
def Copies (Φ : Nat → Option AFn) (ext : Nat → List V → Option V) (kx : Nat) (fl : Bool) (r : List PV) : Prop :=
  ∃ ls, callL Φ ext kx [.agg (r.map .pv)] = some (.agg ls) ∧ ls.all L.clean = true ∧ ls.map forget = r ∧ (fl = true → ls = r.map .pv ∧ ls.all L.flat = true)

theorem toS_loop {z kx : Nat} {fl : Bool} {zero : List PV} {rows : List (List PV)} (hz : ∀ r ∈ rows, r.length = z) (hzero : zero.length = z) (hlen : rows.length ≤ maxLen) (hcp : ∀ r ∈ rows, Copies Φ ext kx fl r) : ∀ (m k : Nat), k + m = rows.length →
    ∀ (u1 u2 u5 u6 u7 x8 x9 x10 x11 x12 x13 x14 x15 x16 x17 x18 x19 x20 x21 u22 : V) (extra : List AObj),
      ∃ t' h', loopL (exec (callL Φ ext) loopL (toSBody z kx fl)) ⟨[vlst rows, u1, u2, .one (.arr 0), vint .i64 k, u5, u6, u7, x8, x9, x10, x11, x12, x13, x14, x15, x16, x17, x18, x19, x20, x21, u22], .arr z (rows.take k ++ List.replicate m zero) :: extra⟩ = some (.exit 0, ⟨t', .arr z rows :: h'⟩) ∧ t'.length = 23 ∧ t'[3]? = some (.one (.arr 0)) := by
  intro m
  induction m with
  | zero =>
    intro k hk u1 u2 u5 u6 u7 x8 x9 x10 x11 x12 x13 x14 x15 x16 x17 x18 x19 x20 x21 u22 extra
    have hk' : k = rows.length := by omega
    subst hk'
    rw [loopL_eq]
    simp [toSBody, hdr, exec, execOps, stepO, wants, fop, Opd.ev, put, asList, L.view, bin, binInt, isBool]
  | succ m ih =>
    intro k hk u1 u2 u5 u6 u7 x8 x9 x10 x11 x12 x13 x14 x15 x16 x17 x18 x19 x20 x21 u22 extra
    have hlt : k < rows.length := by omega
    have hr : rows[k]? = some rows[k] := by simp [hlt]
    have hrz : (rows[k]).length = z := hz _ (List.getElem_mem hlt)
    obtain ⟨ls, c1, c2, c3, c4⟩ := hcp _ (List.getElem_mem hlt)
    have hw := wrap_small (k := k) (by unfold maxLen at hlen; omega)
    have hcut : cut true z 0 ((rows[k]).map L.pv) = some (.agg ((rows[k]).map .pv)) := by
      simp [cut, hrz, List.take_of_length_le (show ((rows[k]).map L.pv).length ≤ z by simp [hrz])]
    have hlt' : decide ((k : Int) < (rows.length : Int)) = true := by simpa using hlt
    have hmin : k < min k rows.length + (m + 1) := by omega
    have hcast : ((k + 1 : Nat) : Int) = (k : Int) + 1 := by omega
    cases fl with
    | true =>
      obtain ⟨rfl, hfl⟩ := c4 rfl
      obtain ⟨h'', hst⟩ := store_row (h' := .arr z (rows.take k ++ List.replicate (m + 1) zero) :: extra) (k := k) (r := rows[k]) (ls' := (rows[k]).map .pv) rfl (es_at (by omega)) hzero (viewL_pv _ _) (by simp [hrz]) (notArr_pv _ _)
      rw [es_set (by omega)] at hst
      have hset : ((rows[k]).map L.pv).map setL = (rows[k]).map L.pv := by simp [setL]
      have key := ih (k + 1) (by omega) u1 u2 u5 u6 u7 (vint .i64 k) (vlst rows) (vint .i64 rows.length) (vbool true) (vint .i64 k) (vint .i64 ((k : Int) + 1)) (.one (.arr 0)) (vint .i64 k) (vlst rows) (vint .i64 k) (.one (.ip rows[k] 0)) (.agg ((rows[k]).map .pv)) (.agg ((rows[k]).map .pv)) (.one (.ptr 0 k 0)) u22 h''
      obtain ⟨t', h', e1, e2, e3⟩ := key
      refine ⟨t', h', (loopL_next ?_).trans e1, e2, e3⟩
      rw [hcast]
      simp [toSBody, hdr, ftr, exec, execOps, stepO, wants, fop, eop, Opd.ev, put, asList, L.view, bin, binInt, isBool, isInt, hlt, elemPtr, hrz, loadV, hcut, viewArgs, view_agg, c1, V.flat, hfl, setV, hset, hst, hw, hmin]
    | false =>
      obtain ⟨t, ht⟩ := thaw_ext ls (.arr z (rows.take k ++ List.replicate (m + 1) zero) :: extra) c2
      have hv := thaw_view ls (.arr z (rows.take k ++ List.replicate (m + 1) zero) :: extra) c2
      have hna := thaw_notArr ls (.arr z (rows.take k ++ List.replicate (m + 1) zero) :: extra) 0 c2 (by simp)
      have hll := (thawL_at ls (.arr z (rows.take k ++ List.replicate (m + 1) zero) :: extra) c2).1
      have hlz : ls.length = z := by rw [← hrz, ← c3]; simp
      rw [c3] at hv
      generalize hth : thawL (.arr z (rows.take k ++ List.replicate (m + 1) zero) :: extra) ls = th at *
      obtain ⟨ls', h1⟩ := th
      simp only at ht hv hna hll
      obtain ⟨h'', hst⟩ := store_row (h' := h1) (k := k) (r := rows[k]) (ls' := ls') (by rw [ht]; rfl) (es_at (by omega)) hzero hv (by rw [hll, hlz]) hna
      rw [es_set (by omega)] at hst
      have hh0 : h1[0]? = some (.arr z (rows.take k ++ List.replicate (m + 1) zero)) := by rw [ht]; rfl
      have key := ih (k + 1) (by omega) u1 u2 u5 u6 u7 (vint .i64 k) (vlst rows) (vint .i64 rows.length) (vbool true) (vint .i64 k) (vint .i64 ((k : Int) + 1)) (.one (.arr 0)) (vint .i64 k) (vlst rows) (vint .i64 k) (.one (.ip rows[k] 0)) (.agg ((rows[k]).map .pv)) (.agg ls') (.one (.ptr 0 k 0)) u22 h''
      obtain ⟨t', h', e1, e2, e3⟩ := key
      refine ⟨t', h', (loopL_next ?_).trans e1, e2, e3⟩
      rw [hcast]
      simp [toSBody, hdr, ftr, exec, execOps, stepO, wants, fop, eop, Opd.ev, put, asList, L.view, bin, binInt, isBool, isInt, hlt, elemPtr, hrz, loadV, hcut, viewArgs, view_agg, c1, thaw, hth, freezeVs_pv, hh0, hst, hw, hmin]

theorem toS_ok {k bytes z kx : Nat} {fl : Bool} {zero : List PV} {rows : List (List PV)} (hk : Φ k = some (toS bytes z kx zero fl)) (hz : ∀ r ∈ rows, r.length = z) (hz0 : 0 < z) (hzero : zero.length = z) (hlen : rows.length ≤ maxLen) (hb : (rows.length : Int) * bytes ≤ 140737488355328) (hcp : ∀ r ∈ rows, Copies Φ ext kx fl r) :
    callL Φ ext k [vlst rows] = some (.one (.own z rows)) := by
  refine callL_fn hk ?_
  obtain ⟨t', h', e1, e2, e3⟩ := toS_loop (Φ := Φ) (ext := ext) hz hzero hlen hcp rows.length 0 (by omega) (.tup []) (.one .nil) (vlst rows) (vint .i64 rows.length) (.one (.arr 0)) (.tup []) (.tup []) (.tup []) (.tup []) (.tup []) (.tup []) (.tup []) (.tup []) (.tup []) (.tup []) (.tup []) (.tup []) (.tup []) (.tup []) (.tup []) []
  simp only [List.take_zero, List.nil_append, show ((0 : Nat) : Int) = 0 from rfl] at e1
  have hl63 : (rows.length : Int) ≤ 9223372036854775807 := by unfold maxLen at hlen; omega
  obtain ⟨_, e4⟩ := List.getElem?_eq_some_iff.1 e3
  generalize hF : exec (callL Φ ext) loopL (toSBody z kx fl) = F at e1
  simp [toS, start, execL, exec, hF, execOps, stepO, wants, fop, eop, Opd.ev, put, asList, L.view, isInt, hb, hl63, hzero, hz0, e1, done, finish, resultsOf, resultOf, comps, comp, giveLs, giveL, arrsOf, e2, e4, V.cells]

/-! ### Measuring -/
def szHead (t0 : Nat) : List AOper := [⟨some t0, .mv (.tmp 1), none⟩, ⟨some (t0 + 1), .mv (.tmp 0), none⟩, ⟨some (t0 + 2), .len (.tmp (t0 + 1)), none⟩, ⟨some (t0 + 3), .bin .sub (.tmp t0) (.tmp (t0 + 2)), none⟩, ⟨some 1, .mv (.tmp (t0 + 3)), none⟩]
def neg1 (t0 : Nat) : ACode := .seq (.region [⟨some t0, .mv (.tmp 1), none⟩, ⟨some (t0 + 1), .bin .lss (.tmp t0) (.pv (.int .i64 0)), none⟩]) (.cond (.tmp (t0 + 1)) (.seq (.region [⟨some 4, .mv (.pv (.int .i64 (-1))), none⟩]) .ret) .skip)
def szSBody (z kx : Nat) : ACode := .seq (hdr 5 0 12) (.seq (.block 1 (.seq (.region [⟨some 18, .mv (.tmp 0), none⟩, ⟨some 19, .mv (.tmp 5), none⟩, ⟨some 20, .indexA z (.tmp 18) (.tmp 19), none⟩, ⟨some 21, .load true z (.tmp 20), none⟩, ⟨some 22, .mv (.tmp 1), none⟩, ⟨some 23, .call kx [.tmp 21, .tmp 22] true false, none⟩, ⟨some 1, .mv (.tmp 23), none⟩]) (neg1 24))) (ftr 5 16))
def szS (z kx : Nat) : AFn := ⟨27, [.tmp 4], .seq (.region [⟨some 4, .mv (.pv (.int .i64 0)), none⟩]) (.seq (.region (szHead 6)) (.seq (neg1 10) (.seq (.seq (.region [⟨some 5, .mv (.pv (.int .i64 0)), none⟩]) (.block 0 (.loop (szSBody z kx)))) (.seq (.region [⟨some 26, .mv (.tmp 1), none⟩, ⟨some 4, .mv (.tmp 26), none⟩]) .ret))))⟩
/-- where the elements hold numbers alone -/
def szF : AFn := ⟨12, [.tmp 4], .seq (.region [⟨some 4, .mv (.pv (.int .i64 0)), none⟩]) (.seq (.region (szHead 5)) (.seq (neg1 9) (.seq (.region [⟨some 11, .mv (.tmp 1), none⟩, ⟨some 4, .mv (.tmp 11), none⟩]) .ret)))⟩

mutual
/-- how much a datum counts: letters and elements -/
def sz : PV → Nat
  | .str s => s.length
  | .lst rows => rows.length + szRows rows
  | _ => 0
def szL : List PV → Nat
  | [] => 0
  | p :: ps => sz p + szL ps
def szRows : List (List PV) → Nat
  | [] => 0
  | r :: rs => szL r + szRows rs
end

/-- left less n, or -1 -/
def less (left : Int) (n : Nat) : Int := if left < n then -1 else left - n

/-- the element function measures an element -/
def Measures (Φ : Nat → Option AFn) (ext : Nat → List V → Option V) (kx : Nat) (r : List PV) : Prop :=
  ∀ left : Int, 0 ≤ left → left ≤ 1048576 → callL Φ ext kx [.agg (r.map .pv), vint .i64 left] = some (vint .i64 (less left (szL r)))

theorem less_less {left : Int} {a b : Nat} (h : 0 ≤ less left a) : less (less left a) b = less left (a + b) := by
  unfold less at *
  split at h
  · omega
  · rename_i h1
    rw [if_neg h1]
    by_cases h2 : left - (a : Int) < b
    · rw [if_pos h2, if_pos (by omega)]
    · rw [if_neg h2, if_neg (by omega)]; omega
theorem less_neg {left : Int} {a b : Nat} (h0 : 0 ≤ left) (h : less left a < 0) : less left (a + b) = -1 := by
  unfold less at *
  split at h
  · rw [if_pos (by omega)]
  · omega

theorem szF_ok {k : Nat} {rows : List (List PV)} (hk : Φ k = some szF) (hlen : rows.length ≤ maxLen) {left : Int} (h0 : 0 ≤ left) (h1 : left ≤ 1048576) : callL Φ ext k [vlst rows, vint .i64 left] = some (vint .i64 (less left rows.length)) := by
  refine callL_fn hk ?_
  have hw : IntKind.i64.wrap (left - rows.length) = left - rows.length := by unfold maxLen at hlen; rw [IntKind.wrap_i64]; omega
  by_cases hl : left < rows.length
  · have : left - (rows.length : Int) < 0 := by omega
    simp [szF, szHead, neg1, start, execL, exec, execOps, stepO, wants, fop, Opd.ev, put, asList, L.view, bin, binInt, isBool, hw, this, done, finish, resultsOf, resultOf, comps, comp, giveLs, giveL, arrsOf, V.cells, less, hl]
  · have : ¬ left - (rows.length : Int) < 0 := by omega
    simp [szF, szHead, neg1, start, execL, exec, execOps, stepO, wants, fop, Opd.ev, put, asList, L.view, bin, binInt, isBool, hw, this, done, finish, resultsOf, resultOf, comps, comp, giveLs, giveL, arrsOf, V.cells, less, hl]

end
end Gi
