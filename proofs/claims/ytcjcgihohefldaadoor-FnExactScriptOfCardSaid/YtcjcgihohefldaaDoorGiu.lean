/- Measuring and comparing slices, continued; copying and comparing slices of plain cells. -/
import Derived.Test.YtcjcgihohefldaaDoorGit
namespace Gi
open Go Go.RowKit
set_option linter.unusedVariables false
set_option linter.unusedSimpArgs false

section
variable {Φ : Nat → Option AFn} {ext : Nat → List V → Option V}

theorem less_ge {left : Int} {a : Nat} (h : less left a < 0) (h0 : 0 ≤ left) : less left a = -1 := by
  unfold less at *
  split at h
  · rename_i h1; rw [if_pos h1]
  · omega
theorem less_le {left : Int} {a : Nat} (h0 : 0 ≤ left) : less left a ≤ left := by
  unfold less; split <;> omega

theorem szRows_drop {rows : List (List PV)} {k : Nat} (h : k < rows.length) : szRows (rows.drop k) = szL (rows[k]) + szRows (rows.drop (k + 1)) := by
  rw [List.drop_eq_getElem_cons h, szRows]

theorem szS_loop {z kx : Nat} {rows : List (List PV)} (hz : ∀ r ∈ rows, r.length = z) (hlen : rows.length ≤ maxLen) (hcp : ∀ r ∈ rows, Measures Φ ext kx r) : ∀ (m k : Nat), k + m = rows.length → ∀ (left : Int), 0 ≤ left → left ≤ 1048576 →
    ∀ (u2 u3 u4 u6 u7 u8 u9 u10 u11 x12 x13 x14 x15 x16 x17 x18 x19 x20 x21 x22 x23 x24 x25 u26 : V) (h : List AObj),
      ∃ e t', loopL (exec (callL Φ ext) loopL (szSBody z kx)) ⟨[vlst rows, vint .i64 left, u2, u3, u4, vint .i64 k, u6, u7, u8, u9, u10, u11, x12, x13, x14, x15, x16, x17, x18, x19, x20, x21, x22, x23, x24, x25, u26], h⟩ = some (e, ⟨t', h⟩) ∧ t'.length = 27 ∧
        ((e = .exit 0 ∧ 0 ≤ less left (szRows (rows.drop k)) ∧ t'[1]? = some (vint .i64 (less left (szRows (rows.drop k))))) ∨ (e = .ret ∧ less left (szRows (rows.drop k)) = -1 ∧ t'[4]? = some (vint .i64 (-1)))) := by
  intro m
  induction m with
  | zero =>
    intro k hk left h0 h1 u2 u3 u4 u6 u7 u8 u9 u10 u11 x12 x13 x14 x15 x16 x17 x18 x19 x20 x21 x22 x23 x24 x25 u26 h
    have hk' : k = rows.length := by omega
    subst hk'
    have hl0 : less left (szRows (rows.drop rows.length)) = left := by simp [szRows, less]; omega
    rw [hl0, loopL_eq]
    refine ⟨.exit 0, [vlst rows, vint .i64 left, u2, u3, u4, vint .i64 rows.length, u6, u7, u8, u9, u10, u11, vint .i64 rows.length, vlst rows, vint .i64 rows.length, vbool false, x16, x17, x18, x19, x20, x21, x22, x23, x24, x25, u26], ?_, rfl, .inl ⟨rfl, h0, rfl⟩⟩
    simp [szSBody, hdr, exec, execOps, stepO, wants, fop, Opd.ev, put, asList, L.view, bin, binInt, isBool]
  | succ m ih =>
    intro k hk left h0 h1 u2 u3 u4 u6 u7 u8 u9 u10 u11 x12 x13 x14 x15 x16 x17 x18 x19 x20 x21 x22 x23 x24 x25 u26 h
    have hlt : k < rows.length := by omega
    have hrz : (rows[k]).length = z := hz _ (List.getElem_mem hlt)
    have c1 := hcp _ (List.getElem_mem hlt) left h0 h1
    have hw := wrap_small (k := k) (by unfold maxLen at hlen; omega)
    have hcut : cut true z 0 ((rows[k]).map L.pv) = some (.agg ((rows[k]).map .pv)) := by
      simp [cut, hrz, List.take_of_length_le (show ((rows[k]).map L.pv).length ≤ z by simp [hrz])]
    have hcast : ((k + 1 : Nat) : Int) = (k : Int) + 1 := by omega
    rw [szRows_drop hlt]
    by_cases hneg : less left (szL rows[k]) < 0
    · have e1 := less_neg (b := szRows (rows.drop (k + 1))) h0 hneg
      have e2 := less_ge hneg h0
      rw [e1]
      rw [e2] at c1
      refine ⟨.ret, [vlst rows, vint .i64 (-1), u2, u3, vint .i64 (-1), vint .i64 k, u6, u7, u8, u9, u10, u11, vint .i64 k, vlst rows, vint .i64 rows.length, vbool true, x16, x17, vlst rows, vint .i64 k, .one (.ip rows[k] 0), .agg ((rows[k]).map .pv), vint .i64 left, vint .i64 (-1), vint .i64 (-1), vbool true, u26], ?_, rfl, .inr ⟨rfl, rfl, rfl⟩⟩
      refine loopL_end ?_ (by simp)
      simp [szSBody, hdr, ftr, neg1, exec, execOps, stepO, wants, fop, Opd.ev, put, asList, L.view, bin, binInt, isBool, isInt, hlt, elemPtr, hrz, loadV, hcut, viewArgs, viewL_pv, V.view, c1, V.flat, L.flat, setV, setL]
    · have hge : 0 ≤ less left (szL rows[k]) := by omega
      obtain ⟨e, t', g1, g2, g3⟩ := ih (k + 1) (by omega) (less left (szL rows[k])) hge (Int.le_trans (less_le h0) h1) u2 u3 u4 u6 u7 u8 u9 u10 u11 (vint .i64 k) (vlst rows) (vint .i64 rows.length) (vbool true) (vint .i64 k) (vint .i64 ((k : Int) + 1)) (vlst rows) (vint .i64 k) (.one (.ip rows[k] 0)) (.agg ((rows[k]).map .pv)) (vint .i64 left) (vint .i64 (less left (szL rows[k]))) (vint .i64 (less left (szL rows[k]))) (vbool false) u26 h
      rw [less_less hge] at g3
      refine ⟨e, t', (loopL_next ?_).trans g1, g2, g3⟩
      rw [hcast]
      simp [szSBody, hdr, ftr, neg1, exec, execOps, stepO, wants, fop, Opd.ev, put, asList, L.view, bin, binInt, isBool, isInt, hlt, elemPtr, hrz, loadV, hcut, viewArgs, viewL_pv, V.view, c1, V.flat, L.flat, setV, setL, hw, hneg]

theorem szS_ok {k z kx : Nat} {rows : List (List PV)} (hk : Φ k = some (szS z kx)) (hz : ∀ r ∈ rows, r.length = z) (hlen : rows.length ≤ maxLen) (hcp : ∀ r ∈ rows, Measures Φ ext kx r) {left : Int} (h0 : 0 ≤ left) (h1 : left ≤ 1048576) :
    callL Φ ext k [vlst rows, vint .i64 left] = some (vint .i64 (less left (rows.length + szRows rows))) := by
  refine callL_fn hk ?_
  have hw : IntKind.i64.wrap (left - rows.length) = left - rows.length := by unfold maxLen at hlen; rw [IntKind.wrap_i64]; omega
  by_cases hl : left < rows.length
  · have hn : left - (rows.length : Int) < 0 := by omega
    have e : less left (rows.length + szRows rows) = -1 := by unfold less; rw [if_pos (by omega)]
    rw [e]
    generalize hF : exec (callL Φ ext) loopL (szSBody z kx) = F
    simp [szS, szHead, neg1, start, execL, exec, hF, execOps, stepO, wants, fop, Opd.ev, put, asList, L.view, bin, binInt, isBool, hw, hn, done, finish, resultsOf, resultOf, comps, comp, giveLs, giveL, arrsOf, V.cells]
  · have hn : ¬ left - (rows.length : Int) < 0 := by omega
    have hle : left - (rows.length : Int) = less left rows.length := by unfold less; rw [if_neg hl]
    obtain ⟨e, t', g1, g2, g3⟩ := szS_loop (Φ := Φ) (ext := ext) hz hlen hcp rows.length 0 (by omega) (left - rows.length) (by omega) (by omega) (.tup []) (.tup []) (vint .i64 0) (vint .i64 left) (vlst rows) (vint .i64 rows.length) (vint .i64 (left - rows.length)) (vint .i64 (left - rows.length)) (vbool false) (.tup []) (.tup []) (.tup []) (.tup []) (.tup []) (.tup []) (.tup []) (.tup []) (.tup []) (.tup []) (.tup []) (.tup []) (.tup []) (.tup []) (.tup []) []
    simp only [List.drop_zero, show ((0 : Nat) : Int) = 0 from rfl] at g1 g3
    have hls : less (left - rows.length) (szRows rows) = less left (rows.length + szRows rows) := by rw [hle]; exact less_less (by rw [← hle]; omega)
    rw [hls] at g3
    generalize hF : exec (callL Φ ext) loopL (szSBody z kx) = F at g1
    rcases g3 with ⟨rfl, g4, g5⟩ | ⟨rfl, g4, g5⟩
    · obtain ⟨_, g6⟩ := List.getElem?_eq_some_iff.1 g5
      simp [szS, szHead, neg1, start, execL, exec, hF, execOps, stepO, wants, fop, Opd.ev, put, asList, L.view, bin, binInt, isBool, hw, hn, done, finish, resultsOf, resultOf, comps, comp, giveLs, giveL, arrsOf, V.cells, g1, g2, g6]
    · obtain ⟨_, g6⟩ := List.getElem?_eq_some_iff.1 g5
      simp [szS, szHead, neg1, start, execL, exec, hF, execOps, stepO, wants, fop, Opd.ev, put, asList, L.view, bin, binInt, isBool, hw, hn, done, finish, resultsOf, resultOf, comps, comp, giveLs, giveL, arrsOf, V.cells, g1, g2, g6, g4]

/-! ### Comparing a datum with itself -/
def retF : ACode := .seq (.region [⟨some 4, .mv (.pv (.bool false)), none⟩]) .ret
def eqSBody (z kx : Nat) : ACode := .seq (hdr 5 0 11) (.seq (.block 1 (.seq (.region [⟨some 17, .mv (.tmp 0), none⟩, ⟨some 18, .mv (.tmp 5), none⟩, ⟨some 19, .indexA z (.tmp 17) (.tmp 18), none⟩, ⟨some 20, .load true z (.tmp 19), none⟩, ⟨some 21, .mv (.tmp 1), none⟩, ⟨some 22, .mv (.tmp 5), none⟩, ⟨some 23, .indexA z (.tmp 21) (.tmp 22), none⟩, ⟨some 24, .load true z (.tmp 23), none⟩, ⟨some 25, .call kx [.tmp 20, .tmp 24] true true, none⟩, ⟨some 26, .un .not (.tmp 25), none⟩]) (.cond (.tmp 26) retF .skip))) (ftr 5 15))
def eqFBody : ACode := .seq (hdr 5 0 11) (.seq (.block 1 (.seq (.region [⟨some 17, .mv (.tmp 0), none⟩, ⟨some 18, .mv (.tmp 5), none⟩, ⟨some 19, .indexA 1 (.tmp 17) (.tmp 18), none⟩, ⟨some 20, .load false 1 (.tmp 19), none⟩, ⟨some 21, .mv (.tmp 1), none⟩, ⟨some 22, .mv (.tmp 5), none⟩, ⟨some 23, .indexA 1 (.tmp 21) (.tmp 22), none⟩, ⟨some 24, .load false 1 (.tmp 23), none⟩, ⟨some 25, .bin .neq (.tmp 20) (.tmp 24), none⟩]) (.cond (.tmp 25) retF .skip))) (ftr 5 15))
def eqFn (nt : Nat) (body : ACode) : AFn := ⟨nt, [.tmp 4], .seq (.region [⟨some 4, .mv (.pv (.bool false)), none⟩]) (.seq (.seq (.region [⟨some 6, .mv (.tmp 0), none⟩, ⟨some 7, .len (.tmp 6), none⟩, ⟨some 8, .mv (.tmp 1), none⟩, ⟨some 9, .len (.tmp 8), none⟩, ⟨some 10, .bin .neq (.tmp 7) (.tmp 9), none⟩]) (.cond (.tmp 10) retF .skip)) (.seq (.seq (.region [⟨some 5, .mv (.pv (.int .i64 0)), none⟩]) (.block 0 (.loop body))) (.seq (.region [⟨some 4, .mv (.pv (.bool true)), none⟩]) .ret)))⟩

theorem eqS_loop {z kx : Nat} {rows : List (List PV)} (hz : ∀ r ∈ rows, r.length = z) (hlen : rows.length ≤ maxLen) (hcp : ∀ r ∈ rows, callL Φ ext kx [.agg (r.map .pv), .agg (r.map .pv)] = some (vbool true)) : ∀ (m k : Nat), k + m = rows.length →
    ∀ (u2 u3 u4 u6 u7 u8 u9 u10 x11 x12 x13 x14 x15 x16 x17 x18 x19 x20 x21 x22 x23 x24 x25 x26 : V) (h : List AObj),
      ∃ t', loopL (exec (callL Φ ext) loopL (eqSBody z kx)) ⟨[vlst rows, vlst rows, u2, u3, u4, vint .i64 k, u6, u7, u8, u9, u10, x11, x12, x13, x14, x15, x16, x17, x18, x19, x20, x21, x22, x23, x24, x25, x26], h⟩ = some (.exit 0, ⟨t', h⟩) ∧ t'.length = 27 := by
  intro m
  induction m with
  | zero =>
    intro k hk u2 u3 u4 u6 u7 u8 u9 u10 x11 x12 x13 x14 x15 x16 x17 x18 x19 x20 x21 x22 x23 x24 x25 x26 h
    have hk' : k = rows.length := by omega
    subst hk'
    refine ⟨[vlst rows, vlst rows, u2, u3, u4, vint .i64 rows.length, u6, u7, u8, u9, u10, vint .i64 rows.length, vlst rows, vint .i64 rows.length, vbool false, x15, x16, x17, x18, x19, x20, x21, x22, x23, x24, x25, x26], loopL_end ?_ (by simp), rfl⟩
    simp [eqSBody, hdr, exec, execOps, stepO, wants, fop, Opd.ev, put, asList, L.view, bin, binInt, isBool]
  | succ m ih =>
    intro k hk u2 u3 u4 u6 u7 u8 u9 u10 x11 x12 x13 x14 x15 x16 x17 x18 x19 x20 x21 x22 x23 x24 x25 x26 h
    have hlt : k < rows.length := by omega
    have hrz : (rows[k]).length = z := hz _ (List.getElem_mem hlt)
    have c1 := hcp _ (List.getElem_mem hlt)
    have hw := wrap_small (k := k) (by unfold maxLen at hlen; omega)
    have hcut : cut true z 0 ((rows[k]).map L.pv) = some (.agg ((rows[k]).map .pv)) := by
      simp [cut, hrz, List.take_of_length_le (show ((rows[k]).map L.pv).length ≤ z by simp [hrz])]
    have hcast : ((k + 1 : Nat) : Int) = (k : Int) + 1 := by omega
    obtain ⟨t', g1, g2⟩ := ih (k + 1) (by omega) u2 u3 u4 u6 u7 u8 u9 u10 (vint .i64 k) (vlst rows) (vint .i64 rows.length) (vbool true) (vint .i64 k) (vint .i64 ((k : Int) + 1)) (vlst rows) (vint .i64 k) (.one (.ip rows[k] 0)) (.agg ((rows[k]).map .pv)) (vlst rows) (vint .i64 k) (.one (.ip rows[k] 0)) (.agg ((rows[k]).map .pv)) (vbool true) (vbool false) h
    refine ⟨t', (loopL_next ?_).trans g1, g2⟩
    rw [hcast]
    simp [eqSBody, hdr, ftr, exec, execOps, stepO, wants, fop, Opd.ev, put, asList, L.view, bin, binInt, un, isBool, isInt, hlt, elemPtr, hrz, loadV, hcut, viewArgs, viewL_pv, V.view, c1, V.flat, L.flat, setV, setL, hw]

theorem eqS_ok {k z kx : Nat} {rows : List (List PV)} (hk : Φ k = some (eqFn 27 (eqSBody z kx))) (hz : ∀ r ∈ rows, r.length = z) (hlen : rows.length ≤ maxLen) (hcp : ∀ r ∈ rows, callL Φ ext kx [.agg (r.map .pv), .agg (r.map .pv)] = some (vbool true)) :
    callL Φ ext k [vlst rows, vlst rows] = some (vbool true) := by
  refine callL_fn hk ?_
  obtain ⟨t', g1, g2⟩ := eqS_loop (Φ := Φ) (ext := ext) hz hlen hcp rows.length 0 (by omega) (.tup []) (.tup []) (vbool false) (vlst rows) (vint .i64 rows.length) (vlst rows) (vint .i64 rows.length) (vbool false) (.tup []) (.tup []) (.tup []) (.tup []) (.tup []) (.tup []) (.tup []) (.tup []) (.tup []) (.tup []) (.tup []) (.tup []) (.tup []) (.tup []) (.tup []) (.tup []) []
  simp only [show ((0 : Nat) : Int) = 0 from rfl] at g1
  generalize hF : exec (callL Φ ext) loopL (eqSBody z kx) = F at g1
  simp [eqFn, retF, start, execL, exec, hF, execOps, stepO, wants, fop, Opd.ev, put, asList, L.view, bin, binInt, isBool, done, finish, resultsOf, resultOf, comps, comp, giveLs, giveL, arrsOf, V.cells, g1, g2]

/-- a cell that is not a list -/
def PV.plain : PV → Bool
  | .lst _ => false
  | .bool _ => false
  | _ => true

theorem neq_self {p : PV} (h : p.plain = true) : bin .neq (.one (.pv p)) (.one (.pv p)) = some (vbool false) := by
  cases p with
  | int k n => simp [bin, binInt]
  | str s => simp [bin, binStr]
  | bool b => simp [PV.plain] at h
  | lst es => simp [PV.plain] at h

theorem eqF_loop {qs : List PV} (hp : ∀ q ∈ qs, q.plain = true) (hlen : qs.length ≤ maxLen) : ∀ (m k : Nat), k + m = qs.length →
    ∀ (u2 u3 u4 u6 u7 u8 u9 u10 x11 x12 x13 x14 x15 x16 x17 x18 x19 x20 x21 x22 x23 x24 x25 : V) (h : List AObj),
      ∃ t', loopL (exec (callL Φ ext) loopL eqFBody) ⟨[vlst (qs.map fun q => [q]), vlst (qs.map fun q => [q]), u2, u3, u4, vint .i64 k, u6, u7, u8, u9, u10, x11, x12, x13, x14, x15, x16, x17, x18, x19, x20, x21, x22, x23, x24, x25], h⟩ = some (.exit 0, ⟨t', h⟩) ∧ t'.length = 26 := by
  intro m
  induction m with
  | zero =>
    intro k hk u2 u3 u4 u6 u7 u8 u9 u10 x11 x12 x13 x14 x15 x16 x17 x18 x19 x20 x21 x22 x23 x24 x25 h
    have hk' : k = qs.length := by omega
    subst hk'
    refine ⟨[vlst (qs.map fun q => [q]), vlst (qs.map fun q => [q]), u2, u3, u4, vint .i64 qs.length, u6, u7, u8, u9, u10, vint .i64 qs.length, vlst (qs.map fun q => [q]), vint .i64 qs.length, vbool false, x15, x16, x17, x18, x19, x20, x21, x22, x23, x24, x25], loopL_end ?_ (by simp), rfl⟩
    simp [eqFBody, hdr, exec, execOps, stepO, wants, fop, Opd.ev, put, asList, L.view, bin, binInt, isBool]
  | succ m ih =>
    intro k hk u2 u3 u4 u6 u7 u8 u9 u10 x11 x12 x13 x14 x15 x16 x17 x18 x19 x20 x21 x22 x23 x24 x25 h
    have hlt : k < qs.length := by omega
    have hn := neq_self (hp _ (List.getElem_mem hlt))
    have hw := wrap_small (k := k) (by unfold maxLen at hlen; omega)
    have hcast : ((k + 1 : Nat) : Int) = (k : Int) + 1 := by omega
    have hcut : cut false 1 0 [L.pv qs[k]] = some (.one (.pv qs[k])) := by simp [cut]
    have hlss : bin .lss (vint .i64 k) (vint .i64 qs.length) = some (vbool true) := by simp [bin, binInt, hlt]
    have hadd : bin .add (vint .i64 k) (vint .i64 1) = some (vint .i64 ((k : Int) + 1)) := by simp [bin, binInt, hw]
    obtain ⟨t', g1, g2⟩ := ih (k + 1) (by omega) u2 u3 u4 u6 u7 u8 u9 u10 (vint .i64 k) (vlst (qs.map fun q => [q])) (vint .i64 qs.length) (vbool true) (vint .i64 k) (vint .i64 ((k : Int) + 1)) (vlst (qs.map fun q => [q])) (vint .i64 k) (.one (.ip [qs[k]] 0)) (.one (.pv qs[k])) (vlst (qs.map fun q => [q])) (vint .i64 k) (.one (.ip [qs[k]] 0)) (.one (.pv qs[k])) (vbool false) h
    refine ⟨t', (loopL_next ?_).trans g1, g2⟩
    rw [hcast]
    simp [eqFBody, hdr, ftr, exec, execOps, stepO, wants, fop, Opd.ev, put, asList, L.view, hlss, hadd, isBool, isInt, hlt, elemPtr, loadV, hcut, hn]

theorem eqF_ok {k : Nat} {qs : List PV} (hk : Φ k = some (eqFn 26 eqFBody)) (hp : ∀ q ∈ qs, q.plain = true) (hlen : qs.length ≤ maxLen) : callL Φ ext k [vlst (qs.map fun q => [q]), vlst (qs.map fun q => [q])] = some (vbool true) := by
  refine callL_fn hk ?_
  obtain ⟨t', g1, g2⟩ := eqF_loop (Φ := Φ) (ext := ext) hp hlen qs.length 0 (by omega) (.tup []) (.tup []) (vbool false) (vlst (qs.map fun q => [q])) (vint .i64 qs.length) (vlst (qs.map fun q => [q])) (vint .i64 qs.length) (vbool false) (.tup []) (.tup []) (.tup []) (.tup []) (.tup []) (.tup []) (.tup []) (.tup []) (.tup []) (.tup []) (.tup []) (.tup []) (.tup []) (.tup []) (.tup []) []
  simp only [show ((0 : Nat) : Int) = 0 from rfl] at g1
  generalize hF : exec (callL Φ ext) loopL eqFBody = F at g1
  simp [eqFn, retF, start, execL, exec, hF, execOps, stepO, wants, fop, Opd.ev, put, asList, L.view, bin, binInt, isBool, done, finish, resultsOf, resultOf, comps, comp, giveLs, giveL, arrsOf, V.cells, g1, g2]

/-! ### Copying plain cells -/
def toFBody : ACode := .seq (hdr 4 0 8) (.seq (.block 1 (.region [⟨some 14, .mv (.tmp 3), none⟩, ⟨some 15, .mv (.tmp 4), none⟩, ⟨some 16, .mv (.tmp 0), none⟩, ⟨some 17, .mv (.tmp 4), none⟩, ⟨some 18, .indexA 1 (.tmp 16) (.tmp 17), none⟩, ⟨some 19, .load false 1 (.tmp 18), none⟩, ⟨some 20, .indexA 1 (.tmp 14) (.tmp 15), none⟩, ⟨none, .store 1 (.tmp 20) (.tmp 19), none⟩])) (ftr 4 12))
def toF (bytes : Nat) (zero : PV) : AFn := ⟨22, [.tmp 2], .seq (.region [⟨some 2, .mv .nil, none⟩]) (.seq (.region [⟨some 5, .mv (.tmp 0), none⟩, ⟨some 6, .len (.tmp 5), none⟩, ⟨some 7, .make bytes [zero] (.tmp 6), none⟩, ⟨some 3, .mv (.tmp 7), none⟩]) (.seq (.seq (.region [⟨some 4, .mv (.pv (.int .i64 0)), none⟩]) (.block 0 (.loop toFBody))) (.seq (.region [⟨some 21, .mv (.tmp 3), none⟩, ⟨some 2, .mv (.tmp 21), none⟩]) .ret)))⟩

theorem store_one {z k : Nat} {es : List (List PV)} {e : List PV} {q : PV} {extra : List AObj} (he : es[k]? = some e) (hez : e.length = 1) : storeV (.arr z es :: extra) 1 (.one (.ptr 0 k 0)) (.one (.pv q)) = some (.arr z (es.set k [q]) :: extra) := by
  obtain ⟨x, rfl⟩ := List.length_eq_one_iff.1 hez
  simp [storeV, V.cells, he, viewL, L.view, L.notArr, freezeLs, freezeL, putAt]

theorem toF_loop {zero : PV} {qs : List PV} (hlen : qs.length ≤ maxLen) : ∀ (m k : Nat), k + m = qs.length →
    ∀ (u1 u2 u5 u6 u7 x8 x9 x10 x11 x12 x13 x14 x15 x16 x17 x18 x19 x20 u21 : V) (extra : List AObj),
      ∃ t', loopL (exec (callL Φ ext) loopL toFBody) ⟨[vlst (qs.map fun q => [q]), u1, u2, .one (.arr 0), vint .i64 k, u5, u6, u7, x8, x9, x10, x11, x12, x13, x14, x15, x16, x17, x18, x19, x20, u21], .arr 1 ((qs.map fun q => [q]).take k ++ List.replicate m [zero]) :: extra⟩ = some (.exit 0, ⟨t', .arr 1 (qs.map fun q => [q]) :: extra⟩) ∧ t'.length = 22 ∧ t'[3]? = some (.one (.arr 0)) := by
  intro m
  induction m with
  | zero =>
    intro k hk u1 u2 u5 u6 u7 x8 x9 x10 x11 x12 x13 x14 x15 x16 x17 x18 x19 x20 u21 extra
    have hk' : k = qs.length := by omega
    subst hk'
    refine ⟨[vlst (qs.map fun q => [q]), u1, u2, .one (.arr 0), vint .i64 qs.length, u5, u6, u7, vint .i64 qs.length, vlst (qs.map fun q => [q]), vint .i64 qs.length, vbool false, x12, x13, x14, x15, x16, x17, x18, x19, x20, u21], loopL_end ?_ (by simp), rfl, rfl⟩
    have htk : List.take qs.length (List.map (fun q => [q]) qs) = List.map (fun q => [q]) qs := List.take_of_length_le (by simp)
    simp [toFBody, hdr, exec, execOps, stepO, wants, fop, Opd.ev, put, asList, L.view, bin, binInt, isBool, htk]
  | succ m ih =>
    intro k hk u1 u2 u5 u6 u7 x8 x9 x10 x11 x12 x13 x14 x15 x16 x17 x18 x19 x20 u21 extra
    have hlt : k < qs.length := by omega
    have hw := wrap_small (k := k) (by unfold maxLen at hlen; omega)
    have hcast : ((k + 1 : Nat) : Int) = (k : Int) + 1 := by omega
    have hcut : cut false 1 0 [L.pv qs[k]] = some (.one (.pv qs[k])) := by simp [cut]
    have hst := store_one (z := 1) (q := qs[k]) (extra := extra) (es_at (rows := qs.map fun q => [q]) (k := k) (m := m) (zero := [zero]) (by simpa using hk)) rfl
    have hes := es_set (rows := qs.map fun q => [q]) (k := k) (m := m) (zero := [zero]) (by simpa using hk)
    rw [List.getElem_map] at hes
    rw [hes] at hst
    have hmin : k < min k qs.length + (m + 1) := by omega
    obtain ⟨t', g1, g2⟩ := ih (k + 1) (by omega) u1 u2 u5 u6 u7 (vint .i64 k) (vlst (qs.map fun q => [q])) (vint .i64 qs.length) (vbool true) (vint .i64 k) (vint .i64 ((k : Int) + 1)) (.one (.arr 0)) (vint .i64 k) (vlst (qs.map fun q => [q])) (vint .i64 k) (.one (.ip [qs[k]] 0)) (.one (.pv qs[k])) (.one (.ptr 0 k 0)) u21 extra
    refine ⟨t', (loopL_next ?_).trans g1, g2⟩
    rw [hcast]
    simp [toFBody, hdr, ftr, exec, execOps, stepO, wants, fop, eop, Opd.ev, put, asList, L.view, bin, binInt, isBool, isInt, hlt, elemPtr, loadV, hcut, hst, hw, hmin]

theorem toF_ok {k bytes : Nat} {zero : PV} {qs : List PV} (hk : Φ k = some (toF bytes zero)) (hlen : qs.length ≤ maxLen) (hb : (qs.length : Int) * bytes ≤ 140737488355328) : callL Φ ext k [vlst (qs.map fun q => [q])] = some (.one (.own 1 (qs.map fun q => [q]))) := by
  refine callL_fn hk ?_
  obtain ⟨t', e1, e2, e3⟩ := toF_loop (Φ := Φ) (ext := ext) (zero := zero) hlen qs.length 0 (by omega) (.tup []) (.one .nil) (vlst (qs.map fun q => [q])) (vint .i64 qs.length) (.one (.arr 0)) (.tup []) (.tup []) (.tup []) (.tup []) (.tup []) (.tup []) (.tup []) (.tup []) (.tup []) (.tup []) (.tup []) (.tup []) (.tup []) (.tup []) []
  simp only [List.take_zero, List.nil_append, show ((0 : Nat) : Int) = 0 from rfl] at e1
  have hl63 : (qs.length : Int) ≤ 9223372036854775807 := by unfold maxLen at hlen; omega
  obtain ⟨_, e4⟩ := List.getElem?_eq_some_iff.1 e3
  generalize hF : exec (callL Φ ext) loopL toFBody = F at e1
  simp [toF, start, execL, exec, hF, execOps, stepO, wants, fop, eop, Opd.ev, put, asList, L.view, isInt, hb, hl63, e1, done, finish, resultsOf, resultOf, comps, comp, giveLs, giveL, arrsOf, e2, e4, V.cells]

end
end Gi
