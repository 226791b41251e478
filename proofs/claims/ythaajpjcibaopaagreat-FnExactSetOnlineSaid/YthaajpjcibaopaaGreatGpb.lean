/- Of this proof. -/
import Derived.Test.YthaajpjcibaopaaGreatGpd
namespace Gi
open Go Go.RowKit
set_option linter.unusedVariables false
set_option linter.unusedSimpArgs false
def szCall (c ks : Nat) : List AOper := [⟨some (c + 2), .mv (.tmp 1), none⟩, ⟨some (c + 3), .call ks [.tmp (c + 1), .tmp (c + 2)] true false, none⟩, ⟨some 1, .mv (.tmp (c + 3)), none⟩]
def szC : Nat → Nat → List Seg → ACode
 | c, _, [] => .seq (.region [⟨some c, .mv (.tmp 1), none⟩, ⟨some 4, .mv (.tmp c), none⟩]) .ret
 | c, off, .c .str :: ss => .seq (.region (⟨some c, .mv (.tmp 1), none⟩ :: segLd (c + 1) 2 off 1 false ++ [⟨some (c + 3), .lenS (.tmp (c + 2)), none⟩, ⟨some (c + 4), .bin .sub (.tmp c) (.tmp (c + 3)), none⟩, ⟨some 1, .mv (.tmp (c + 4)), none⟩])) (.seq (neg1 (c + 5)) (szC (c + 7) (off + 1) ss))
 | c, off, .c _ :: ss => szC c (off + 1) ss
 | c, off, .s ts K :: ss => if K.ks = 0 then szC c (off + ts.length) ss else .seq (.region (segLd c 2 off ts.length true ++ szCall c K.ks)) (.seq (neg1 (c + 4)) (szC (c + 6) (off + ts.length) ss))
 | c, off, .l _ K :: ss => .seq (.region (segLd c 2 off 1 false ++ szCall c K.ks)) (.seq (neg1 (c + 4)) (szC (c + 6) (off + 1) ss))
def szN : Nat → List Seg → Nat
 | c, [] => c
 | c, .c .str :: ss => szN (c + 7) ss
 | c, .c _ :: ss => szN c ss
 | c, .s _ K :: ss => if K.ks = 0 then szN c ss else szN (c + 6) ss
 | c, .l _ _ :: ss => szN (c + 6) ss
def genSz (ss : List Seg) : AFn := ⟨szN 5 ss + 1, [.tmp 4], .seq (.region [⟨some 2, .box (.tmp 0), none⟩, ⟨some 4, .mv (.pv (.int .i64 0)), none⟩]) (szC 5 0 ss)⟩
def retFl : ACode := .seq (.region [⟨some 4, .mv (.pv (.bool false)), none⟩]) .ret
def neqC (t : PTy) (x y : Opd) : AOp := match t with
 | .bool => .eqB true x y
 | _ => .bin .neq x y
def eqC : Nat → Nat → List Seg → ACode
 | _, _, [] => .seq (.region [⟨some 4, .mv (.pv (.bool true)), none⟩]) .ret
 | c, off, .c t :: ss => .seq (.seq (.region (segLd c 2 off 1 false ++ (segLd (c + 2) 3 off 1 false ++ [⟨some (c + 4), neqC t (.tmp (c + 1)) (.tmp (c + 3)), none⟩]))) (.cond (.tmp (c + 4)) retFl .skip)) (eqC (c + 5) (off + 1) ss)
 | c, off, .s ts K :: ss => .seq (.seq (.region (segLd c 2 off ts.length true ++ (segLd (c + 2) 3 off ts.length true ++ [⟨some (c + 4), .call K.ke [.tmp (c + 1), .tmp (c + 3)] true false, none⟩, ⟨some (c + 5), .un .not (.tmp (c + 4)), none⟩]))) (.cond (.tmp (c + 5)) retFl .skip)) (eqC (c + 6) (off + ts.length) ss)
 | c, off, .l _ K :: ss => .seq (.seq (.region (segLd c 2 off 1 false ++ (segLd (c + 2) 3 off 1 false ++ [⟨some (c + 4), .call K.ke [.tmp (c + 1), .tmp (c + 3)] true false, none⟩, ⟨some (c + 5), .un .not (.tmp (c + 4)), none⟩]))) (.cond (.tmp (c + 5)) retFl .skip)) (eqC (c + 6) (off + 1) ss)
def eqN : Nat → List Seg → Nat
 | c, [] => c
 | c, .c _ :: ss => eqN (c + 5) ss
 | c, _ :: ss => eqN (c + 6) ss
def genEq (ss : List Seg) : AFn := ⟨eqN 5 ss, [.tmp 4], .seq (.region [⟨some 2, .box (.tmp 0), none⟩, ⟨some 3, .box (.tmp 1), none⟩, ⟨some 4, .mv (.pv (.bool false)), none⟩]) (eqC 5 0 ss)⟩
section
variable {Φ : Nat → Option AFn} {ext : Nat → List V → Option V}
def SzOK (Φ : Nat → Option AFn) (ext : Nat → List V → Option V) (k : Nat) (ts : List PTy) : Prop := ∀ r : List PV, HasL ts r → Measures Φ ext k r
def SzSOK (Φ : Nat → Option AFn) (ext : Nat → List V → Option V) (k : Nat) (ts : List PTy) : Prop :=
 ∀ rows : List (List PV), Has (.lst ts) (.lst rows) → ∀ left : Int, 0 ≤ left → left ≤ 1048576 → callL Φ ext k [vlst rows, vint .i64 left] = some (vint .i64 (less left (sz (.lst rows))))
def SegSz (Φ : Nat → Option AFn) (ext : Nat → List V → Option V) : Seg → Prop
 | .c t => t.flatT = true
 | .s ts K => if K.ks = 0 then ts.all PTy.small = true else SzOK Φ ext K.ks ts
 | .l ts K => SzSOK Φ ext K.ks ts
theorem neg1_lt {call : Nat → List V → Option V} {lp} {c : Nat} {t : List V} {h : List AObj} {l : Int} (h1 : t[1]? = some (vint .i64 l)) (hl : l < 0) (hc : 5 ≤ c) (hlt : c + 1 < t.length) :
 ∃ t', exec call lp (neg1 c) ⟨t, h⟩ = some (.ret, ⟨t', h⟩) ∧ t'[4]? = some (vint .i64 (-1)) := by
 have e1 : t.getD 1 (.tup []) = vint .i64 l := getD_some h1
 have e2 : (t.set c (vint .i64 l)).getD c (.tup []) = vint .i64 l := getD_set (by omega)
 have e3 : ((t.set c (vint .i64 l)).set (c + 1) (vbool true)).getD (c + 1) (.tup []) = vbool true := getD_set (by simp; omega)
 refine ⟨((t.set c (vint .i64 l)).set (c + 1) (vbool true)).set 4 (vint .i64 (-1)), ?_, List.getElem?_set_self (by simp; omega)⟩
 simp only [neg1, exec, execOps, stepO, wants, fop, Opd.ev, e1, put, e2, bin, if_true, binInt, hl, decide_true, e3, isBool]
theorem neg1_ge {call : Nat → List V → Option V} {lp} {c : Nat} {t : List V} {h : List AObj} {l : Int} (h1 : t[1]? = some (vint .i64 l)) (hl : ¬ l < 0) (hlt : c + 1 < t.length) :
 exec call lp (neg1 c) ⟨t, h⟩ = some (.normal, ⟨(t.set c (vint .i64 l)).set (c + 1) (vbool false), h⟩) := by
 have e1 : t.getD 1 (.tup []) = vint .i64 l := getD_some h1
 have e2 : (t.set c (vint .i64 l)).getD c (.tup []) = vint .i64 l := getD_set (by omega)
 have e3 : ((t.set c (vint .i64 l)).set (c + 1) (vbool false)).getD (c + 1) (.tup []) = vbool false := getD_set (by simp; omega)
 simp only [neg1, exec, execOps, stepO, wants, fop, Opd.ev, e1, put, e2, bin, if_true, binInt, hl, decide_false, e3, isBool, Bool.false_eq_true, if_false]
theorem szN_le : ∀ (ss : List Seg) (c : Nat), c ≤ szN c ss
 | [], c => Nat.le_refl _
 | .c .str :: ss, c => Nat.le_trans (by omega) (szN_le ss (c + 7))
 | .c (.int _) :: ss, c => szN_le ss c
 | .c .bool :: ss, c => szN_le ss c
 | .c (.lst _) :: ss, c => szN_le ss c
 | .s _ K :: ss, c => by
  simp only [szN]
  split
  ·exact szN_le ss c
  ·exact Nat.le_trans (by omega) (szN_le ss (c + 6))
 | .l _ _ :: ss, c => Nat.le_trans (by omega) (szN_le ss (c + 6))
theorem szC_run : ∀ (ss : List Seg), (∀ s ∈ ss, SegSz Φ ext s) → ∀ {c : Nat} {dn row : List PV} {t : List V} {left : Int},
 t[1]? = some (vint .i64 left) → t[2]? = some (.one (.ptr 0 0 0)) → 0 ≤ left → left ≤ 1048576 → 5 ≤ c → szN c ss < t.length → HasL (segTs ss) row →
 ∃ t', exec (callL Φ ext) loopL (szC c dn.length ss) ⟨t, [.box ((dn ++ row).map .pv)]⟩ = some (.ret, ⟨t', [.box ((dn ++ row).map .pv)]⟩) ∧ t'[4]? = some (vint .i64 (less left (szL row)))
 | [], _, c, dn, row, t, left, t1, t2, h0, h1, hc, hN, hr => by
  obtain rfl := HasL_nil hr
  simp only [szN] at hN
  have e1 : t.getD 1 (.tup []) = vint .i64 left := getD_some t1
  have e2 : (t.set c (vint .i64 left)).getD c (.tup []) = vint .i64 left := getD_set hN
  have hl : less left (szL []) = left := by
   have e0 : szL [] = 0 := by simp only [szL]
   rw [e0]; unfold less; rw [if_neg (by omega)]; omega
  refine ⟨(t.set c (vint .i64 left)).set 4 (vint .i64 left), ?_, by rw [hl]; exact List.getElem?_set_self (by simp; omega)⟩
  simp only [szC, exec, execOps, stepO, wants, fop, Opd.ev, e1, put, e2]
 | sg :: ss, hss, c, dn, row, t, left, t1, t2, h0, h1, hc, hN, hr => by
  obtain ⟨a, b, rfl, ha, hb⟩ := HasL_app (ts := sg.ts) hr
  have hal := HasL_len ha
  have hsz := szL_app' a b
  have hSeg := hss sg (by simp)
  have ih := fun {c dn row t left} => szC_run ss (fun s m => hss s (by simp [m])) (c := c) (dn := dn) (row := row) (t := t) (left := left)
  rw [← List.append_assoc]
  have skip : ∀ {c' : Nat}, szL a = 0 → szC c dn.length (sg :: ss) = szC c (dn ++ a).length ss → szN c (sg :: ss) = szN c ss →
   ∃ t', exec (callL Φ ext) loopL (szC c dn.length (sg :: ss)) ⟨t, [.box ((dn ++ a ++ b).map .pv)]⟩ = some (.ret, ⟨t', [.box ((dn ++ a ++ b).map .pv)]⟩) ∧ t'[4]? = some (vint .i64 (less left (szL (a ++ b)))) := by
   intro _ e0 e1 e2
   rw [e1, hsz, e0, Nat.zero_add]
   exact ih t1 t2 h0 h1 hc (by rw [← e2]; exact hN) hb
  have go : ∀ {ops : List AOper} {cn cm : Nat} {t' : List V} {l : Int}, szC c dn.length (sg :: ss) = .seq (.region ops) (.seq (neg1 cn) (szC (cn + 2) (dn ++ a).length ss)) → szN c (sg :: ss) = szN (cn + 2) ss → 5 ≤ cn →
   execOps (callL Φ ext) ops ⟨t, [.box ((dn ++ a ++ b).map .pv)]⟩ = some ⟨t', [.box ((dn ++ a ++ b).map .pv)]⟩ → t'.length = t.length → t'[1]? = some (vint .i64 l) → t'[2]? = some (.one (.ptr 0 0 0)) → (l < 0 → less left (szL a) = -1) → (¬ l < 0 → l = less left (szL a)) →
   ∃ t', exec (callL Φ ext) loopL (szC c dn.length (sg :: ss)) ⟨t, [.box ((dn ++ a ++ b).map .pv)]⟩ = some (.ret, ⟨t', [.box ((dn ++ a ++ b).map .pv)]⟩) ∧ t'[4]? = some (vint .i64 (less left (szL (a ++ b)))) := by
   intro ops cn cm t' l e1 e2 e3 e4 e5 e6 e7 e8 e9
   have hcl : cn + 1 < t'.length := by have := szN_le ss (cn + 2); omega
   rw [e1, hsz]
   by_cases hn : l < 0
   ·obtain ⟨t'', g1, g2⟩ := neg1_lt (call := callL Φ ext) (lp := loopL) (h := [.box ((dn ++ a ++ b).map .pv)]) e6 hn e3 hcl
    refine ⟨t'', ?_, ?_⟩
    ·simp only [exec, e4, g1]
    ·rw [g2, less_neg (b := szL b) h0 (by rw [e8 hn]; omega)]
   ·have g1 := neg1_ge (call := callL Φ ext) (lp := loopL) (h := [.box ((dn ++ a ++ b).map .pv)]) e6 hn hcl
    have hge : 0 ≤ less left (szL a) := by rw [← e9 hn]; omega
    obtain ⟨t'', f1, f2⟩ := ih (c := cn + 2) (dn := dn ++ a) (row := b) (t := (t'.set cn (vint .i64 l)).set (cn + 1) (vbool false)) (left := l) (by rw [List.getElem?_set_ne (by omega), List.getElem?_set_ne (by omega)]; exact e6) (by rw [List.getElem?_set_ne (by omega), List.getElem?_set_ne (by omega)]; exact e7) (by omega) (by have := less_le (a := szL a) h0; rw [e9 hn]; omega) (by omega) (by simp [e5]; rw [← e2]; exact hN) hb
    refine ⟨t'', ?_, ?_⟩
    ·simp only [exec, e4, g1]
     exact f1
    ·rw [f2, ← less_less hge, e9 hn]
  have call : ∀ {n : Nat} {agg : Bool} {k : Nat} {v : V}, szC c dn.length (sg :: ss) = .seq (.region (segLd c 2 dn.length n agg ++ szCall c k)) (.seq (neg1 (c + 4)) (szC (c + 6) (dn ++ a).length ss)) → szN c (sg :: ss) = szN (c + 6) ss →
   cut agg n dn.length ((dn ++ (a ++ b)).map .pv) = some v → (∀ h i, viewArgs h [v, vint .i64 i] = some [v, vint .i64 i]) → callL Φ ext k [v, vint .i64 left] = some (vint .i64 (less left (szL a))) →
   ∃ t', exec (callL Φ ext) loopL (szC c dn.length (sg :: ss)) ⟨t, [.box ((dn ++ a ++ b).map .pv)]⟩ = some (.ret, ⟨t', [.box ((dn ++ a ++ b).map .pv)]⟩) ∧ t'[4]? = some (vint .i64 (less left (szL (a ++ b)))) := by
   intro n agg k v e1 e2 e3 e4 e5
   have hcl : c + 5 < t.length := by have := szN_le ss (c + 6); omega
   rw [← List.append_assoc] at e3
   have el := seg_load (t := t) (h := [.box ((dn ++ a ++ b).map .pv)]) t2 (c := c) (by omega) (by omega) rfl e3 (callL Φ ext)
   generalize hh : [AObj.box ((dn ++ a ++ b).map L.pv)] = hp at el go ⊢
   have q1 : ((t.set c (V.one (.ptr 0 0 dn.length))).set (c + 1) v).getD 1 (.tup []) = vint .i64 left := by rw [getD_ne (by omega), getD_ne (by omega)]; exact getD_some t1
   have q2 : (((t.set c (V.one (.ptr 0 0 dn.length))).set (c + 1) v).set (c + 2) (vint .i64 left)).getD (c + 1) (.tup []) = v := by rw [getD_ne (by omega)]; exact getD_set (by simp; omega)
   have q3 : (((t.set c (V.one (.ptr 0 0 dn.length))).set (c + 1) v).set (c + 2) (vint .i64 left)).getD (c + 2) (.tup []) = vint .i64 left := getD_set (by simp; omega)
   have q4 : ((((t.set c (V.one (.ptr 0 0 dn.length))).set (c + 1) v).set (c + 2) (vint .i64 left)).set (c + 3) (vint .i64 (less left (szL a)))).getD (c + 3) (.tup []) = vint .i64 (less left (szL a)) := getD_set (by simp; omega)
   refine go (ops := segLd c 2 dn.length n agg ++ szCall c k) (cn := c + 4) (cm := 0) (l := less left (szL a)) (t' := ((((t.set c (V.one (.ptr 0 0 dn.length))).set (c + 1) v).set (c + 2) (vint .i64 left)).set (c + 3) (vint .i64 (less left (szL a)))).set 1 (vint .i64 (less left (szL a)))) e1 e2 (by omega) ?_ (by simp) (List.getElem?_set_self (by simp; omega)) ?_ (fun hn => less_ge hn h0) (fun _ => rfl)
   ·rw [execOps_app _ _ _ el]
    simp only [szCall, execOps, stepO, wants, fop, Opd.ev, q1, put, Bool.true_or, if_true, List.map_cons, List.map_nil, q2, q3, e4, e5, V.flat, L.flat, Bool.not_true, Bool.and_false, Bool.false_eq_true, if_false, setV, setL, q4]
   ·rw [List.getElem?_set_ne (by omega), List.getElem?_set_ne (by omega), List.getElem?_set_ne (by omega), List.getElem?_set_ne (by omega), List.getElem?_set_ne (by omega)]; exact t2
  cases sg with
  | c ty =>
   simp only [Seg.ts, List.length_singleton] at hal ha
   obtain ⟨p, rfl⟩ := List.length_eq_one_iff.1 hal
   have hlen : (dn ++ [p]).length = dn.length + 1 := by simp
   cases ty with
   | lst us => cases hSeg
   | int k =>
    obtain ⟨n, rfl⟩ := Has_int ha.1
    exact skip (c' := 0) (by simp only [szL, sz]) (by rw [hlen]; rfl) rfl
   | bool =>
    obtain ⟨n, rfl⟩ := Has_bool ha.1
    exact skip (c' := 0) (by simp only [szL, sz]) (by rw [hlen]; rfl) rfl
   | str =>
    obtain ⟨s, rfl⟩ := Has_str ha.1
    have hs : s.length ≤ maxLen := ha.1
    unfold maxLen at hs
    have hza : szL [PV.str s] = s.length := by simp only [szL, sz, Nat.add_zero]
    have hcl : c + 7 < t.length := by have := szN_le ss (c + 7); simp only [szN] at hN; omega
    have hw : IntKind.i64.wrap (left - (s.length : Int)) = left - s.length := by rw [IntKind.wrap_i64]; omega
    have hcut : cut false 1 dn.length ((dn ++ [PV.str s] ++ b).map .pv) = some (vstr s) := by rw [List.append_assoc]; exact cut_seg (agg := false) (a := [.str s]) (.inr rfl)
    have el := seg_load (x := 2) (ox := 0) (t := t.set c (vint .i64 left)) (h := [.box ((dn ++ [PV.str s] ++ b).map .pv)]) (by rw [List.getElem?_set_ne (by omega)]; exact t2) (c := c + 1) (by omega) (by simp; omega) rfl hcut (callL Φ ext)
    generalize hh : [AObj.box ((dn ++ [PV.str s] ++ b).map L.pv)] = hp at el go ⊢
    have q1 : t.getD 1 (.tup []) = vint .i64 left := getD_some t1
    generalize hT : ((t.set c (vint .i64 left)).set (c + 1) (V.one (.ptr 0 0 dn.length))).set (c + 1 + 1) (vstr s) = T at el
    have lT : T.length = t.length := by rw [← hT]; simp
    have q2 : T.getD (c + 2) (.tup []) = vstr s := by rw [← hT]; exact getD_set (by simp; omega)
    have q3 : (T.set (c + 3) (vint .i64 s.length)).getD c (.tup []) = vint .i64 left := by rw [getD_ne (by omega), ← hT, getD_ne (by omega), getD_ne (by omega)]; exact getD_set (by omega)
    have q4 : (T.set (c + 3) (vint .i64 s.length)).getD (c + 3) (.tup []) = vint .i64 s.length := getD_set (by omega)
    have q5 : ((T.set (c + 3) (vint .i64 s.length)).set (c + 4) (vint .i64 (left - s.length))).getD (c + 4) (.tup []) = vint .i64 (left - s.length) := getD_set (by simp; omega)
    refine go (cn := c + 5) (cm := 0) (l := left - s.length) (t' := ((T.set (c + 3) (vint .i64 s.length)).set (c + 4) (vint .i64 (left - s.length))).set 1 (vint .i64 (left - s.length))) (by rw [hlen]; rfl) rfl (by omega) ?_ (by simp [lT]) (List.getElem?_set_self (by simp; omega)) ?_ (fun hn => by rw [hza]; exact less_lt (by omega)) (fun hn => by rw [hza]; unfold less; rw [if_neg (by omega)])
    ·simp only [List.cons_append, execOps]
     simp only [stepO, wants, fop, Opd.ev, q1, put]
     rw [execOps_app _ _ _ el]
     simp only [execOps, stepO, wants, fop, Opd.ev, q2, isStr, put, q3, q4, bin, if_true, binInt, hw, q5]
    ·rw [List.getElem?_set_ne (by omega), List.getElem?_set_ne (by omega), List.getElem?_set_ne (by omega), ← hT, List.getElem?_set_ne (by omega), List.getElem?_set_ne (by omega), List.getElem?_set_ne (by omega)]; exact t2
  | s ts K =>
   simp only [Seg.ts] at hal ha
   have hlen : (dn ++ a).length = dn.length + ts.length := by simp [hal]
   by_cases hk : K.ks = 0
   ·simp only [SegSz, hk, if_true] at hSeg
    exact skip (c' := 0) (szL_zero hSeg ha) (by rw [hlen]; simp only [szC, hk, if_true]) (by simp only [szN, hk, if_true])
   ·simp only [SegSz, hk, if_false] at hSeg
    exact call (n := ts.length) (agg := true) (v := .agg (a.map .pv)) (by rw [hlen]; simp only [szC, hk, if_false]) (by simp only [szN, hk, if_false]) (by rw [← hal]; exact cut_seg (agg := true) (.inl rfl)) (fun h i => by simp only [viewArgs, view_agg]; rfl) (hSeg a ha left h0 h1)
  | l ts K =>
   simp only [Seg.ts, List.length_singleton] at hal ha
   obtain ⟨p, rfl⟩ := List.length_eq_one_iff.1 hal
   obtain ⟨rows, rfl⟩ := Has_lst ha.1
   have hlen : (dn ++ [PV.lst rows]).length = dn.length + 1 := by simp
   exact call (n := 1) (agg := false) (v := vlst rows) (by rw [hlen]; rfl) rfl (cut_seg (agg := false) (a := [.lst rows]) (.inr rfl)) (fun h i => rfl) (by have := hSeg rows ha.1 left h0 h1; simpa only [szL, Nat.add_zero] using this)
theorem genSz_ok {k : Nat} {ss : List Seg} (hk : Φ k = some (genSz ss)) (hss : ∀ s ∈ ss, SegSz Φ ext s) : SzOK Φ ext k (segTs ss) := by
 intro r hr left h0 h1
 refine callL_fn hk ?_
 have hle := szN_le ss 5
 obtain ⟨m, hm⟩ : ∃ m, szN 5 ss + 1 - 2 = m + 4 := ⟨szN 5 ss - 5, by omega⟩
 have hpl : (r.map L.pv).all plain = true := by simp [plain]
 obtain ⟨t', e1, e2⟩ := szC_run ss hss (c := 5) (dn := []) (row := r) (t := V.agg (r.map .pv) :: vint .i64 left :: V.one (.ptr 0 0 0) :: .tup [] :: vint .i64 0 :: List.replicate (m + 1) (.tup [])) (left := left) rfl rfl h0 h1 (by omega) (by simp; omega) hr
 have hst : execL Φ ext (genSz ss).body (start (genSz ss) [.agg (r.map .pv), vint .i64 left]) = some (.ret, ⟨t', [.box (r.map .pv)]⟩) := by
  simp only [execL, genSz, start, List.length_cons, List.length_nil, Nat.zero_add, Nat.reduceAdd, hm, exec, execOps, stepO, wants, fop, eop, Opd.ev, put, List.replicate_succ, List.cons_append, List.nil_append, List.getD_cons_zero, List.set_cons_succ, List.set_cons_zero, V.cells, hpl, if_true]
  exact e1
 rw [hst]
 simp only [done, genSz, finish, resultsOf, resultOf, getD_some e2, List.flatMap_cons, List.flatMap_nil, List.append_nil, V.cells, comps, comp, giveLs, giveL]
 simp [arrsOf]
def EqOK (Φ : Nat → Option AFn) (ext : Nat → List V → Option V) (k : Nat) (ts : List PTy) : Prop :=
 ∀ r : List PV, HasL ts r → callL Φ ext k [.agg (r.map .pv), .agg (r.map .pv)] = some (vbool true)
def EqSOK (Φ : Nat → Option AFn) (ext : Nat → List V → Option V) (k : Nat) (ts : List PTy) : Prop :=
 ∀ rows : List (List PV), Has (.lst ts) (.lst rows) → callL Φ ext k [vlst rows, vlst rows] = some (vbool true)
def SegEq (Φ : Nat → Option AFn) (ext : Nat → List V → Option V) : Seg → Prop
 | .c t => t.flatT = true
 | .s ts K => EqOK Φ ext K.ke ts
 | .l ts K => EqSOK Φ ext K.ke ts
theorem eqN_le : ∀ (ss : List Seg) (c : Nat), c ≤ eqN c ss
 | [], c => Nat.le_refl _
 | .c _ :: ss, c => Nat.le_trans (by omega) (eqN_le ss (c + 5))
 | .s _ _ :: ss, c => Nat.le_trans (by omega) (eqN_le ss (c + 6))
 | .l _ _ :: ss, c => Nat.le_trans (by omega) (eqN_le ss (c + 6))
theorem eqC_run : ∀ (ss : List Seg), (∀ s ∈ ss, SegEq Φ ext s) → ∀ {c : Nat} {dn row : List PV} {t : List V},
 t[2]? = some (.one (.ptr 0 0 0)) → t[3]? = some (.one (.ptr 1 0 0)) → 5 ≤ c → eqN c ss ≤ t.length → HasL (segTs ss) row →
 ∃ t', exec (callL Φ ext) loopL (eqC c dn.length ss) ⟨t, [.box ((dn ++ row).map .pv), .box ((dn ++ row).map .pv)]⟩ = some (.ret, ⟨t', [.box ((dn ++ row).map .pv), .box ((dn ++ row).map .pv)]⟩) ∧ t'[4]? = some (vbool true)
 | [], _, c, dn, row, t, t2, t3, hc, hN, hr => by
  simp only [eqN] at hN
  refine ⟨t.set 4 (vbool true), ?_, List.getElem?_set_self (by omega)⟩
  simp only [eqC, exec, execOps, stepO, wants, fop, Opd.ev, put]
 | sg :: ss, hss, c, dn, row, t, t2, t3, hc, hN, hr => by
  obtain ⟨a, b, rfl, ha, hb⟩ := HasL_app (ts := sg.ts) hr
  have hal := HasL_len ha
  have hSeg := hss sg (by simp)
  have ih := fun {c dn row t} => eqC_run ss (fun s m => hss s (by simp [m])) (c := c) (dn := dn) (row := row) (t := t)
  rw [← List.append_assoc]
  generalize hh : [AObj.box ((dn ++ a ++ b).map L.pv), .box ((dn ++ a ++ b).map L.pv)] = hp
  have go : ∀ {ops : List AOper} {cn : Nat} {t' : List V}, eqC c dn.length (sg :: ss) = .seq (.seq (.region ops) (.cond (.tmp cn) retFl .skip)) (eqC (cn + 1) (dn ++ a).length ss) → eqN c (sg :: ss) = eqN (cn + 1) ss → 4 ≤ cn →
   execOps (callL Φ ext) ops ⟨t, hp⟩ = some ⟨t', hp⟩ → t'.length = t.length → t'[cn]? = some (vbool false) → t'[2]? = t[2]? → t'[3]? = t[3]? →
   ∃ t', exec (callL Φ ext) loopL (eqC c dn.length (sg :: ss)) ⟨t, hp⟩ = some (.ret, ⟨t', hp⟩) ∧ t'[4]? = some (vbool true) := by
   intro ops cn t' e1 e2 e3 e4 e5 e6 e7 e8
   obtain ⟨t'', f1, f2⟩ := ih (c := cn + 1) (dn := dn ++ a) (row := b) (t := t') (e7.trans t2) (e8.trans t3) (by omega) (by rw [e5, ← e2]; exact hN) hb
   rw [hh] at f1
   refine ⟨t'', ?_, f2⟩
   rw [e1]
   simp only [exec, e4, Opd.ev, getD_some e6, isBool, Bool.false_eq_true, if_false]
   exact f1
  have hb0 : hp[0]? = some (.box ((dn ++ a ++ b).map .pv)) := by rw [← hh]; rfl
  have hb1 : hp[1]? = some (.box ((dn ++ a ++ b).map .pv)) := by rw [← hh]; rfl
  have ld : ∀ {n : Nat} {agg : Bool} {v : V}, cut agg n dn.length ((dn ++ a ++ b).map .pv) = some v → c + 3 < t.length → ∃ T, execOps (callL Φ ext) (segLd c 2 dn.length n agg ++ segLd (c + 2) 3 dn.length n agg) ⟨t, hp⟩ = some ⟨T, hp⟩ ∧ T.length = t.length ∧ T.getD (c + 1) (.tup []) = v ∧ T.getD (c + 3) (.tup []) = v ∧ T[2]? = t[2]? ∧ T[3]? = t[3]? := by
   intro n agg v hcut hlt
   have el1 := seg_load (t := t) (h := hp) t2 (c := c) (by omega) (by omega) hb0 hcut (callL Φ ext)
   have el2 := seg_load (t := (t.set c (.one (.ptr 0 0 dn.length))).set (c + 1) v) (h := hp) (x := 3) (ox := 1) (by rw [List.getElem?_set_ne (by omega), List.getElem?_set_ne (by omega)]; exact t3) (c := c + 2) (by omega) (by simp; omega) hb1 hcut (callL Φ ext)
   refine ⟨_, (execOps_app _ _ _ el1).trans el2, by simp, ?_, ?_, ?_, ?_⟩
   ·rw [getD_ne (by omega), getD_ne (by omega)]; exact getD_set (by simp; omega)
   ·exact getD_set (by simp; omega)
   ·rw [List.getElem?_set_ne (by omega), List.getElem?_set_ne (by omega), List.getElem?_set_ne (by omega), List.getElem?_set_ne (by omega)]
   ·rw [List.getElem?_set_ne (by omega), List.getElem?_set_ne (by omega), List.getElem?_set_ne (by omega), List.getElem?_set_ne (by omega)]
  have call : ∀ {n : Nat} {agg : Bool} {k : Nat} {v : V}, eqC c dn.length (sg :: ss) = .seq (.seq (.region (segLd c 2 dn.length n agg ++ (segLd (c + 2) 3 dn.length n agg ++ [⟨some (c + 4), .call k [.tmp (c + 1), .tmp (c + 3)] true false, none⟩, ⟨some (c + 5), .un .not (.tmp (c + 4)), none⟩]))) (.cond (.tmp (c + 5)) retFl .skip)) (eqC (c + 6) (dn ++ a).length ss) → eqN c (sg :: ss) = eqN (c + 6) ss →
   cut agg n dn.length ((dn ++ (a ++ b)).map .pv) = some v → (∀ h, viewArgs h [v, v] = some [v, v]) → callL Φ ext k [v, v] = some (vbool true) →
   ∃ t', exec (callL Φ ext) loopL (eqC c dn.length (sg :: ss)) ⟨t, hp⟩ = some (.ret, ⟨t', hp⟩) ∧ t'[4]? = some (vbool true) := by
   intro n agg k v e1 e2 e3 e4 e5
   have hcl : c + 6 ≤ t.length := by have := eqN_le ss (c + 6); omega
   rw [← List.append_assoc] at e3
   obtain ⟨T, g1, g2, g3, g4, g5, g6⟩ := ld e3 (by omega)
   have q1 : (T.set (c + 4) (vbool true)).getD (c + 4) (.tup []) = vbool true := getD_set (by omega)
   refine go (cn := c + 5) (t' := (T.set (c + 4) (vbool true)).set (c + 5) (vbool false)) e1 e2 (by omega) ?_ (by simp [g2]) (List.getElem?_set_self (by simp; omega)) (by rw [List.getElem?_set_ne (by omega), List.getElem?_set_ne (by omega)]; exact g5) (by rw [List.getElem?_set_ne (by omega), List.getElem?_set_ne (by omega)]; exact g6)
   rw [← List.append_assoc, execOps_app _ _ _ g1]
   simp only [execOps, stepO, wants, fop, Opd.ev, g3, g4, put, Bool.true_or, if_true, List.map_cons, List.map_nil, e4, e5, V.flat, L.flat, Bool.not_true, Bool.and_false, Bool.false_eq_true, if_false, setV, setL, q1, un]
  cases sg with
  | c ty =>
   simp only [Seg.ts, List.length_singleton] at hal ha
   obtain ⟨p, rfl⟩ := List.length_eq_one_iff.1 hal
   have hlen : (dn ++ [p]).length = dn.length + 1 := by simp
   have hcl : c + 5 ≤ t.length := by have := eqN_le ss (c + 5); simp only [eqN] at hN; omega
   have hcut : cut false 1 dn.length ((dn ++ [p] ++ b).map .pv) = some (.one (.pv p)) := by rw [List.append_assoc]; exact cut_seg (agg := false) (a := [p]) (.inr rfl)
   obtain ⟨T, g1, g2, g3, g4, g5, g6⟩ := ld hcut (by omega)
   refine go (cn := c + 4) (t' := T.set (c + 4) (vbool false)) (by rw [hlen]; rfl) rfl (by omega) ?_ (by simp [g2]) (List.getElem?_set_self (by omega)) (by rw [List.getElem?_set_ne (by omega)]; exact g5) (by rw [List.getElem?_set_ne (by omega)]; exact g6)
   rw [← List.append_assoc, execOps_app _ _ _ g1]
   cases ty with
   | lst us => cases hSeg
   | int k => obtain ⟨n, rfl⟩ := Has_int ha.1; simp only [execOps, stepO, wants, fop, neqC, Opd.ev, g3, g4, put, bin, if_true, binInt, bne_self_eq_false]
   | bool => obtain ⟨n, rfl⟩ := Has_bool ha.1; simp only [execOps, stepO, wants, fop, neqC, Opd.ev, g3, g4, put, isBool, if_true, beq_self_eq_true, Bool.not_true]
   | str => obtain ⟨n, rfl⟩ := Has_str ha.1; simp only [execOps, stepO, wants, fop, neqC, Opd.ev, g3, g4, put, bin, binStr, beq_self_eq_true, Bool.not_true]
  | s ts K =>
   simp only [Seg.ts] at hal ha
   have hlen : (dn ++ a).length = dn.length + ts.length := by simp [hal]
   exact call (n := ts.length) (agg := true) (v := .agg (a.map .pv)) (by rw [hlen]; rfl) rfl (by rw [← hal]; exact cut_seg (agg := true) (.inl rfl)) (fun h => by simp only [viewArgs, view_agg]) (hSeg a ha)
  | l ts K =>
   simp only [Seg.ts, List.length_singleton] at hal ha
   obtain ⟨p, rfl⟩ := List.length_eq_one_iff.1 hal
   obtain ⟨rows, rfl⟩ := Has_lst ha.1
   have hlen : (dn ++ [PV.lst rows]).length = dn.length + 1 := by simp
   exact call (n := 1) (agg := false) (v := vlst rows) (by rw [hlen]; rfl) rfl (cut_seg (agg := false) (a := [.lst rows]) (.inr rfl)) (fun h => rfl) (hSeg rows ha.1)
theorem genEq_ok {k : Nat} {ss : List Seg} (hk : Φ k = some (genEq ss)) (hss : ∀ s ∈ ss, SegEq Φ ext s) : EqOK Φ ext k (segTs ss) := by
 intro r hr
 refine callL_fn hk ?_
 have hle := eqN_le ss 5
 obtain ⟨m, hm⟩ : ∃ m, eqN 5 ss - 2 = m + 3 := ⟨eqN 5 ss - 5, by omega⟩
 have hpl : (r.map L.pv).all plain = true := by simp [plain]
 obtain ⟨t', e1, e2⟩ := eqC_run ss hss (c := 5) (dn := []) (row := r) (t := V.agg (r.map .pv) :: V.agg (r.map .pv) :: V.one (.ptr 0 0 0) :: V.one (.ptr 1 0 0) :: vbool false :: List.replicate m (.tup [])) rfl rfl (by omega) (by simp; omega) hr
 have hst : execL Φ ext (genEq ss).body (start (genEq ss) [.agg (r.map .pv), .agg (r.map .pv)]) = some (.ret, ⟨t', [.box (r.map .pv), .box (r.map .pv)]⟩) := by
  simp only [execL, genEq, start, List.length_cons, List.length_nil, Nat.zero_add, Nat.reduceAdd, hm, exec, execOps, stepO, wants, fop, eop, Opd.ev, put, List.replicate_succ, List.cons_append, List.nil_append, List.getD_cons_zero, List.getD_cons_succ, List.set_cons_succ, List.set_cons_zero, V.cells, hpl, if_true]
  exact e1
 rw [hst]
 simp only [done, genEq, finish, resultsOf, resultOf, getD_some e2, List.flatMap_cons, List.flatMap_nil, List.append_nil, V.cells, comps, comp, giveLs, giveL]
 simp [arrsOf]
def AllS (P : Seg → Prop) : List Seg → Prop
 | [] => True
 | s :: ss => P s ∧ AllS P ss
theorem ofAll {P : Seg → Prop} : ∀ {ss : List Seg}, AllS P ss → ∀ s ∈ ss, P s
 | [], _, _, h => by cases h
 | x :: xs, h, s, hm => by
  rcases List.mem_cons.1 hm with rfl | hm
  ·exact h.1
  ·exact ofAll h.2 s hm
theorem szS_gen {k z kx : Nat} {ts : List PTy} (hk : Φ k = some (szS z kx)) (hz : ts.length = z) (hx : SzOK Φ ext kx ts) : SzSOK Φ ext k ts := by
 intro rows h left h0 h1
 obtain ⟨hl, hr⟩ := Has_rows h
 rw [sz_lst]
 exact szS_ok hk (fun r m => by rw [HasL_len (hr r m), hz]) hl (fun r m => hx r (hr r m)) h0 h1
theorem szF_gen {k : Nat} {ts : List PTy} (hk : Φ k = some szF) (ha : ts.all PTy.small = true) : SzSOK Φ ext k ts := by
 intro rows h left h0 h1
 obtain ⟨hl, hr⟩ := Has_rows h
 rw [sz_lst, szRows_zero ha hr]
 exact szF_ok hk hl h0 h1
theorem eqS_gen {k z kx : Nat} {ts : List PTy} (hk : Φ k = some (eqFn 27 (eqSBody z kx))) (hz : ts.length = z) (hx : EqOK Φ ext kx ts) : EqSOK Φ ext k ts := by
 intro rows h
 obtain ⟨hl, hr⟩ := Has_rows h
 exact eqS_ok hk (fun r m => by rw [HasL_len (hr r m), hz]) hl (fun r m => hx r (hr r m))
theorem eqF_gen {k : Nat} {t : PTy} (hk : Φ k = some (eqFn 26 eqFBody)) (ht : t.easy = true) : EqSOK Φ ext k [t] := by
 intro rows h
 obtain ⟨hl, hr⟩ := Has_rows h
 obtain ⟨qs, rfl⟩ := singles hr
 exact eqF_ok hk (plains ht hr) (by simpa using hl)
end
end Gi
