/- Of this proof. -/
import Derived.Test.YtlohbkffhpnfgaaGreatGpd
set_option linter.unusedSimpArgs false
set_option linter.unusedVariables false
namespace Gi
open Go Go.RowKit
def CV (c ks : Nat) : List AOper := [⟨some (c + 2), .mv (.tmp 1), none⟩, ⟨some (c + 3), .call ks [.tmp (c + 1), .tmp (c + 2)] true false, none⟩, ⟨some 1, .mv (.tmp (c + 3)), none⟩]
def F4 : Nat → Nat → List Seg → ACode
 | c, _, [] => .seq (.region [⟨some c, .mv (.tmp 1), none⟩, ⟨some 4, .mv (.tmp c), none⟩]) .ret
 | c, off, .c .str :: ss => .seq (.region (⟨some c, .mv (.tmp 1), none⟩ :: kF (c + 1) 2 off 1 false ++ [⟨some (c + 3), .lenS (.tmp (c + 2)), none⟩, ⟨some (c + 4), .bin .sub (.tmp c) (.tmp (c + 3)), none⟩, ⟨some 1, .mv (.tmp (c + 4)), none⟩])) (.seq (nf (c + 5)) (F4 (c + 7) (off + 1) ss))
 | c, off, .c _ :: ss => F4 c (off + 1) ss
 | c, off, .s ts K :: ss => if K.ks = 0 then F4 c (off + ts.length) ss else .seq (.region (kF c 2 off ts.length true ++ CV c K.ks)) (.seq (nf (c + 4)) (F4 (c + 6) (off + ts.length) ss))
 | c, off, .l _ K :: ss => .seq (.region (kF c 2 off 1 false ++ CV c K.ks)) (.seq (nf (c + 4)) (F4 (c + 6) (off + 1) ss))
def Ed : Nat → List Seg → Nat
 | c, [] => c
 | c, .c .str :: ss => Ed (c + 7) ss
 | c, .c _ :: ss => Ed c ss
 | c, .s _ K :: ss => if K.ks = 0 then Ed c ss else Ed (c + 6) ss
 | c, .l _ _ :: ss => Ed (c + 6) ss
def fm (ss : List Seg) : AFn := ⟨Ed 5 ss + 1, [.tmp 4], .seq (.region [⟨some 2, .box (.tmp 0), none⟩, ⟨some 4, .mv (.pv (.int .i64 0)), none⟩]) (F4 5 0 ss)⟩
def HT : ACode := .seq (.region [⟨some 4, .mv (.pv (.bool false)), none⟩]) .ret
def D6 (t : PTy) (x y : Opd) : AOp := match t with
 | .bool => .eqB true x y
 | _ => .bin .neq x y
def Mj : Nat → Nat → List Seg → ACode
 | _, _, [] => .seq (.region [⟨some 4, .mv (.pv (.bool true)), none⟩]) .ret
 | c, off, .c t :: ss => .seq (.seq (.region (kF c 2 off 1 false ++ (kF (c + 2) 3 off 1 false ++ [⟨some (c + 4), D6 t (.tmp (c + 1)) (.tmp (c + 3)), none⟩]))) (.cond (.tmp (c + 4)) HT .skip)) (Mj (c + 5) (off + 1) ss)
 | c, off, .s ts K :: ss => .seq (.seq (.region (kF c 2 off ts.length true ++ (kF (c + 2) 3 off ts.length true ++ [⟨some (c + 4), .call K.ke [.tmp (c + 1), .tmp (c + 3)] true false, none⟩, ⟨some (c + 5), .un .not (.tmp (c + 4)), none⟩]))) (.cond (.tmp (c + 5)) HT .skip)) (Mj (c + 6) (off + ts.length) ss)
 | c, off, .l _ K :: ss => .seq (.seq (.region (kF c 2 off 1 false ++ (kF (c + 2) 3 off 1 false ++ [⟨some (c + 4), .call K.ke [.tmp (c + 1), .tmp (c + 3)] true false, none⟩, ⟨some (c + 5), .un .not (.tmp (c + 4)), none⟩]))) (.cond (.tmp (c + 5)) HT .skip)) (Mj (c + 6) (off + 1) ss)
def Lj : Nat → List Seg → Nat
 | c, [] => c
 | c, .c _ :: ss => Lj (c + 5) ss
 | c, _ :: ss => Lj (c + 6) ss
def eW (ss : List Seg) : AFn := ⟨Lj 5 ss, [.tmp 4], .seq (.region [⟨some 2, .box (.tmp 0), none⟩, ⟨some 3, .box (.tmp 1), none⟩, ⟨some 4, .mv (.pv (.bool false)), none⟩]) (Mj 5 0 ss)⟩
section
variable {Φ : Nat → Option AFn} {ext : Nat → List V → Option V}
def jI (Φ : Nat → Option AFn) (ext : Nat → List V → Option V) (k : Nat) (ts : List PTy) : Prop := ∀ r : List PV, a9 ts r → AU Φ ext k r
def jt (Φ : Nat → Option AFn) (ext : Nat → List V → Option V) (k : Nat) (ts : List PTy) : Prop :=
 ∀ rows : List (List PV), nb (.lst ts) (.lst rows) → ∀ left : Int, 0 ≤ left → left ≤ 1048576 → ae Φ ext k [bu rows, aa .i64 left] = some (aa .i64 (less left (sz (.lst rows))))
def JU (Φ : Nat → Option AFn) (ext : Nat → List V → Option V) : Seg → Prop
 | .c t => t.flatT = true
 | .s ts K => if K.ks = 0 then ts.all PTy.small = true else jI Φ ext K.ks ts
 | .l ts K => jt Φ ext K.ks ts
theorem Ol {call : Nat → List V → Option V} {lp} {c : Nat} {t : List V} {h : List AObj} {l : Int} (h1 : t[1]? = some (aa .i64 l)) (hl : l < 0) (hc : 5 ≤ c) (hlt : c + 1 < t.length) :
 ∃ t', ai call lp (nf c) ⟨t, h⟩ = some (.ret, ⟨t', h⟩) ∧ t'[4]? = some (aa .i64 (-1)) := by
 have e1 : t.getD 1 (.tup []) = aa .i64 l := getD_some h1
 have e2 : (t.set c (aa .i64 l)).getD c (.tup []) = aa .i64 l := az (by omega)
 have e3 : ((t.set c (aa .i64 l)).set (c + 1) (ar true)).getD (c + 1) (.tup []) = ar true := az (by simp; omega)
 refine ⟨((t.set c (aa .i64 l)).set (c + 1) (ar true)).set 4 (aa .i64 (-1)), ?_, List.getElem?_set_self (by simp; omega)⟩
 simp only [nf, ai, ag, aw, aH, bf, Opd.ev, e1, put, e2, bin, if_true, bC, hl, decide_true, e3, isBool]
theorem Kk {call : Nat → List V → Option V} {lp} {c : Nat} {t : List V} {h : List AObj} {l : Int} (h1 : t[1]? = some (aa .i64 l)) (hl : ¬ l < 0) (hlt : c + 1 < t.length) :
 ai call lp (nf c) ⟨t, h⟩ = some (.normal, ⟨(t.set c (aa .i64 l)).set (c + 1) (ar false), h⟩) := by
 have e1 : t.getD 1 (.tup []) = aa .i64 l := getD_some h1
 have e2 : (t.set c (aa .i64 l)).getD c (.tup []) = aa .i64 l := az (by omega)
 have e3 : ((t.set c (aa .i64 l)).set (c + 1) (ar false)).getD (c + 1) (.tup []) = ar false := az (by simp; omega)
 simp only [nf, ai, ag, aw, aH, bf, Opd.ev, e1, put, e2, bin, if_true, bC, hl, decide_false, e3, isBool, Bool.false_eq_true, if_false]
theorem oD : ∀ (ss : List Seg) (c : Nat), c ≤ Ed c ss
 | [], c => Nat.le_refl _
 | .c .str :: ss, c => Nat.le_trans (by omega) (oD ss (c + 7))
 | .c (.int _) :: ss, c => oD ss c
 | .c .bool :: ss, c => oD ss c
 | .c (.lst _) :: ss, c => oD ss c
 | .s _ K :: ss, c => by
  simp only [Ed]
  split
  ·exact oD ss c
  ·exact Nat.le_trans (by omega) (oD ss (c + 6))
 | .l _ _ :: ss, c => Nat.le_trans (by omega) (oD ss (c + 6))
theorem Kv : ∀ (ss : List Seg), (∀ s ∈ ss, JU Φ ext s) → ∀ {c : Nat} {dn row : List PV} {t : List V} {left : Int},
 t[1]? = some (aa .i64 left) → t[2]? = some (.one (.ptr 0 0 0)) → 0 ≤ left → left ≤ 1048576 → 5 ≤ c → Ed c ss < t.length → a9 (gm ss) row →
 ∃ t', ai (ae Φ ext) aq (F4 c dn.length ss) ⟨t, [.box ((dn ++ row).map .pv)]⟩ = some (.ret, ⟨t', [.box ((dn ++ row).map .pv)]⟩) ∧ t'[4]? = some (aa .i64 (less left (eF row)))
 | [], _, c, dn, row, t, left, t1, t2, h0, h1, hc, hN, hr => by
  obtain rfl := eL hr
  simp only [Ed] at hN
  have e1 : t.getD 1 (.tup []) = aa .i64 left := getD_some t1
  have e2 : (t.set c (aa .i64 left)).getD c (.tup []) = aa .i64 left := az hN
  have hl : less left (eF []) = left := by
   have e0 : eF [] = 0 := by simp only [eF]
   rw [e0]; unfold less; rw [if_neg (by omega)]; omega
  refine ⟨(t.set c (aa .i64 left)).set 4 (aa .i64 left), ?_, by rw [hl]; exact List.getElem?_set_self (by simp; omega)⟩
  simp only [F4, ai, ag, aw, aH, bf, Opd.ev, e1, put, e2]
 | sg :: ss, hss, c, dn, row, t, left, t1, t2, h0, h1, hc, hN, hr => by
  obtain ⟨a, b, rfl, ha, hb⟩ := jG (ts := sg.ts) hr
  have hal := iW ha
  have hsz := CX a b
  have hSeg := hss sg (by simp)
  have ih := fun {c dn row t left} => Kv ss (fun s m => hss s (by simp [m])) (c := c) (dn := dn) (row := row) (t := t) (left := left)
  rw [← List.append_assoc]
  have skip : ∀ {c' : Nat}, eF a = 0 → F4 c dn.length (sg :: ss) = F4 c (dn ++ a).length ss → Ed c (sg :: ss) = Ed c ss →
   ∃ t', ai (ae Φ ext) aq (F4 c dn.length (sg :: ss)) ⟨t, [.box ((dn ++ a ++ b).map .pv)]⟩ = some (.ret, ⟨t', [.box ((dn ++ a ++ b).map .pv)]⟩) ∧ t'[4]? = some (aa .i64 (less left (eF (a ++ b)))) := by
   intro _ e0 e1 e2
   rw [e1, hsz, e0, Nat.zero_add]
   exact ih t1 t2 h0 h1 hc (by rw [← e2]; exact hN) hb
  have go : ∀ {ops : List AOper} {cn cm : Nat} {t' : List V} {l : Int}, F4 c dn.length (sg :: ss) = .seq (.region ops) (.seq (nf cn) (F4 (cn + 2) (dn ++ a).length ss)) → Ed c (sg :: ss) = Ed (cn + 2) ss → 5 ≤ cn →
   ag (ae Φ ext) ops ⟨t, [.box ((dn ++ a ++ b).map .pv)]⟩ = some ⟨t', [.box ((dn ++ a ++ b).map .pv)]⟩ → t'.length = t.length → t'[1]? = some (aa .i64 l) → t'[2]? = some (.one (.ptr 0 0 0)) → (l < 0 → less left (eF a) = -1) → (¬ l < 0 → l = less left (eF a)) →
   ∃ t', ai (ae Φ ext) aq (F4 c dn.length (sg :: ss)) ⟨t, [.box ((dn ++ a ++ b).map .pv)]⟩ = some (.ret, ⟨t', [.box ((dn ++ a ++ b).map .pv)]⟩) ∧ t'[4]? = some (aa .i64 (less left (eF (a ++ b)))) := by
   intro ops cn cm t' l e1 e2 e3 e4 e5 e6 e7 e8 e9
   have hcl : cn + 1 < t'.length := by have := oD ss (cn + 2); omega
   rw [e1, hsz]
   by_cases hn : l < 0
   ·obtain ⟨t'', g1, g2⟩ := Ol (call := ae Φ ext) (lp := aq) (h := [.box ((dn ++ a ++ b).map .pv)]) e6 hn e3 hcl
    refine ⟨t'', ?_, ?_⟩
    ·simp only [ai, e4, g1]
    ·rw [g2, HA (b := eF b) h0 (by rw [e8 hn]; omega)]
   ·have g1 := Kk (call := ae Φ ext) (lp := aq) (h := [.box ((dn ++ a ++ b).map .pv)]) e6 hn hcl
    have hge : 0 ≤ less left (eF a) := by rw [← e9 hn]; omega
    obtain ⟨t'', f1, f2⟩ := ih (c := cn + 2) (dn := dn ++ a) (row := b) (t := (t'.set cn (aa .i64 l)).set (cn + 1) (ar false)) (left := l) (by rw [List.getElem?_set_ne (by omega), List.getElem?_set_ne (by omega)]; exact e6) (by rw [List.getElem?_set_ne (by omega), List.getElem?_set_ne (by omega)]; exact e7) (by omega) (by have := Kb (a := eF a) h0; rw [e9 hn]; omega) (by omega) (by simp [e5]; rw [← e2]; exact hN) hb
    refine ⟨t'', ?_, ?_⟩
    ·simp only [ai, e4, g1]
     exact f1
    ·rw [f2, ← pP hge, e9 hn]
  have call : ∀ {n : Nat} {agg : Bool} {k : Nat} {v : V}, F4 c dn.length (sg :: ss) = .seq (.region (kF c 2 dn.length n agg ++ CV c k)) (.seq (nf (c + 4)) (F4 (c + 6) (dn ++ a).length ss)) → Ed c (sg :: ss) = Ed (c + 6) ss →
   f4 agg n dn.length ((dn ++ (a ++ b)).map .pv) = some v → (∀ h i, am h [v, aa .i64 i] = some [v, aa .i64 i]) → ae Φ ext k [v, aa .i64 left] = some (aa .i64 (less left (eF a))) →
   ∃ t', ai (ae Φ ext) aq (F4 c dn.length (sg :: ss)) ⟨t, [.box ((dn ++ a ++ b).map .pv)]⟩ = some (.ret, ⟨t', [.box ((dn ++ a ++ b).map .pv)]⟩) ∧ t'[4]? = some (aa .i64 (less left (eF (a ++ b)))) := by
   intro n agg k v e1 e2 e3 e4 e5
   have hcl : c + 5 < t.length := by have := oD ss (c + 6); omega
   rw [← List.append_assoc] at e3
   have el := oA (t := t) (h := [.box ((dn ++ a ++ b).map .pv)]) t2 (c := c) (by omega) (by omega) rfl e3 (ae Φ ext)
   generalize hh : [AObj.box ((dn ++ a ++ b).map L.pv)] = hp at el go ⊢
   have q1 : ((t.set c (V.one (.ptr 0 0 dn.length))).set (c + 1) v).getD 1 (.tup []) = aa .i64 left := by rw [cO (by omega), cO (by omega)]; exact getD_some t1
   have q2 : (((t.set c (V.one (.ptr 0 0 dn.length))).set (c + 1) v).set (c + 2) (aa .i64 left)).getD (c + 1) (.tup []) = v := by rw [cO (by omega)]; exact az (by simp; omega)
   have q3 : (((t.set c (V.one (.ptr 0 0 dn.length))).set (c + 1) v).set (c + 2) (aa .i64 left)).getD (c + 2) (.tup []) = aa .i64 left := az (by simp; omega)
   have q4 : ((((t.set c (V.one (.ptr 0 0 dn.length))).set (c + 1) v).set (c + 2) (aa .i64 left)).set (c + 3) (aa .i64 (less left (eF a)))).getD (c + 3) (.tup []) = aa .i64 (less left (eF a)) := az (by simp; omega)
   refine go (ops := kF c 2 dn.length n agg ++ CV c k) (cn := c + 4) (cm := 0) (l := less left (eF a)) (t' := ((((t.set c (V.one (.ptr 0 0 dn.length))).set (c + 1) v).set (c + 2) (aa .i64 left)).set (c + 3) (aa .i64 (less left (eF a)))).set 1 (aa .i64 (less left (eF a)))) e1 e2 (by omega) ?_ (by simp) (List.getElem?_set_self (by simp; omega)) ?_ (fun hn => Ka hn h0) (fun _ => rfl)
   ·rw [bx _ _ _ el]
    simp only [CV, ag, aw, aH, bf, Opd.ev, q1, put, Bool.true_or, if_true, List.map_cons, List.map_nil, q2, q3, e4, e5, V.flat, L.flat, Bool.not_true, Bool.and_false, Bool.false_eq_true, if_false, dF, di, q4]
   ·rw [List.getElem?_set_ne (by omega), List.getElem?_set_ne (by omega), List.getElem?_set_ne (by omega), List.getElem?_set_ne (by omega), List.getElem?_set_ne (by omega)]; exact t2
  cases sg with
  | c ty =>
   simp only [Seg.ts, List.length_singleton] at hal ha
   obtain ⟨p, rfl⟩ := List.length_eq_one_iff.1 hal
   have hlen : (dn ++ [p]).length = dn.length + 1 := by simp
   cases ty with
   | lst us => cases hSeg
   | int k =>
    obtain ⟨n, rfl⟩ := kI ha.1
    exact skip (c' := 0) (by simp only [eF, sz]) (by rw [hlen]; rfl) rfl
   | bool =>
    obtain ⟨n, rfl⟩ := jH ha.1
    exact skip (c' := 0) (by simp only [eF, sz]) (by rw [hlen]; rfl) rfl
   | str =>
    obtain ⟨s, rfl⟩ := jh ha.1
    have hs : s.length ≤ maxLen := ha.1
    unfold maxLen at hs
    have hza : eF [PV.str s] = s.length := by simp only [eF, sz, Nat.add_zero]
    have hcl : c + 7 < t.length := by have := oD ss (c + 7); simp only [Ed] at hN; omega
    have hw : IntKind.i64.wrap (left - (s.length : Int)) = left - s.length := by rw [IntKind.wrap_i64]; omega
    have hcut : f4 false 1 dn.length ((dn ++ [PV.str s] ++ b).map .pv) = some (dM s) := by rw [List.append_assoc]; exact kM (agg := false) (a := [.str s]) (.inr rfl)
    have el := oA (x := 2) (ox := 0) (t := t.set c (aa .i64 left)) (h := [.box ((dn ++ [PV.str s] ++ b).map .pv)]) (by rw [List.getElem?_set_ne (by omega)]; exact t2) (c := c + 1) (by omega) (by simp; omega) rfl hcut (ae Φ ext)
    generalize hh : [AObj.box ((dn ++ [PV.str s] ++ b).map L.pv)] = hp at el go ⊢
    have q1 : t.getD 1 (.tup []) = aa .i64 left := getD_some t1
    generalize hT : ((t.set c (aa .i64 left)).set (c + 1) (V.one (.ptr 0 0 dn.length))).set (c + 1 + 1) (dM s) = T at el
    have lT : T.length = t.length := by rw [← hT]; simp
    have q2 : T.getD (c + 2) (.tup []) = dM s := by rw [← hT]; exact az (by simp; omega)
    have q3 : (T.set (c + 3) (aa .i64 s.length)).getD c (.tup []) = aa .i64 left := by rw [cO (by omega), ← hT, cO (by omega), cO (by omega)]; exact az (by omega)
    have q4 : (T.set (c + 3) (aa .i64 s.length)).getD (c + 3) (.tup []) = aa .i64 s.length := az (by omega)
    have q5 : ((T.set (c + 3) (aa .i64 s.length)).set (c + 4) (aa .i64 (left - s.length))).getD (c + 4) (.tup []) = aa .i64 (left - s.length) := az (by simp; omega)
    refine go (cn := c + 5) (cm := 0) (l := left - s.length) (t' := ((T.set (c + 3) (aa .i64 s.length)).set (c + 4) (aa .i64 (left - s.length))).set 1 (aa .i64 (left - s.length))) (by rw [hlen]; rfl) rfl (by omega) ?_ (by simp [lT]) (List.getElem?_set_self (by simp; omega)) ?_ (fun hn => by rw [hza]; exact Og (by omega)) (fun hn => by rw [hza]; unfold less; rw [if_neg (by omega)])
    ·simp only [List.cons_append, ag]
     simp only [aw, aH, bf, Opd.ev, q1, put]
     rw [bx _ _ _ el]
     simp only [ag, aw, aH, bf, Opd.ev, q2, isStr, put, q3, q4, bin, if_true, bC, hw, q5]
    ·rw [List.getElem?_set_ne (by omega), List.getElem?_set_ne (by omega), List.getElem?_set_ne (by omega), ← hT, List.getElem?_set_ne (by omega), List.getElem?_set_ne (by omega), List.getElem?_set_ne (by omega)]; exact t2
  | s ts K =>
   simp only [Seg.ts] at hal ha
   have hlen : (dn ++ a).length = dn.length + ts.length := by simp [hal]
   by_cases hk : K.ks = 0
   ·simp only [JU, hk, if_true] at hSeg
    exact skip (c' := 0) (CY hSeg ha) (by rw [hlen]; simp only [F4, hk, if_true]) (by simp only [Ed, hk, if_true])
   ·simp only [JU, hk, if_false] at hSeg
    exact call (n := ts.length) (agg := true) (v := .agg (a.map .pv)) (by rw [hlen]; simp only [F4, hk, if_false]) (by simp only [Ed, hk, if_false]) (by rw [← hal]; exact kM (agg := true) (.inl rfl)) (fun h i => by simp only [am, p6]; rfl) (hSeg a ha left h0 h1)
  | l ts K =>
   simp only [Seg.ts, List.length_singleton] at hal ha
   obtain ⟨p, rfl⟩ := List.length_eq_one_iff.1 hal
   obtain ⟨rows, rfl⟩ := mn ha.1
   have hlen : (dn ++ [PV.lst rows]).length = dn.length + 1 := by simp
   exact call (n := 1) (agg := false) (v := bu rows) (by rw [hlen]; rfl) rfl (kM (agg := false) (a := [.lst rows]) (.inr rfl)) (fun h i => rfl) (by have := hSeg rows ha.1 left h0 h1; simpa only [eF, Nat.add_zero] using this)
theorem cr {k : Nat} {ss : List Seg} (hk : Φ k = some (fm ss)) (hss : ∀ s ∈ ss, JU Φ ext s) : jI Φ ext k (gm ss) := by
 intro r hr left h0 h1
 refine eN hk ?_
 have hle := oD ss 5
 obtain ⟨m, hm⟩ : ∃ m, Ed 5 ss + 1 - 2 = m + 4 := ⟨Ed 5 ss - 5, by omega⟩
 have hpl : (r.map L.pv).all plain = true := by simp [plain]
 obtain ⟨t', e1, e2⟩ := Kv ss hss (c := 5) (dn := []) (row := r) (t := V.agg (r.map .pv) :: aa .i64 left :: V.one (.ptr 0 0 0) :: .tup [] :: aa .i64 0 :: List.replicate (m + 1) (.tup [])) (left := left) rfl rfl h0 h1 (by omega) (by simp; omega) hr
 have hst : fe Φ ext (fm ss).body (bt (fm ss) [.agg (r.map .pv), aa .i64 left]) = some (.ret, ⟨t', [.box (r.map .pv)]⟩) := by
  simp only [fe, fm, bt, List.length_cons, List.length_nil, Nat.zero_add, Nat.reduceAdd, hm, ai, ag, aw, aH, bf, bW, Opd.ev, put, List.replicate_succ, List.cons_append, List.nil_append, List.getD_cons_zero, List.set_cons_succ, List.set_cons_zero, V.cells, hpl, if_true]
  exact e1
 rw [hst]
 simp only [done, fm, aR, au, bw, getD_some e2, List.flatMap_cons, List.flatMap_nil, List.append_nil, V.cells, bO, comp, aJ, br]
 simp [ah]
def jg (Φ : Nat → Option AFn) (ext : Nat → List V → Option V) (k : Nat) (ts : List PTy) : Prop :=
 ∀ r : List PV, a9 ts r → ae Φ ext k [.agg (r.map .pv), .agg (r.map .pv)] = some (ar true)
def js (Φ : Nat → Option AFn) (ext : Nat → List V → Option V) (k : Nat) (ts : List PTy) : Prop :=
 ∀ rows : List (List PV), nb (.lst ts) (.lst rows) → ae Φ ext k [bu rows, bu rows] = some (ar true)
def OF (Φ : Nat → Option AFn) (ext : Nat → List V → Option V) : Seg → Prop
 | .c t => t.flatT = true
 | .s ts K => jg Φ ext K.ke ts
 | .l ts K => js Φ ext K.ke ts
theorem xa : ∀ (ss : List Seg) (c : Nat), c ≤ Lj c ss
 | [], c => Nat.le_refl _
 | .c _ :: ss, c => Nat.le_trans (by omega) (xa ss (c + 5))
 | .s _ _ :: ss, c => Nat.le_trans (by omega) (xa ss (c + 6))
 | .l _ _ :: ss, c => Nat.le_trans (by omega) (xa ss (c + 6))
theorem JZ : ∀ (ss : List Seg), (∀ s ∈ ss, OF Φ ext s) → ∀ {c : Nat} {dn row : List PV} {t : List V},
 t[2]? = some (.one (.ptr 0 0 0)) → t[3]? = some (.one (.ptr 1 0 0)) → 5 ≤ c → Lj c ss ≤ t.length → a9 (gm ss) row →
 ∃ t', ai (ae Φ ext) aq (Mj c dn.length ss) ⟨t, [.box ((dn ++ row).map .pv), .box ((dn ++ row).map .pv)]⟩ = some (.ret, ⟨t', [.box ((dn ++ row).map .pv), .box ((dn ++ row).map .pv)]⟩) ∧ t'[4]? = some (ar true)
 | [], _, c, dn, row, t, t2, t3, hc, hN, hr => by
  simp only [Lj] at hN
  refine ⟨t.set 4 (ar true), ?_, List.getElem?_set_self (by omega)⟩
  simp only [Mj, ai, ag, aw, aH, bf, Opd.ev, put]
 | sg :: ss, hss, c, dn, row, t, t2, t3, hc, hN, hr => by
  obtain ⟨a, b, rfl, ha, hb⟩ := jG (ts := sg.ts) hr
  have hal := iW ha
  have hSeg := hss sg (by simp)
  have ih := fun {c dn row t} => JZ ss (fun s m => hss s (by simp [m])) (c := c) (dn := dn) (row := row) (t := t)
  rw [← List.append_assoc]
  generalize hh : [AObj.box ((dn ++ a ++ b).map L.pv), .box ((dn ++ a ++ b).map L.pv)] = hp
  have go : ∀ {ops : List AOper} {cn : Nat} {t' : List V}, Mj c dn.length (sg :: ss) = .seq (.seq (.region ops) (.cond (.tmp cn) HT .skip)) (Mj (cn + 1) (dn ++ a).length ss) → Lj c (sg :: ss) = Lj (cn + 1) ss → 4 ≤ cn →
   ag (ae Φ ext) ops ⟨t, hp⟩ = some ⟨t', hp⟩ → t'.length = t.length → t'[cn]? = some (ar false) → t'[2]? = t[2]? → t'[3]? = t[3]? →
   ∃ t', ai (ae Φ ext) aq (Mj c dn.length (sg :: ss)) ⟨t, hp⟩ = some (.ret, ⟨t', hp⟩) ∧ t'[4]? = some (ar true) := by
   intro ops cn t' e1 e2 e3 e4 e5 e6 e7 e8
   obtain ⟨t'', f1, f2⟩ := ih (c := cn + 1) (dn := dn ++ a) (row := b) (t := t') (e7.trans t2) (e8.trans t3) (by omega) (by rw [e5, ← e2]; exact hN) hb
   rw [hh] at f1
   refine ⟨t'', ?_, f2⟩
   rw [e1]
   simp only [ai, e4, Opd.ev, getD_some e6, isBool, Bool.false_eq_true, if_false]
   exact f1
  have hb0 : hp[0]? = some (.box ((dn ++ a ++ b).map .pv)) := by rw [← hh]; rfl
  have hb1 : hp[1]? = some (.box ((dn ++ a ++ b).map .pv)) := by rw [← hh]; rfl
  have ld : ∀ {n : Nat} {agg : Bool} {v : V}, f4 agg n dn.length ((dn ++ a ++ b).map .pv) = some v → c + 3 < t.length → ∃ T, ag (ae Φ ext) (kF c 2 dn.length n agg ++ kF (c + 2) 3 dn.length n agg) ⟨t, hp⟩ = some ⟨T, hp⟩ ∧ T.length = t.length ∧ T.getD (c + 1) (.tup []) = v ∧ T.getD (c + 3) (.tup []) = v ∧ T[2]? = t[2]? ∧ T[3]? = t[3]? := by
   intro n agg v hcut hlt
   have el1 := oA (t := t) (h := hp) t2 (c := c) (by omega) (by omega) hb0 hcut (ae Φ ext)
   have el2 := oA (t := (t.set c (.one (.ptr 0 0 dn.length))).set (c + 1) v) (h := hp) (x := 3) (ox := 1) (by rw [List.getElem?_set_ne (by omega), List.getElem?_set_ne (by omega)]; exact t3) (c := c + 2) (by omega) (by simp; omega) hb1 hcut (ae Φ ext)
   refine ⟨_, (bx _ _ _ el1).trans el2, by simp, ?_, ?_, ?_, ?_⟩
   ·rw [cO (by omega), cO (by omega)]; exact az (by simp; omega)
   ·exact az (by simp; omega)
   ·rw [List.getElem?_set_ne (by omega), List.getElem?_set_ne (by omega), List.getElem?_set_ne (by omega), List.getElem?_set_ne (by omega)]
   ·rw [List.getElem?_set_ne (by omega), List.getElem?_set_ne (by omega), List.getElem?_set_ne (by omega), List.getElem?_set_ne (by omega)]
  have call : ∀ {n : Nat} {agg : Bool} {k : Nat} {v : V}, Mj c dn.length (sg :: ss) = .seq (.seq (.region (kF c 2 dn.length n agg ++ (kF (c + 2) 3 dn.length n agg ++ [⟨some (c + 4), .call k [.tmp (c + 1), .tmp (c + 3)] true false, none⟩, ⟨some (c + 5), .un .not (.tmp (c + 4)), none⟩]))) (.cond (.tmp (c + 5)) HT .skip)) (Mj (c + 6) (dn ++ a).length ss) → Lj c (sg :: ss) = Lj (c + 6) ss →
   f4 agg n dn.length ((dn ++ (a ++ b)).map .pv) = some v → (∀ h, am h [v, v] = some [v, v]) → ae Φ ext k [v, v] = some (ar true) →
   ∃ t', ai (ae Φ ext) aq (Mj c dn.length (sg :: ss)) ⟨t, hp⟩ = some (.ret, ⟨t', hp⟩) ∧ t'[4]? = some (ar true) := by
   intro n agg k v e1 e2 e3 e4 e5
   have hcl : c + 6 ≤ t.length := by have := xa ss (c + 6); omega
   rw [← List.append_assoc] at e3
   obtain ⟨T, g1, g2, g3, g4, g5, g6⟩ := ld e3 (by omega)
   have q1 : (T.set (c + 4) (ar true)).getD (c + 4) (.tup []) = ar true := az (by omega)
   refine go (cn := c + 5) (t' := (T.set (c + 4) (ar true)).set (c + 5) (ar false)) e1 e2 (by omega) ?_ (by simp [g2]) (List.getElem?_set_self (by simp; omega)) (by rw [List.getElem?_set_ne (by omega), List.getElem?_set_ne (by omega)]; exact g5) (by rw [List.getElem?_set_ne (by omega), List.getElem?_set_ne (by omega)]; exact g6)
   rw [← List.append_assoc, bx _ _ _ g1]
   simp only [ag, aw, aH, bf, Opd.ev, g3, g4, put, Bool.true_or, if_true, List.map_cons, List.map_nil, e4, e5, V.flat, L.flat, Bool.not_true, Bool.and_false, Bool.false_eq_true, if_false, dF, di, q1, un]
  cases sg with
  | c ty =>
   simp only [Seg.ts, List.length_singleton] at hal ha
   obtain ⟨p, rfl⟩ := List.length_eq_one_iff.1 hal
   have hlen : (dn ++ [p]).length = dn.length + 1 := by simp
   have hcl : c + 5 ≤ t.length := by have := xa ss (c + 5); simp only [Lj] at hN; omega
   have hcut : f4 false 1 dn.length ((dn ++ [p] ++ b).map .pv) = some (.one (.pv p)) := by rw [List.append_assoc]; exact kM (agg := false) (a := [p]) (.inr rfl)
   obtain ⟨T, g1, g2, g3, g4, g5, g6⟩ := ld hcut (by omega)
   refine go (cn := c + 4) (t' := T.set (c + 4) (ar false)) (by rw [hlen]; rfl) rfl (by omega) ?_ (by simp [g2]) (List.getElem?_set_self (by omega)) (by rw [List.getElem?_set_ne (by omega)]; exact g5) (by rw [List.getElem?_set_ne (by omega)]; exact g6)
   rw [← List.append_assoc, bx _ _ _ g1]
   cases ty with
   | lst us => cases hSeg
   | int k => obtain ⟨n, rfl⟩ := kI ha.1; simp only [ag, aw, aH, bf, D6, Opd.ev, g3, g4, put, bin, if_true, bC, bne_self_eq_false]
   | bool => obtain ⟨n, rfl⟩ := jH ha.1; simp only [ag, aw, aH, bf, D6, Opd.ev, g3, g4, put, isBool, if_true, beq_self_eq_true, Bool.not_true]
   | str => obtain ⟨n, rfl⟩ := jh ha.1; simp only [ag, aw, aH, bf, D6, Opd.ev, g3, g4, put, bin, ie, beq_self_eq_true, Bool.not_true]
  | s ts K =>
   simp only [Seg.ts] at hal ha
   have hlen : (dn ++ a).length = dn.length + ts.length := by simp [hal]
   exact call (n := ts.length) (agg := true) (v := .agg (a.map .pv)) (by rw [hlen]; rfl) rfl (by rw [← hal]; exact kM (agg := true) (.inl rfl)) (fun h => by simp only [am, p6]) (hSeg a ha)
  | l ts K =>
   simp only [Seg.ts, List.length_singleton] at hal ha
   obtain ⟨p, rfl⟩ := List.length_eq_one_iff.1 hal
   obtain ⟨rows, rfl⟩ := mn ha.1
   have hlen : (dn ++ [PV.lst rows]).length = dn.length + 1 := by simp
   exact call (n := 1) (agg := false) (v := bu rows) (by rw [hlen]; rfl) rfl (kM (agg := false) (a := [.lst rows]) (.inr rfl)) (fun h => rfl) (hSeg rows ha.1)
theorem bX {k : Nat} {ss : List Seg} (hk : Φ k = some (eW ss)) (hss : ∀ s ∈ ss, OF Φ ext s) : jg Φ ext k (gm ss) := by
 intro r hr
 refine eN hk ?_
 have hle := xa ss 5
 obtain ⟨m, hm⟩ : ∃ m, Lj 5 ss - 2 = m + 3 := ⟨Lj 5 ss - 5, by omega⟩
 have hpl : (r.map L.pv).all plain = true := by simp [plain]
 obtain ⟨t', e1, e2⟩ := JZ ss hss (c := 5) (dn := []) (row := r) (t := V.agg (r.map .pv) :: V.agg (r.map .pv) :: V.one (.ptr 0 0 0) :: V.one (.ptr 1 0 0) :: ar false :: List.replicate m (.tup [])) rfl rfl (by omega) (by simp; omega) hr
 have hst : fe Φ ext (eW ss).body (bt (eW ss) [.agg (r.map .pv), .agg (r.map .pv)]) = some (.ret, ⟨t', [.box (r.map .pv), .box (r.map .pv)]⟩) := by
  simp only [fe, eW, bt, List.length_cons, List.length_nil, Nat.zero_add, Nat.reduceAdd, hm, ai, ag, aw, aH, bf, bW, Opd.ev, put, List.replicate_succ, List.cons_append, List.nil_append, List.getD_cons_zero, List.getD_cons_succ, List.set_cons_succ, List.set_cons_zero, V.cells, hpl, if_true]
  exact e1
 rw [hst]
 simp only [done, eW, aR, au, bw, getD_some e2, List.flatMap_cons, List.flatMap_nil, List.append_nil, V.cells, bO, comp, aJ, br]
 simp [ah]
def Py (P : Seg → Prop) : List Seg → Prop
 | [] => True
 | s :: ss => P s ∧ Py P ss
theorem a8 {P : Seg → Prop} : ∀ {ss : List Seg}, Py P ss → ∀ s ∈ ss, P s
 | [], _, _, h => by cases h
 | x :: xs, h, s, hm => by
  rcases List.mem_cons.1 hm with rfl | hm
  ·exact h.1
  ·exact a8 h.2 s hm
theorem iR {k z kx : Nat} {ts : List PTy} (hk : Φ k = some (Gb z kx)) (hz : ts.length = z) (hx : jI Φ ext kx ts) : jt Φ ext k ts := by
 intro rows h left h0 h1
 obtain ⟨hl, hr⟩ := aK h
 rw [jF]
 exact Pk hk (fun r m => by rw [iW (hr r m), hz]) hl (fun r m => hx r (hr r m)) h0 h1
theorem AT {k : Nat} {ts : List PTy} (hk : Φ k = some ON) (ha : ts.all PTy.small = true) : jt Φ ext k ts := by
 intro rows h left h0 h1
 obtain ⟨hl, hr⟩ := aK h
 rw [jF, zp ha hr]
 exact Pj hk hl h0 h1
theorem gC {k z kx : Nat} {ts : List PTy} (hk : Φ k = some (mH 27 (eJ z kx))) (hz : ts.length = z) (hx : jg Φ ext kx ts) : js Φ ext k ts := by
 intro rows h
 obtain ⟨hl, hr⟩ := aK h
 exact O5 hk (fun r m => by rw [iW (hr r m), hz]) hl (fun r m => hx r (hr r m))
theorem Fi {k : Nat} {t : PTy} (hk : Φ k = some (mH 26 nc)) (ht : t.easy = true) : js Φ ext k [t] := by
 intro rows h
 obtain ⟨hl, hr⟩ := aK h
 obtain ⟨qs, rfl⟩ := Ku hr
 exact O4 hk (Pd ht hr) (by simpa using hl)
end
end Gi
