/- Of this proof. -/
import Derived.Test.YthklhahdgbbbhaaGreatGpa
namespace Gi
open Go Go.RowKit
def CT (c ks : Nat) : List AOper := [⟨some (c + 2), .mv (.tmp 1), none⟩, ⟨some (c + 3), .call ks [.tmp (c + 1), .tmp (c + 2)] true false, none⟩, ⟨some 1, .mv (.tmp (c + 3)), none⟩]
def FQ : Nat → Nat → List Seg → ACode
 | c, _, [] => .seq (.region [⟨some c, .mv (.tmp 1), none⟩, ⟨some 4, .mv (.tmp c), none⟩]) .ret
 | c, off, .c .str :: ss => .seq (.region (⟨some c, .mv (.tmp 1), none⟩ :: mc (c + 1) 2 off 1 false ++ [⟨some (c + 3), .lenS (.tmp (c + 2)), none⟩, ⟨some (c + 4), .bin .sub (.tmp c) (.tmp (c + 3)), none⟩, ⟨some 1, .mv (.tmp (c + 4)), none⟩])) (.seq (sf (c + 5)) (FQ (c + 7) (off + 1) ss))
 | c, off, .c _ :: ss => FQ c (off + 1) ss
 | c, off, .s ts K :: ss => if K.ks = 0 then FQ c (off + ts.length) ss else .seq (.region (mc c 2 off ts.length true ++ CT c K.ks)) (.seq (sf (c + 4)) (FQ (c + 6) (off + ts.length) ss))
 | c, off, .l _ K :: ss => .seq (.region (mc c 2 off 1 false ++ CT c K.ks)) (.seq (sf (c + 4)) (FQ (c + 6) (off + 1) ss))
def DR : Nat → List Seg → Nat
 | c, [] => c
 | c, .c .str :: ss => DR (c + 7) ss
 | c, .c _ :: ss => DR c ss
 | c, .s _ K :: ss => if K.ks = 0 then DR c ss else DR (c + 6) ss
 | c, .l _ _ :: ss => DR (c + 6) ss
def ij (ss : List Seg) : AFn := ⟨DR 5 ss + 1, [.tmp 4], .seq (.region [⟨some 2, .box (.tmp 0), none⟩, ⟨some 4, .mv (.pv (.int .i64 0)), none⟩]) (FQ 5 0 ss)⟩
def Hr : ACode := .seq (.region [⟨some 4, .mv (.pv (.bool false)), none⟩]) .ret
def NE (t : PTy) (x y : Opd) : AOp := match t with
 | .bool => .eqB true x y
 | _ => .bin .neq x y
def Ll : Nat → Nat → List Seg → ACode
 | _, _, [] => .seq (.region [⟨some 4, .mv (.pv (.bool true)), none⟩]) .ret
 | c, off, .c t :: ss => .seq (.seq (.region (mc c 2 off 1 false ++ (mc (c + 2) 3 off 1 false ++ [⟨some (c + 4), NE t (.tmp (c + 1)) (.tmp (c + 3)), none⟩]))) (.cond (.tmp (c + 4)) Hr .skip)) (Ll (c + 5) (off + 1) ss)
 | c, off, .s ts K :: ss => .seq (.seq (.region (mc c 2 off ts.length true ++ (mc (c + 2) 3 off ts.length true ++ [⟨some (c + 4), .call K.ke [.tmp (c + 1), .tmp (c + 3)] true false, none⟩, ⟨some (c + 5), .un .not (.tmp (c + 4)), none⟩]))) (.cond (.tmp (c + 5)) Hr .skip)) (Ll (c + 6) (off + ts.length) ss)
 | c, off, .l _ K :: ss => .seq (.seq (.region (mc c 2 off 1 false ++ (mc (c + 2) 3 off 1 false ++ [⟨some (c + 4), .call K.ke [.tmp (c + 1), .tmp (c + 3)] true false, none⟩, ⟨some (c + 5), .un .not (.tmp (c + 4)), none⟩]))) (.cond (.tmp (c + 5)) Hr .skip)) (Ll (c + 6) (off + 1) ss)
def Kq : Nat → List Seg → Nat
 | c, [] => c
 | c, .c _ :: ss => Kq (c + 5) ss
 | c, _ :: ss => Kq (c + 6) ss
def gK (ss : List Seg) : AFn := ⟨Kq 5 ss, [.tmp 4], .seq (.region [⟨some 2, .box (.tmp 0), none⟩, ⟨some 3, .box (.tmp 1), none⟩, ⟨some 4, .mv (.pv (.bool false)), none⟩]) (Ll 5 0 ss)⟩
section
variable {Φ : Nat → Option AFn} {ext : Nat → List V → Option V}
def kS (Φ : Nat → Option AFn) (ext : Nat → List V → Option V) (k : Nat) (ts : List PTy) : Prop := ∀ r : List PV, be ts r → mh Φ ext k r
def kP (Φ : Nat → Option AFn) (ext : Nat → List V → Option V) (k : Nat) (ts : List PTy) : Prop :=
 ∀ rows : List (List PV), bR (.lst ts) (.lst rows) → ∀ left : Int, 0 ≤ left → left ≤ 1048576 → aa Φ ext k [bJ rows, ae .i64 left] = some (ae .i64 (eI left (sz (.lst rows))))
def Jd (Φ : Nat → Option AFn) (ext : Nat → List V → Option V) : Seg → Prop
 | .c t => t.flatT = true
 | .s ts K => if K.ks = 0 then ts.all PTy.small = true else kS Φ ext K.ks ts
 | .l ts K => kP Φ ext K.ks ts
theorem ND {call : Nat → List V → Option V} {lp} {c : Nat} {t : List V} {h : List AObj} {l : Int} (h1 : t[1]? = some (ae .i64 l)) (hl : l < 0) (hc : 5 ≤ c) (hlt : c + 1 < t.length) :
 ∃ t', aq call lp (sf c) ⟨t, h⟩ = some (.ret, ⟨t', h⟩) ∧ t'[4]? = some (ae .i64 (-1)) := by
 have e1 : t.getD 1 (.tup []) = ae .i64 l := getD_some h1
 have e2 : (t.set c (ae .i64 l)).getD c (.tup []) = ae .i64 l := fF (by omega)
 have e3 : ((t.set c (ae .i64 l)).set (c + 1) (aj true)).getD (c + 1) (.tup []) = aj true := fF (by simp; omega)
 refine ⟨((t.set c (ae .i64 l)).set (c + 1) (aj true)).set 4 (ae .i64 (-1)), ?_, List.getElem?_set_self (by simp; omega)⟩
 simp only [sf, aq, am, bg, bt, cF, Opd.ev, e1, put, e2, bin, if_true, bf, hl, decide_true, e3, isBool]
theorem NC {call : Nat → List V → Option V} {lp} {c : Nat} {t : List V} {h : List AObj} {l : Int} (h1 : t[1]? = some (ae .i64 l)) (hl : ¬ l < 0) (hlt : c + 1 < t.length) :
 aq call lp (sf c) ⟨t, h⟩ = some (.normal, ⟨(t.set c (ae .i64 l)).set (c + 1) (aj false), h⟩) := by
 have e1 : t.getD 1 (.tup []) = ae .i64 l := getD_some h1
 have e2 : (t.set c (ae .i64 l)).getD c (.tup []) = ae .i64 l := fF (by omega)
 have e3 : ((t.set c (ae .i64 l)).set (c + 1) (aj false)).getD (c + 1) (.tup []) = aj false := fF (by simp; omega)
 simp only [sf, aq, am, bg, bt, cF, Opd.ev, e1, put, e2, bin, if_true, bf, hl, decide_false, e3, isBool, Bool.false_eq_true, if_false]
theorem pM : ∀ (ss : List Seg) (c : Nat), c ≤ DR c ss
 | [], c => Nat.le_refl _
 | .c .str :: ss, c => Nat.le_trans (by omega) (pM ss (c + 7))
 | .c (.int _) :: ss, c => pM ss c
 | .c .bool :: ss, c => pM ss c
 | .c (.lst _) :: ss, c => pM ss c
 | .s _ K :: ss, c => by
  simp only [DR]
  split
  ·exact pM ss c
  ·exact Nat.le_trans (by omega) (pM ss (c + 6))
 | .l _ _ :: ss, c => Nat.le_trans (by omega) (pM ss (c + 6))
theorem JL : ∀ (ss : List Seg), (∀ s ∈ ss, Jd Φ ext s) → ∀ {c : Nat} {dn row : List PV} {t : List V} {left : Int},
 t[1]? = some (ae .i64 left) → t[2]? = some (.one (.ptr 0 0 0)) → 0 ≤ left → left ≤ 1048576 → 5 ≤ c → DR c ss < t.length → be (je ss) row →
 ∃ t', aq (aa Φ ext) ah (FQ c dn.length ss) ⟨t, [.box ((dn ++ row).map .pv)]⟩ = some (.ret, ⟨t', [.box ((dn ++ row).map .pv)]⟩) ∧ t'[4]? = some (ae .i64 (eI left (gO row)))
 | [], _, c, dn, row, t, left, t1, t2, h0, h1, hc, hN, hr => by
  obtain rfl := mg hr
  simp only [DR] at hN
  have e1 : t.getD 1 (.tup []) = ae .i64 left := getD_some t1
  have e2 : (t.set c (ae .i64 left)).getD c (.tup []) = ae .i64 left := fF hN
  have hl : eI left (gO []) = left := by
   have e0 : gO [] = 0 := by simp only [gO]
   rw [e0]; unfold eI; rw [if_neg (by omega)]; omega
  refine ⟨(t.set c (ae .i64 left)).set 4 (ae .i64 left), ?_, by rw [hl]; exact List.getElem?_set_self (by simp; omega)⟩
  simp only [FQ, aq, am, bg, bt, cF, Opd.ev, e1, put, e2]
 | sg :: ss, hss, c, dn, row, t, left, t1, t2, h0, h1, hc, hN, hr => by
  obtain ⟨a, b, rfl, ha, hb⟩ := wr (ts := sg.ts) hr
  have hal := iw ha
  have hsz := CW a b
  have hSeg := hss sg (by simp)
  have ih := fun {c dn row t left} => JL ss (fun s m => hss s (by simp [m])) (c := c) (dn := dn) (row := row) (t := t) (left := left)
  rw [← List.append_assoc]
  have skip : ∀ {c' : Nat}, gO a = 0 → FQ c dn.length (sg :: ss) = FQ c (dn ++ a).length ss → DR c (sg :: ss) = DR c ss →
   ∃ t', aq (aa Φ ext) ah (FQ c dn.length (sg :: ss)) ⟨t, [.box ((dn ++ a ++ b).map .pv)]⟩ = some (.ret, ⟨t', [.box ((dn ++ a ++ b).map .pv)]⟩) ∧ t'[4]? = some (ae .i64 (eI left (gO (a ++ b)))) := by
   intro _ e0 e1 e2
   rw [e1, hsz, e0, Nat.zero_add]
   exact ih t1 t2 h0 h1 hc (by rw [← e2]; exact hN) hb
  have go : ∀ {ops : List AOper} {cn cm : Nat} {t' : List V} {l : Int}, FQ c dn.length (sg :: ss) = .seq (.region ops) (.seq (sf cn) (FQ (cn + 2) (dn ++ a).length ss)) → DR c (sg :: ss) = DR (cn + 2) ss → 5 ≤ cn →
   am (aa Φ ext) ops ⟨t, [.box ((dn ++ a ++ b).map .pv)]⟩ = some ⟨t', [.box ((dn ++ a ++ b).map .pv)]⟩ → t'.length = t.length → t'[1]? = some (ae .i64 l) → t'[2]? = some (.one (.ptr 0 0 0)) → (l < 0 → eI left (gO a) = -1) → (¬ l < 0 → l = eI left (gO a)) →
   ∃ t', aq (aa Φ ext) ah (FQ c dn.length (sg :: ss)) ⟨t, [.box ((dn ++ a ++ b).map .pv)]⟩ = some (.ret, ⟨t', [.box ((dn ++ a ++ b).map .pv)]⟩) ∧ t'[4]? = some (ae .i64 (eI left (gO (a ++ b)))) := by
   intro ops cn cm t' l e1 e2 e3 e4 e5 e6 e7 e8 e9
   have hcl : cn + 1 < t'.length := by have := pM ss (cn + 2); omega
   rw [e1, hsz]
   by_cases hn : l < 0
   ·obtain ⟨t'', g1, g2⟩ := ND (call := aa Φ ext) (lp := ah) (h := [.box ((dn ++ a ++ b).map .pv)]) e6 hn e3 hcl
    refine ⟨t'', ?_, ?_⟩
    ·simp only [aq, e4, g1]
    ·rw [g2, Hd (b := gO b) h0 (by rw [e8 hn]; omega)]
   ·have g1 := NC (call := aa Φ ext) (lp := ah) (h := [.box ((dn ++ a ++ b).map .pv)]) e6 hn hcl
    have hge : 0 ≤ eI left (gO a) := by rw [← e9 hn]; omega
    obtain ⟨t'', f1, f2⟩ := ih (c := cn + 2) (dn := dn ++ a) (row := b) (t := (t'.set cn (ae .i64 l)).set (cn + 1) (aj false)) (left := l) (by rw [List.getElem?_set_ne (by omega), List.getElem?_set_ne (by omega)]; exact e6) (by rw [List.getElem?_set_ne (by omega), List.getElem?_set_ne (by omega)]; exact e7) (by omega) (by have := Jz (a := gO a) h0; rw [e9 hn]; omega) (by omega) (by simp [e5]; rw [← e2]; exact hN) hb
    refine ⟨t'', ?_, ?_⟩
    ·simp only [aq, e4, g1]
     exact f1
    ·rw [f2, ← rc hge, e9 hn]
  have call : ∀ {n : Nat} {agg : Bool} {k : Nat} {v : V}, FQ c dn.length (sg :: ss) = .seq (.region (mc c 2 dn.length n agg ++ CT c k)) (.seq (sf (c + 4)) (FQ (c + 6) (dn ++ a).length ss)) → DR c (sg :: ss) = DR (c + 6) ss →
   hJ agg n dn.length ((dn ++ (a ++ b)).map .pv) = some v → (∀ h i, aB h [v, ae .i64 i] = some [v, ae .i64 i]) → aa Φ ext k [v, ae .i64 left] = some (ae .i64 (eI left (gO a))) →
   ∃ t', aq (aa Φ ext) ah (FQ c dn.length (sg :: ss)) ⟨t, [.box ((dn ++ a ++ b).map .pv)]⟩ = some (.ret, ⟨t', [.box ((dn ++ a ++ b).map .pv)]⟩) ∧ t'[4]? = some (ae .i64 (eI left (gO (a ++ b)))) := by
   intro n agg k v e1 e2 e3 e4 e5
   have hcl : c + 5 < t.length := by have := pM ss (c + 6); omega
   rw [← List.append_assoc] at e3
   have el := pH (t := t) (h := [.box ((dn ++ a ++ b).map .pv)]) t2 (c := c) (by omega) (by omega) rfl e3 (aa Φ ext)
   generalize hh : [AObj.box ((dn ++ a ++ b).map L.pv)] = hp at el go ⊢
   have q1 : ((t.set c (V.one (.ptr 0 0 dn.length))).set (c + 1) v).getD 1 (.tup []) = ae .i64 left := by rw [nR (by omega), nR (by omega)]; exact getD_some t1
   have q2 : (((t.set c (V.one (.ptr 0 0 dn.length))).set (c + 1) v).set (c + 2) (ae .i64 left)).getD (c + 1) (.tup []) = v := by rw [nR (by omega)]; exact fF (by simp; omega)
   have q3 : (((t.set c (V.one (.ptr 0 0 dn.length))).set (c + 1) v).set (c + 2) (ae .i64 left)).getD (c + 2) (.tup []) = ae .i64 left := fF (by simp; omega)
   have q4 : ((((t.set c (V.one (.ptr 0 0 dn.length))).set (c + 1) v).set (c + 2) (ae .i64 left)).set (c + 3) (ae .i64 (eI left (gO a)))).getD (c + 3) (.tup []) = ae .i64 (eI left (gO a)) := fF (by simp; omega)
   refine go (ops := mc c 2 dn.length n agg ++ CT c k) (cn := c + 4) (cm := 0) (l := eI left (gO a)) (t' := ((((t.set c (V.one (.ptr 0 0 dn.length))).set (c + 1) v).set (c + 2) (ae .i64 left)).set (c + 3) (ae .i64 (eI left (gO a)))).set 1 (ae .i64 (eI left (gO a)))) e1 e2 (by omega) ?_ (by simp) (List.getElem?_set_self (by simp; omega)) ?_ (fun hn => Jy hn h0) (fun _ => rfl)
   ·rw [iY _ _ _ el]
    simp only [CT, am, bg, bt, cF, Opd.ev, q1, put, Bool.true_or, if_true, List.map_cons, List.map_nil, q2, q3, e4, e5, V.flat, L.flat, Bool.not_true, Bool.and_false, Bool.false_eq_true, if_false, dX, dJ, q4]
   ·rw [List.getElem?_set_ne (by omega), List.getElem?_set_ne (by omega), List.getElem?_set_ne (by omega), List.getElem?_set_ne (by omega), List.getElem?_set_ne (by omega)]; exact t2
  cases sg with
  | c ty =>
   simp only [Seg.ts, List.length_singleton] at hal ha
   obtain ⟨p, rfl⟩ := List.length_eq_one_iff.1 hal
   have hlen : (dn ++ [p]).length = dn.length + 1 := by simp
   cases ty with
   | lst us => cases hSeg
   | int k =>
    obtain ⟨n, rfl⟩ := rE ha.1
    exact skip (c' := 0) (by simp only [gO, sz]) (by rw [hlen]; rfl) rfl
   | bool =>
    obtain ⟨n, rfl⟩ := ti ha.1
    exact skip (c' := 0) (by simp only [gO, sz]) (by rw [hlen]; rfl) rfl
   | str =>
    obtain ⟨s, rfl⟩ := rH ha.1
    have hs : s.length ≤ maxLen := ha.1
    unfold maxLen at hs
    have hza : gO [PV.str s] = s.length := by simp only [gO, sz, Nat.add_zero]
    have hcl : c + 7 < t.length := by have := pM ss (c + 7); simp only [DR] at hN; omega
    have hw : IntKind.i64.wrap (left - (s.length : Int)) = left - s.length := by rw [IntKind.wrap_i64]; omega
    have hcut : hJ false 1 dn.length ((dn ++ [PV.str s] ++ b).map .pv) = some (eX s) := by rw [List.append_assoc]; exact oO (agg := false) (a := [.str s]) (.inr rfl)
    have el := pH (x := 2) (ox := 0) (t := t.set c (ae .i64 left)) (h := [.box ((dn ++ [PV.str s] ++ b).map .pv)]) (by rw [List.getElem?_set_ne (by omega)]; exact t2) (c := c + 1) (by omega) (by simp; omega) rfl hcut (aa Φ ext)
    generalize hh : [AObj.box ((dn ++ [PV.str s] ++ b).map L.pv)] = hp at el go ⊢
    have q1 : t.getD 1 (.tup []) = ae .i64 left := getD_some t1
    generalize hT : ((t.set c (ae .i64 left)).set (c + 1) (V.one (.ptr 0 0 dn.length))).set (c + 1 + 1) (eX s) = T at el
    have lT : T.length = t.length := by rw [← hT]; simp
    have q2 : T.getD (c + 2) (.tup []) = eX s := by rw [← hT]; exact fF (by simp; omega)
    have q3 : (T.set (c + 3) (ae .i64 s.length)).getD c (.tup []) = ae .i64 left := by rw [nR (by omega), ← hT, nR (by omega), nR (by omega)]; exact fF (by omega)
    have q4 : (T.set (c + 3) (ae .i64 s.length)).getD (c + 3) (.tup []) = ae .i64 s.length := fF (by omega)
    have q5 : ((T.set (c + 3) (ae .i64 s.length)).set (c + 4) (ae .i64 (left - s.length))).getD (c + 4) (.tup []) = ae .i64 (left - s.length) := fF (by simp; omega)
    refine go (cn := c + 5) (cm := 0) (l := left - s.length) (t' := ((T.set (c + 3) (ae .i64 s.length)).set (c + 4) (ae .i64 (left - s.length))).set 1 (ae .i64 (left - s.length))) (by rw [hlen]; rfl) rfl (by omega) ?_ (by simp [lT]) (List.getElem?_set_self (by simp; omega)) ?_ (fun hn => by rw [hza]; exact NA (by omega)) (fun hn => by rw [hza]; unfold eI; rw [if_neg (by omega)])
    ·simp only [List.cons_append, am]
     simp only [bg, bt, cF, Opd.ev, q1, put]
     rw [iY _ _ _ el]
     simp only [am, bg, bt, cF, Opd.ev, q2, isStr, put, q3, q4, bin, if_true, bf, hw, q5]
    ·rw [List.getElem?_set_ne (by omega), List.getElem?_set_ne (by omega), List.getElem?_set_ne (by omega), ← hT, List.getElem?_set_ne (by omega), List.getElem?_set_ne (by omega), List.getElem?_set_ne (by omega)]; exact t2
  | s ts K =>
   simp only [Seg.ts] at hal ha
   have hlen : (dn ++ a).length = dn.length + ts.length := by simp [hal]
   by_cases hk : K.ks = 0
   ·simp only [Jd, hk, if_true] at hSeg
    exact skip (c' := 0) (CX hSeg ha) (by rw [hlen]; simp only [FQ, hk, if_true]) (by simp only [DR, hk, if_true])
   ·simp only [Jd, hk, if_false] at hSeg
    exact call (n := ts.length) (agg := true) (v := .agg (a.map .pv)) (by rw [hlen]; simp only [FQ, hk, if_false]) (by simp only [DR, hk, if_false]) (by rw [← hal]; exact oO (agg := true) (.inl rfl)) (fun h i => by simp only [aB, ub]; rfl) (hSeg a ha left h0 h1)
  | l ts K =>
   simp only [Seg.ts, List.length_singleton] at hal ha
   obtain ⟨p, rfl⟩ := List.length_eq_one_iff.1 hal
   obtain ⟨rows, rfl⟩ := A6 ha.1
   have hlen : (dn ++ [PV.lst rows]).length = dn.length + 1 := by simp
   exact call (n := 1) (agg := false) (v := bJ rows) (by rw [hlen]; rfl) rfl (oO (agg := false) (a := [.lst rows]) (.inr rfl)) (fun h i => rfl) (by have := hSeg rows ha.1 left h0 h1; simpa only [gO, Nat.add_zero] using this)
theorem dw {k : Nat} {ss : List Seg} (hk : Φ k = some (ij ss)) (hss : ∀ s ∈ ss, Jd Φ ext s) : kS Φ ext k (je ss) := by
 intro r hr left h0 h1
 refine aH hk ?_
 have hle := pM ss 5
 obtain ⟨m, hm⟩ : ∃ m, DR 5 ss + 1 - 2 = m + 4 := ⟨DR 5 ss - 5, by omega⟩
 have hpl : (r.map L.pv).all plain = true := by simp [plain]
 obtain ⟨t', e1, e2⟩ := JL ss hss (c := 5) (dn := []) (row := r) (t := V.agg (r.map .pv) :: ae .i64 left :: V.one (.ptr 0 0 0) :: .tup [] :: ae .i64 0 :: List.replicate (m + 1) (.tup [])) (left := left) rfl rfl h0 h1 (by omega) (by simp; omega) hr
 have hst : eM Φ ext (ij ss).body (bW (ij ss) [.agg (r.map .pv), ae .i64 left]) = some (.ret, ⟨t', [.box (r.map .pv)]⟩) := by
  simp only [eM, ij, bW, List.length_cons, List.length_nil, Nat.zero_add, Nat.reduceAdd, hm, aq, am, bg, bt, cF, dN, Opd.ev, put, List.replicate_succ, List.cons_append, List.nil_append, List.getD_cons_zero, List.set_cons_succ, List.set_cons_zero, V.cells, hpl, if_true]
  exact e1
 rw [hst]
 simp only [done, ij, bC, aC, aT, getD_some e2, List.flatMap_cons, List.flatMap_nil, List.append_nil, V.cells, cj, comp, bq, bZ]
 simp [a8]
def kg (Φ : Nat → Option AFn) (ext : Nat → List V → Option V) (k : Nat) (ts : List PTy) : Prop :=
 ∀ r : List PV, be ts r → aa Φ ext k [.agg (r.map .pv), .agg (r.map .pv)] = some (aj true)
def kO (Φ : Nat → Option AFn) (ext : Nat → List V → Option V) (k : Nat) (ts : List PTy) : Prop :=
 ∀ rows : List (List PV), bR (.lst ts) (.lst rows) → aa Φ ext k [bJ rows, bJ rows] = some (aj true)
def NW (Φ : Nat → Option AFn) (ext : Nat → List V → Option V) : Seg → Prop
 | .c t => t.flatT = true
 | .s ts K => kg Φ ext K.ke ts
 | .l ts K => kO Φ ext K.ke ts
theorem yb : ∀ (ss : List Seg) (c : Nat), c ≤ Kq c ss
 | [], c => Nat.le_refl _
 | .c _ :: ss, c => Nat.le_trans (by omega) (yb ss (c + 5))
 | .s _ _ :: ss, c => Nat.le_trans (by omega) (yb ss (c + 6))
 | .l _ _ :: ss, c => Nat.le_trans (by omega) (yb ss (c + 6))
theorem Jj : ∀ (ss : List Seg), (∀ s ∈ ss, NW Φ ext s) → ∀ {c : Nat} {dn row : List PV} {t : List V},
 t[2]? = some (.one (.ptr 0 0 0)) → t[3]? = some (.one (.ptr 1 0 0)) → 5 ≤ c → Kq c ss ≤ t.length → be (je ss) row →
 ∃ t', aq (aa Φ ext) ah (Ll c dn.length ss) ⟨t, [.box ((dn ++ row).map .pv), .box ((dn ++ row).map .pv)]⟩ = some (.ret, ⟨t', [.box ((dn ++ row).map .pv), .box ((dn ++ row).map .pv)]⟩) ∧ t'[4]? = some (aj true)
 | [], _, c, dn, row, t, t2, t3, hc, hN, hr => by
  simp only [Kq] at hN
  refine ⟨t.set 4 (aj true), ?_, List.getElem?_set_self (by omega)⟩
  simp only [Ll, aq, am, bg, bt, cF, Opd.ev, put]
 | sg :: ss, hss, c, dn, row, t, t2, t3, hc, hN, hr => by
  obtain ⟨a, b, rfl, ha, hb⟩ := wr (ts := sg.ts) hr
  have hal := iw ha
  have hSeg := hss sg (by simp)
  have ih := fun {c dn row t} => Jj ss (fun s m => hss s (by simp [m])) (c := c) (dn := dn) (row := row) (t := t)
  rw [← List.append_assoc]
  generalize hh : [AObj.box ((dn ++ a ++ b).map L.pv), .box ((dn ++ a ++ b).map L.pv)] = hp
  have go : ∀ {ops : List AOper} {cn : Nat} {t' : List V}, Ll c dn.length (sg :: ss) = .seq (.seq (.region ops) (.cond (.tmp cn) Hr .skip)) (Ll (cn + 1) (dn ++ a).length ss) → Kq c (sg :: ss) = Kq (cn + 1) ss → 4 ≤ cn →
   am (aa Φ ext) ops ⟨t, hp⟩ = some ⟨t', hp⟩ → t'.length = t.length → t'[cn]? = some (aj false) → t'[2]? = t[2]? → t'[3]? = t[3]? →
   ∃ t', aq (aa Φ ext) ah (Ll c dn.length (sg :: ss)) ⟨t, hp⟩ = some (.ret, ⟨t', hp⟩) ∧ t'[4]? = some (aj true) := by
   intro ops cn t' e1 e2 e3 e4 e5 e6 e7 e8
   obtain ⟨t'', f1, f2⟩ := ih (c := cn + 1) (dn := dn ++ a) (row := b) (t := t') (e7.trans t2) (e8.trans t3) (by omega) (by rw [e5, ← e2]; exact hN) hb
   rw [hh] at f1
   refine ⟨t'', ?_, f2⟩
   rw [e1]
   simp only [aq, e4, Opd.ev, getD_some e6, isBool, Bool.false_eq_true, if_false]
   exact f1
  have hb0 : hp[0]? = some (.box ((dn ++ a ++ b).map .pv)) := by rw [← hh]; rfl
  have hb1 : hp[1]? = some (.box ((dn ++ a ++ b).map .pv)) := by rw [← hh]; rfl
  have ld : ∀ {n : Nat} {agg : Bool} {v : V}, hJ agg n dn.length ((dn ++ a ++ b).map .pv) = some v → c + 3 < t.length → ∃ T, am (aa Φ ext) (mc c 2 dn.length n agg ++ mc (c + 2) 3 dn.length n agg) ⟨t, hp⟩ = some ⟨T, hp⟩ ∧ T.length = t.length ∧ T.getD (c + 1) (.tup []) = v ∧ T.getD (c + 3) (.tup []) = v ∧ T[2]? = t[2]? ∧ T[3]? = t[3]? := by
   intro n agg v hcut hlt
   have el1 := pH (t := t) (h := hp) t2 (c := c) (by omega) (by omega) hb0 hcut (aa Φ ext)
   have el2 := pH (t := (t.set c (.one (.ptr 0 0 dn.length))).set (c + 1) v) (h := hp) (x := 3) (ox := 1) (by rw [List.getElem?_set_ne (by omega), List.getElem?_set_ne (by omega)]; exact t3) (c := c + 2) (by omega) (by simp; omega) hb1 hcut (aa Φ ext)
   refine ⟨_, (iY _ _ _ el1).trans el2, by simp, ?_, ?_, ?_, ?_⟩
   ·rw [nR (by omega), nR (by omega)]; exact fF (by simp; omega)
   ·exact fF (by simp; omega)
   ·rw [List.getElem?_set_ne (by omega), List.getElem?_set_ne (by omega), List.getElem?_set_ne (by omega), List.getElem?_set_ne (by omega)]
   ·rw [List.getElem?_set_ne (by omega), List.getElem?_set_ne (by omega), List.getElem?_set_ne (by omega), List.getElem?_set_ne (by omega)]
  have call : ∀ {n : Nat} {agg : Bool} {k : Nat} {v : V}, Ll c dn.length (sg :: ss) = .seq (.seq (.region (mc c 2 dn.length n agg ++ (mc (c + 2) 3 dn.length n agg ++ [⟨some (c + 4), .call k [.tmp (c + 1), .tmp (c + 3)] true false, none⟩, ⟨some (c + 5), .un .not (.tmp (c + 4)), none⟩]))) (.cond (.tmp (c + 5)) Hr .skip)) (Ll (c + 6) (dn ++ a).length ss) → Kq c (sg :: ss) = Kq (c + 6) ss →
   hJ agg n dn.length ((dn ++ (a ++ b)).map .pv) = some v → (∀ h, aB h [v, v] = some [v, v]) → aa Φ ext k [v, v] = some (aj true) →
   ∃ t', aq (aa Φ ext) ah (Ll c dn.length (sg :: ss)) ⟨t, hp⟩ = some (.ret, ⟨t', hp⟩) ∧ t'[4]? = some (aj true) := by
   intro n agg k v e1 e2 e3 e4 e5
   have hcl : c + 6 ≤ t.length := by have := yb ss (c + 6); omega
   rw [← List.append_assoc] at e3
   obtain ⟨T, g1, g2, g3, g4, g5, g6⟩ := ld e3 (by omega)
   have q1 : (T.set (c + 4) (aj true)).getD (c + 4) (.tup []) = aj true := fF (by omega)
   refine go (cn := c + 5) (t' := (T.set (c + 4) (aj true)).set (c + 5) (aj false)) e1 e2 (by omega) ?_ (by simp [g2]) (List.getElem?_set_self (by simp; omega)) (by rw [List.getElem?_set_ne (by omega), List.getElem?_set_ne (by omega)]; exact g5) (by rw [List.getElem?_set_ne (by omega), List.getElem?_set_ne (by omega)]; exact g6)
   rw [← List.append_assoc, iY _ _ _ g1]
   simp only [am, bg, bt, cF, Opd.ev, g3, g4, put, Bool.true_or, if_true, List.map_cons, List.map_nil, e4, e5, V.flat, L.flat, Bool.not_true, Bool.and_false, Bool.false_eq_true, if_false, dX, dJ, q1, un]
  cases sg with
  | c ty =>
   simp only [Seg.ts, List.length_singleton] at hal ha
   obtain ⟨p, rfl⟩ := List.length_eq_one_iff.1 hal
   have hlen : (dn ++ [p]).length = dn.length + 1 := by simp
   have hcl : c + 5 ≤ t.length := by have := yb ss (c + 5); simp only [Kq] at hN; omega
   have hcut : hJ false 1 dn.length ((dn ++ [p] ++ b).map .pv) = some (.one (.pv p)) := by rw [List.append_assoc]; exact oO (agg := false) (a := [p]) (.inr rfl)
   obtain ⟨T, g1, g2, g3, g4, g5, g6⟩ := ld hcut (by omega)
   refine go (cn := c + 4) (t' := T.set (c + 4) (aj false)) (by rw [hlen]; rfl) rfl (by omega) ?_ (by simp [g2]) (List.getElem?_set_self (by omega)) (by rw [List.getElem?_set_ne (by omega)]; exact g5) (by rw [List.getElem?_set_ne (by omega)]; exact g6)
   rw [← List.append_assoc, iY _ _ _ g1]
   cases ty with
   | lst us => cases hSeg
   | int k => obtain ⟨n, rfl⟩ := rE ha.1; simp only [am, bg, bt, cF, NE, Opd.ev, g3, g4, put, bin, if_true, bf, bne_self_eq_false]
   | bool => obtain ⟨n, rfl⟩ := ti ha.1; simp only [am, bg, bt, cF, NE, Opd.ev, g3, g4, put, isBool, if_true, beq_self_eq_true, Bool.not_true]
   | str => obtain ⟨n, rfl⟩ := rH ha.1; simp only [am, bg, bt, cF, NE, Opd.ev, g3, g4, put, bin, fE, beq_self_eq_true, Bool.not_true]
  | s ts K =>
   simp only [Seg.ts] at hal ha
   have hlen : (dn ++ a).length = dn.length + ts.length := by simp [hal]
   exact call (n := ts.length) (agg := true) (v := .agg (a.map .pv)) (by rw [hlen]; rfl) rfl (by rw [← hal]; exact oO (agg := true) (.inl rfl)) (fun h => by simp only [aB, ub]) (hSeg a ha)
  | l ts K =>
   simp only [Seg.ts, List.length_singleton] at hal ha
   obtain ⟨p, rfl⟩ := List.length_eq_one_iff.1 hal
   obtain ⟨rows, rfl⟩ := A6 ha.1
   have hlen : (dn ++ [PV.lst rows]).length = dn.length + 1 := by simp
   exact call (n := 1) (agg := false) (v := bJ rows) (by rw [hlen]; rfl) rfl (oO (agg := false) (a := [.lst rows]) (.inr rfl)) (fun h => rfl) (hSeg rows ha.1)
theorem dd {k : Nat} {ss : List Seg} (hk : Φ k = some (gK ss)) (hss : ∀ s ∈ ss, NW Φ ext s) : kg Φ ext k (je ss) := by
 intro r hr
 refine aH hk ?_
 have hle := yb ss 5
 obtain ⟨m, hm⟩ : ∃ m, Kq 5 ss - 2 = m + 3 := ⟨Kq 5 ss - 5, by omega⟩
 have hpl : (r.map L.pv).all plain = true := by simp [plain]
 obtain ⟨t', e1, e2⟩ := Jj ss hss (c := 5) (dn := []) (row := r) (t := V.agg (r.map .pv) :: V.agg (r.map .pv) :: V.one (.ptr 0 0 0) :: V.one (.ptr 1 0 0) :: aj false :: List.replicate m (.tup [])) rfl rfl (by omega) (by simp; omega) hr
 have hst : eM Φ ext (gK ss).body (bW (gK ss) [.agg (r.map .pv), .agg (r.map .pv)]) = some (.ret, ⟨t', [.box (r.map .pv), .box (r.map .pv)]⟩) := by
  simp only [eM, gK, bW, List.length_cons, List.length_nil, Nat.zero_add, Nat.reduceAdd, hm, aq, am, bg, bt, cF, dN, Opd.ev, put, List.replicate_succ, List.cons_append, List.nil_append, List.getD_cons_zero, List.getD_cons_succ, List.set_cons_succ, List.set_cons_zero, V.cells, hpl, if_true]
  exact e1
 rw [hst]
 simp only [done, gK, bC, aC, aT, getD_some e2, List.flatMap_cons, List.flatMap_nil, List.append_nil, V.cells, cj, comp, bq, bZ]
 simp [a8]
def O3 (P : Seg → Prop) : List Seg → Prop
 | [] => True
 | s :: ss => P s ∧ O3 P ss
theorem b9 {P : Seg → Prop} : ∀ {ss : List Seg}, O3 P ss → ∀ s ∈ ss, P s
 | [], _, _, h => by cases h
 | x :: xs, h, s, hm => by
  rcases List.mem_cons.1 hm with rfl | hm
  ·exact h.1
  ·exact b9 h.2 s hm
theorem jl {k bytes z kx : Nat} {ts : List PTy} {fl : Bool} {zero : List PV} (hk : Φ k = some (Gd bytes z kx zero fl)) (hz : ts.length = z) (hzero : zero.length = z) (hz0 : 0 < z) (hb : bytes ≤ 134217728) (hx : kh Φ ext kx ts) (hfl : fl = true → ts.all PTy.flatT = true) : kQ Φ ext k ts := by
 intro rows h hs
 obtain ⟨hl, hr⟩ := aD h
 have hn : rows.length ≤ 1048576 := Nat.le_trans (Nat.le_add_right _ (ej rows)) (by rw [← jH]; exact hs)
 rw [hz]
 refine OL hk (fun r m => by rw [iw (hr r m), hz]) hz0 hzero hl ?_ (fun r m => ?_)
 ·have := Nat.mul_le_mul hn hb
  omega
 ·refine ⟨_, hx r (hr r m) (sl m hs), vX _ _, zU (hr r m), fun hf => ?_⟩
  obtain ⟨e1, e2⟩ := rf (hfl hf) (hr r m)
  exact ⟨e1, by rw [e1]; exact e2⟩
theorem F8 {k bytes : Nat} {t : PTy} {zero : PV} (hk : Φ k = some (OZ bytes zero)) (hb : bytes ≤ 134217728) : kQ Φ ext k [t] := by
 intro rows h hs
 obtain ⟨hl, hr⟩ := aD h
 have hn : rows.length ≤ 1048576 := Nat.le_trans (Nat.le_add_right _ (ej rows)) (by rw [← jH]; exact hs)
 obtain ⟨qs, rfl⟩ := FJ hr
 refine OK hk (by simpa using hl) ?_
 have := Nat.mul_le_mul hn hb
 simp only [List.length_map] at this
 omega
theorem j8 {k z kx : Nat} {ts : List PTy} (hk : Φ k = some (FY z kx)) (hz : ts.length = z) (hx : kS Φ ext kx ts) : kP Φ ext k ts := by
 intro rows h left h0 h1
 obtain ⟨hl, hr⟩ := aD h
 rw [jH]
 exact OH hk (fun r m => by rw [iw (hr r m), hz]) hl (fun r m => hx r (hr r m)) h0 h1
theorem Bd {k : Nat} {ts : List PTy} (hk : Φ k = some Od) (ha : ts.all PTy.small = true) : kP Φ ext k ts := by
 intro rows h left h0 h1
 obtain ⟨hl, hr⟩ := aD h
 rw [jH, Ad ha hr]
 exact OG hk hl h0 h1
theorem jf {k z kx : Nat} {ts : List PTy} (hk : Φ k = some (oe 27 (gF z kx))) (hz : ts.length = z) (hx : kg Φ ext kx ts) : kO Φ ext k ts := by
 intro rows h
 obtain ⟨hl, hr⟩ := aD h
 exact Ox hk (fun r m => by rw [iw (hr r m), hz]) hl (fun r m => hx r (hr r m))
theorem Fd {k : Nat} {t : PTy} (hk : Φ k = some (oe 26 oP)) (ht : t.easy = true) : kO Φ ext k [t] := by
 intro rows h
 obtain ⟨hl, hr⟩ := aD h
 obtain ⟨qs, rfl⟩ := FJ hr
 exact Ow hk (OD ht hr) (by simpa using hl)
end
end Gi
