/- Of this proof. -/
import Derived.Test.YthklhahdgbbbhaaGreatGuo
import Derived.Test.YthklhahdgbbbhaaGreatGul
namespace Gi
open Go Go.RowKit
set_option maxHeartbeats 4000000
set_option maxRecDepth 4000
attribute [local simp] bW eM aq am bg bt cF dN Opd.ev put V.cells plain bz hJ isInt isStr isBool bin bf aS aR un asList L.view aB V.view viewL done bC aC aT cj comp bq bZ a8 V.flat L.flat dX dJ bS putAt thaw thawL freezeVs freezeLs freezeL V.mut L.mut bm aZ
def qE (l : Nat) : List PV → Nat
 | [.str a, .int _ n] => l + JO a.length + a.length + JO n
 | _ => l
def tc (rows : List (List PV)) : Nat := cond (pF rows) (rows.foldl qE (JO rows.length)) 0
theorem Je {p : Nat → Bool} : ∀ {m k : Nat}, uG p m k = false → ∀ j, k ≤ j → j < k + m → p j = false
 | 0, k, _, j, h1, h2 => absurd h2 (by omega)
 | m + 1, k, h, j, h1, h2 => by
  simp only [uG, Bool.or_eq_false_iff] at h
  by_cases e : j = k
  ·subst e; exact h.1
  ·exact Je h.2 j (by omega) (by omega)
theorem tO {rows : List (List PV)} (h : pF rows = true) (hr : ∀ r ∈ rows, be dx r) : rows.length ≤ 6 ∧ ∀ r ∈ rows, ∃ a n, r = [.str a, .int .i64 n] ∧ a.length ≤ 8 := by
 unfold pF at h
 simp only [Bool.and_eq_true, Bool.not_eq_true', decide_eq_true_eq] at h
 refine ⟨by omega, fun r hm => ?_⟩
 obtain ⟨a, n, hrk, ha⟩ := qT (hr r hm)
 refine ⟨a, n, hrk, ?_⟩
 obtain ⟨j, hj, e⟩ := List.getElem_of_mem hm
 have q := Je h.1 j (by omega) (by omega)
 have g1 : uX rows[j]? = a := by rw [List.getElem?_eq_getElem hj, e, hrk]; rfl
 simp only [tm, g1, Bool.or_eq_false_iff, Bool.not_eq_false'] at q
 have q2 := q.1.1
 unfold bF at q2
 simp only [Bool.and_eq_true, decide_eq_true_eq] at q2
 omega
theorem L3 {rows : List (List PV)} (hl : rows.length ≤ 6) (hr : ∀ r ∈ rows, ∃ a n, r = [.str a, .int .i64 n] ∧ a.length ≤ 8) : ∀ (m k : Nat) (i : Int), i = k → k + m = rows.length → ∀ (es : List (List PV)), ones es = true → es.length + 20 * m ≤ 1000 → ∀ (x0 x2 x4 x5 x6 x7 x8 x9 x10 x11 x12 x13 x14 x18 x19 x20 x21 x22 x23 x24 x25 x26 x27 x28 x29 x30 : V) (h : List AObj) (σ : St), σ = ⟨(x0 :: .one (.ptr 0 0 0) :: x2 :: bJ es :: x4 :: x5 :: x6 :: x7 :: x8 :: x9 :: x10 :: x11 :: x12 :: x13 :: x14 :: bJ rows :: ae .i64 rows.length :: ae .i64 i :: x18 :: x19 :: x20 :: x21 :: x22 :: x23 :: x24 :: x25 :: x26 :: x27 :: x28 :: x29 :: x30 :: []), .box [.pv (.lst rows)] :: h⟩ →
 jm (ah (aq (aa Ph al) ah fg) σ) fun e σ' => e = .exit 0 ∧ ∃ (es' : List (List PV)), (ones es' = true ∧ es'.length = (rows.drop k).foldl qE es.length) ∧ ∃ (x0 x2 x4 x5 x6 x7 x8 x9 x10 x11 x12 x13 x14 x18 x19 x20 x21 x22 x23 x24 x25 x26 x27 x28 x29 x30 : V) (h' : List AObj), σ' = ⟨(x0 :: .one (.ptr 0 0 0) :: x2 :: bJ es' :: x4 :: x5 :: x6 :: x7 :: x8 :: x9 :: x10 :: x11 :: x12 :: x13 :: x14 :: bJ rows :: ae .i64 rows.length :: ae .i64 (rows.length : Nat) :: x18 :: x19 :: x20 :: x21 :: x22 :: x23 :: x24 :: x25 :: x26 :: x27 :: x28 :: x29 :: x30 :: []), .box [.pv (.lst rows)] :: h'⟩ := by
 generalize hF : aq (aa Ph al) ah fg = F
 intro m
 induction m with
 | zero =>
  intro k i hi hk es ho hb x0 x2 x4 x5 x6 x7 x8 x9 x10 x11 x12 x13 x14 x18 x19 x20 x21 x22 x23 x24 x25 x26 x27 x28 x29 x30 h σ hσ
  subst hi hσ
  have hk' : k = rows.length := by omega
  subst hk'
  rw [aG hF]
  simp [fg, bD]
  exact ho
 | succ m ih =>
  intro k i hi hk es ho hb x0 x2 x4 x5 x6 x7 x8 x9 x10 x11 x12 x13 x14 x18 x19 x20 x21 x22 x23 x24 x25 x26 x27 x28 x29 x30 h σ hσ
  subst hi hσ
  have hlt : k < rows.length := by omega
  have hw := ag (k := k) (by omega)
  obtain ⟨a, n, hrk, ha⟩ := hr _ (List.getElem_mem hlt)
  obtain ⟨es1, e1, o1, l1⟩ := uJ ho (jE a) (by omega) (by rw [i9]; omega)
  rw [i9] at l1
  have u1 := pR a.length
  have u2 := pR n
  obtain ⟨es2, e2, o2, l2⟩ := jY o1 (by omega) n
  have key := ih (k + 1) ((k : Int) + 1) (by omega) (by omega) es2 o2 (by omega)
  clear ih
  have hs : qE es.length rows[k] = es2.length := by rw [hrk, l2, l1]; rfl
  rw [List.drop_eq_getElem_cons hlt, List.foldl_cons, hs]
  generalize (rows.drop (k + 1)).foldl qE es2.length = B at key ⊢
  rw [aG hF]
  simp [fg, hlt, hw, hrk, e1, e2]
  exact key _ _ _ _ _ _ _ _ _ _ _ _ _ _ _ _ _ _ _ _ _ _ _ _ _ _ _ _ rfl
theorem MF {rows : List (List PV)} (hl : rows.length ≤ 6) (hr : ∀ r ∈ rows, ∃ a n, r = [.str a, .int .i64 n] ∧ a.length ≤ 8) : ∀ (m k : Nat) (i : Int), i = k → k + m = rows.length → ∀ (es : List (List PV)), ones es = true → es.length + 20 * m ≤ 1000 → ∀ (x0 x2 x5 x6 x7 x8 x9 x10 x11 x12 x13 x14 x15 x16 x17 x18 x19 x20 x21 x22 x23 x24 x25 x26 x27 x28 x29 x30 x31 x32 x33 x34 x35 x36 x37 : V) (h : List AObj) (σ : St), σ = ⟨(x0 :: .one (.ptr 0 0 0) :: x2 :: bJ es :: ae .i64 i :: x5 :: x6 :: x7 :: x8 :: x9 :: x10 :: x11 :: x12 :: x13 :: x14 :: x15 :: x16 :: x17 :: x18 :: x19 :: x20 :: x21 :: x22 :: x23 :: x24 :: x25 :: x26 :: x27 :: x28 :: x29 :: x30 :: x31 :: x32 :: x33 :: x34 :: x35 :: x36 :: x37 :: []), .box [.pv (.lst rows)] :: h⟩ →
 jm (ah (aq (aa Ph al) ah fi) σ) fun e σ' => e = .exit 0 ∧ ∃ (es' : List (List PV)), (ones es' = true ∧ es'.length = (rows.drop k).foldl qE es.length) ∧ ∃ (x0 x2 x5 x6 x7 x8 x9 x10 x11 x12 x13 x14 x15 x16 x17 x18 x19 x20 x21 x22 x23 x24 x25 x26 x27 x28 x29 x30 x31 x32 x33 x34 x35 x36 x37 : V) (h' : List AObj), σ' = ⟨(x0 :: .one (.ptr 0 0 0) :: x2 :: bJ es' :: ae .i64 (rows.length : Nat) :: x5 :: x6 :: x7 :: x8 :: x9 :: x10 :: x11 :: x12 :: x13 :: x14 :: x15 :: x16 :: x17 :: x18 :: x19 :: x20 :: x21 :: x22 :: x23 :: x24 :: x25 :: x26 :: x27 :: x28 :: x29 :: x30 :: x31 :: x32 :: x33 :: x34 :: x35 :: x36 :: x37 :: []), .box [.pv (.lst rows)] :: h'⟩ := by
 generalize hF : aq (aa Ph al) ah fi = F
 intro m
 induction m with
 | zero =>
  intro k i hi hk es ho hb x0 x2 x5 x6 x7 x8 x9 x10 x11 x12 x13 x14 x15 x16 x17 x18 x19 x20 x21 x22 x23 x24 x25 x26 x27 x28 x29 x30 x31 x32 x33 x34 x35 x36 x37 h σ hσ
  subst hi hσ
  have hk' : k = rows.length := by omega
  subst hk'
  rw [aG hF]
  simp [fi, bD]
  exact ho
 | succ m ih =>
  intro k i hi hk es ho hb x0 x2 x5 x6 x7 x8 x9 x10 x11 x12 x13 x14 x15 x16 x17 x18 x19 x20 x21 x22 x23 x24 x25 x26 x27 x28 x29 x30 x31 x32 x33 x34 x35 x36 x37 h σ hσ
  subst hi hσ
  have hlt : k < rows.length := by omega
  have hw := ag (k := k) (by omega)
  obtain ⟨a, n, hrk, ha⟩ := hr _ (List.getElem_mem hlt)
  obtain ⟨es1, e1, o1, l1⟩ := uQ ho (jE a) (by omega) (by rw [i9]; omega)
  rw [i9] at l1
  have u1 := pR a.length
  have u2 := pR n
  obtain ⟨es2, e2, o2, l2⟩ := j3 o1 (by omega) n
  have key := ih (k + 1) ((k : Int) + 1) (by omega) (by omega) es2 o2 (by omega)
  clear ih
  have hs : qE es.length rows[k] = es2.length := by rw [hrk, l2, l1]; rfl
  rw [List.drop_eq_getElem_cons hlt, List.foldl_cons, hs]
  generalize (rows.drop (k + 1)).foldl qE es2.length = B at key ⊢
  rw [aG hF]
  simp [fi, hlt, hw, hrk, e1, e2]
  exact key _ _ _ _ _ _ _ _ _ _ _ _ _ _ _ _ _ _ _ _ _ _ _ _ _ _ _ _ _ _ _ _ _ _ _ _ _ rfl
def Jc (x : Option V) (P : V → Prop) : Prop := ∃ r, x = some r ∧ P r
theorem D4 {Φ : Nat → Option AFn} {ext : Nat → List V → Option V} {k : Nat} {fn : AFn} {xz : List V} {P : V → Prop} (hk : Φ k = some fn) (h : Jc (done fn (eM Φ ext fn.body (bW fn xz))) P) : Jc (aa Φ ext k xz) P := by
 obtain ⟨r, h1, h2⟩ := h
 exact ⟨r, aH hk h1, h2⟩
def Pp (rows : List (List PV)) (r : V) : Prop := ∃ es, dX r = bJ es ∧ ones es = true ∧ es.length = tc rows
theorem tD {rows : List (List PV)} (h : bR (.lst dx) (.lst rows)) : Jc (aa Ph al 226 [.agg [.pv (.lst rows)]]) (Pp rows) := by
 have e0 := qV h
 obtain ⟨hl, hr⟩ := aD h
 refine D4 (fn := jg) rfl ?_
 cases hk : pF rows
 ·rw [hk] at e0
  simp [jg, e0]
  exact ⟨_, rfl, [], rfl, rfl, by simp [tc, hk]⟩
 ·rw [hk] at e0
  obtain ⟨hl6, hn⟩ := tO hk hr
  obtain ⟨es0, e1, o1, l1⟩ := jY (bs := []) rfl (by simp) rows.length
  have u1 := pR rows.length
  simp only [List.length_nil, Nat.zero_add] at l1
  have LP := L3 hl6 hn rows.length 0 0 rfl (by omega) es0 o1 (by omega)
  simp only [List.drop_zero] at LP
  rw [l1] at LP
  generalize hF : aq (aa Ph al) ah fg = F at LP
  simp [jg, e0, e1, hF]
  generalize hσ : St.mk _ _ = σ0
  obtain ⟨e, σ', q1, rfl, es', ⟨q2, q3⟩, x0, x2, x4, x5, x6, x7, x8, x9, x10, x11, x12, x13, x14, x18, x19, x20, x21, x22, x23, x24, x25, x26, x27, x28, x29, x30, h', rfl⟩ := (LP _ _ _ _ _ _ _ _ _ _ _ _ _ _ _ _ _ _ _ _ _ _ _ _ _ _ _ σ0 hσ.symm).get
  rw [q1]
  simp
  exact ⟨_, rfl, es', rfl, q2, by simp [tc, hk, q3]⟩
theorem tY {rows : List (List PV)} (h : bR (.lst dx) (.lst rows)) : Jc (aa Ph al 222 [.agg [.pv (.lst rows)]]) (Pp rows) := by
 have e0 := rl h
 obtain ⟨hl, hr⟩ := aD h
 refine D4 (fn := jh) rfl ?_
 cases hk : pF rows
 ·rw [hk] at e0
  simp [jh, e0]
  exact ⟨_, rfl, [], rfl, rfl, by simp [tc, hk]⟩
 ·rw [hk] at e0
  obtain ⟨hl6, hn⟩ := tO hk hr
  obtain ⟨es0, e1, o1, l1⟩ := j3 (bs := []) rfl (by simp) rows.length
  have u1 := pR rows.length
  simp only [List.length_nil, Nat.zero_add] at l1
  have LP := MF hl6 hn rows.length 0 0 rfl (by omega) es0 o1 (by omega)
  simp only [List.drop_zero] at LP
  rw [l1] at LP
  generalize hF : aq (aa Ph al) ah fi = F at LP
  simp [jh, e0, e1, hF]
  generalize hσ : St.mk _ _ = σ0
  obtain ⟨e, σ', q1, rfl, es', ⟨q2, q3⟩, x0, x2, x5, x6, x7, x8, x9, x10, x11, x12, x13, x14, x15, x16, x17, x18, x19, x20, x21, x22, x23, x24, x25, x26, x27, x28, x29, x30, x31, x32, x33, x34, x35, x36, x37, h', rfl⟩ := (LP _ _ _ _ _ _ _ _ _ _ _ _ _ _ _ _ _ _ _ _ _ _ _ _ _ _ _ _ _ _ _ _ _ _ _ _ σ0 hσ.symm).get
  rw [q1]
  simp
  exact ⟨_, rfl, es', rfl, q2, by simp [tc, hk, q3]⟩
end Gi
namespace Gi
open Go Go.RowKit
set_option maxHeartbeats 4000000
set_option maxRecDepth 4000
theorem NK {rows : List (List PV)} (h : bR (.lst dx) (.lst rows)) : tc rows ≤ 1000 := by
 unfold tc
 cases hk : pF rows
 ·simp
 ·obtain ⟨hl6, hn⟩ := tO hk (aD h).2
  have key : ∀ (l : List (List PV)) (n : Nat), (∀ r ∈ l, ∃ a n, r = [.str a, .int .i64 n] ∧ a.length ≤ 8) → l.foldl qE n ≤ n + 20 * l.length := by
   intro l
   induction l with
   | nil => intro n _; simp
   | cons r l ih =>
    intro n hh
    obtain ⟨a, x, rfl, ha⟩ := hh r (by simp)
    have := ih (qE n [.str a, .int .i64 x]) (fun r hr => hh r (by simp [hr]))
    have u1 := pR a.length
    have u2 := pR x
    simp only [List.foldl_cons, List.length_cons]
    simp only [qE] at this ⊢
    omega
  have q := key rows (JO rows.length) hn
  have u := pR rows.length
  simp only [cond_true]
  omega
theorem Ny {a b : Int} {s : List UInt8} : tP a b s ≤ 100 := by
 unfold tP
 cases hk : pE a b s
 ·simp
 ·have := tL hk
  cases (a != 2) <;> simp <;> omega
def HX (acc : Int) : List PV → Int
 | [.int _ a, .int _ b, .str s, .lst fs] => IntKind.i64.wrap (acc + ((tP a b s : Int) + (tc fs : Int)))
 | _ => acc
end Gi
namespace Gi
open Go Go.RowKit
set_option maxHeartbeats 4000000
set_option maxRecDepth 4000
attribute [local simp] bW eM aq am bg bt cF dN Opd.ev put V.cells plain bz hJ isInt isStr isBool bin bf aS aR un asList L.view aB V.view viewL done bC aC aT cj comp bq bZ a8 V.flat L.flat dX dJ bS putAt thaw thawL freezeVs freezeLs freezeL V.mut L.mut bm aZ
theorem zR {r : List PV} (h : be fO r) : ∃ a b s fs, r = [.int .i64 a, .int .i64 b, .str s, .lst fs] ∧ s.length ≤ maxLen ∧ bR (.lst dx) (.lst fs) := by
 obtain ⟨⟨c0, c1, c2, c3, _⟩, rfl, g0, g1, g2, g3, _⟩ := cf h
 exact ⟨c0, c1, c2, c3, rfl, g2, g3⟩
theorem Mc {rows : List (List PV)} (hl : rows.length ≤ maxLen) (hr : ∀ r ∈ rows, be fO r) : ∀ (m k : Nat) (i : Int), i = k → k + m = rows.length → ∀ (acc : Int) (x0 x1 x2 x4 x5 x6 x10 x11 x12 x13 x14 x15 x16 x17 x18 x19 x20 x21 x22 x23 x24 x25 : V) (h : List AObj) (σ : St), σ = ⟨(x0 :: x1 :: x2 :: ae .i64 acc :: x4 :: x5 :: x6 :: bJ rows :: ae .i64 rows.length :: ae .i64 i :: x10 :: x11 :: x12 :: x13 :: x14 :: x15 :: x16 :: x17 :: x18 :: x19 :: x20 :: x21 :: x22 :: x23 :: x24 :: x25 :: []), h⟩ →
 jm (ah (aq (aa Ph al) ah f5) σ) fun e σ' => e = .exit 0 ∧ ∃ (x0 x1 x2 x4 x5 x6 x10 x11 x12 x13 x14 x15 x16 x17 x18 x19 x20 x21 x22 x23 x24 x25 : V) (h' : List AObj), σ' = ⟨(x0 :: x1 :: x2 :: ae .i64 ((rows.drop k).foldl (HX) acc) :: x4 :: x5 :: x6 :: bJ rows :: ae .i64 rows.length :: ae .i64 (rows.length : Nat) :: x10 :: x11 :: x12 :: x13 :: x14 :: x15 :: x16 :: x17 :: x18 :: x19 :: x20 :: x21 :: x22 :: x23 :: x24 :: x25 :: []), h'⟩ := by
 generalize hF : aq (aa Ph al) ah f5 = F
 intro m
 induction m with
 | zero =>
  intro k i hi hk acc x0 x1 x2 x4 x5 x6 x10 x11 x12 x13 x14 x15 x16 x17 x18 x19 x20 x21 x22 x23 x24 x25 h σ hσ
  subst hi hσ
  have hk' : k = rows.length := by omega
  subst hk'
  rw [aG hF]
  simp (maxSteps := 4000000) [f5, bD]
 | succ m ih =>
  intro k i hi hk acc x0 x1 x2 x4 x5 x6 x10 x11 x12 x13 x14 x15 x16 x17 x18 x19 x20 x21 x22 x23 x24 x25 h σ hσ
  subst hi hσ
  have hlt : k < rows.length := by omega
  have hw := ag (k := k) (by unfold maxLen at hl; omega)
  obtain ⟨a, b, s, fs, hrk, hsl, hfs⟩ := zR (hr _ (List.getElem_mem hlt))
  obtain ⟨es1, e1, o1, l1⟩ := w9 (a := a) (b := b) hsl
  obtain ⟨r2, e2, es2, v2, o2, l2⟩ := tD hfs
  have w1 := Ny (a := a) (b := b) (s := s)
  have w2 := NK hfs
  have hw2 : IntKind.i64.wrap ((tP a b s : Int) + (tc fs : Int)) = (tP a b s : Int) + (tc fs : Int) := by rw [IntKind.wrap_i64]; omega
  have hs : HX acc rows[k] = IntKind.i64.wrap (acc + ((tP a b s : Int) + (tc fs : Int))) := by rw [hrk]; rfl
  have key := ih (k + 1) ((k : Int) + 1) (by omega) (by omega) (IntKind.i64.wrap (acc + ((tP a b s : Int) + (tc fs : Int))))
  clear ih
  rw [List.drop_eq_getElem_cons hlt, List.foldl_cons, hs]
  generalize hB : (rows.drop (k + 1)).foldl (HX) (IntKind.i64.wrap (acc + ((tP a b s : Int) + (tc fs : Int)))) = B at key ⊢
  rw [aG hF]
  simp [f5, hlt, hw, hrk, e1, e2, ↓v2, l1, l2, hw2]
  exact key _ _ _ _ _ _ _ _ _ _ _ _ _ _ _ _ _ _ _ _ _ _ _ _ rfl
theorem MQ {rows : List (List PV)} {nm : List UInt8} {nx : Int} (hl : rows.length ≤ maxLen) (hr : ∀ r ∈ rows, be fO r) : ∀ (m k : Nat) (i : Int), i = k → k + m = rows.length → ∀ (acc : Int) (x0 x2 x5 x6 x7 x8 x9 x10 x11 x12 x13 x14 x15 x16 x17 x18 x19 x20 x21 x22 x23 x24 x25 x26 x27 x28 x29 x30 x31 : V) (h : List AObj) (σ : St), σ = ⟨(x0 :: .one (.ptr 0 0 0) :: x2 :: ae .i64 acc :: ae .i64 i :: x5 :: x6 :: x7 :: x8 :: x9 :: x10 :: x11 :: x12 :: x13 :: x14 :: x15 :: x16 :: x17 :: x18 :: x19 :: x20 :: x21 :: x22 :: x23 :: x24 :: x25 :: x26 :: x27 :: x28 :: x29 :: x30 :: x31 :: []), .box [.pv (.str nm), .pv (.lst rows), .pv (.int .i64 nx)] :: h⟩ →
 jm (ah (aq (aa Ph al) ah f7) σ) fun e σ' => e = .exit 0 ∧ ∃ (x0 x2 x5 x6 x7 x8 x9 x10 x11 x12 x13 x14 x15 x16 x17 x18 x19 x20 x21 x22 x23 x24 x25 x26 x27 x28 x29 x30 x31 : V) (h' : List AObj), σ' = ⟨(x0 :: .one (.ptr 0 0 0) :: x2 :: ae .i64 ((rows.drop k).foldl (HX) acc) :: ae .i64 (rows.length : Nat) :: x5 :: x6 :: x7 :: x8 :: x9 :: x10 :: x11 :: x12 :: x13 :: x14 :: x15 :: x16 :: x17 :: x18 :: x19 :: x20 :: x21 :: x22 :: x23 :: x24 :: x25 :: x26 :: x27 :: x28 :: x29 :: x30 :: x31 :: []), .box [.pv (.str nm), .pv (.lst rows), .pv (.int .i64 nx)] :: h'⟩ := by
 generalize hF : aq (aa Ph al) ah f7 = F
 intro m
 induction m with
 | zero =>
  intro k i hi hk acc x0 x2 x5 x6 x7 x8 x9 x10 x11 x12 x13 x14 x15 x16 x17 x18 x19 x20 x21 x22 x23 x24 x25 x26 x27 x28 x29 x30 x31 h σ hσ
  subst hi hσ
  have hk' : k = rows.length := by omega
  subst hk'
  rw [aG hF]
  simp (maxSteps := 4000000) [f7, bD]
 | succ m ih =>
  intro k i hi hk acc x0 x2 x5 x6 x7 x8 x9 x10 x11 x12 x13 x14 x15 x16 x17 x18 x19 x20 x21 x22 x23 x24 x25 x26 x27 x28 x29 x30 x31 h σ hσ
  subst hi hσ
  have hlt : k < rows.length := by omega
  have hw := ag (k := k) (by unfold maxLen at hl; omega)
  obtain ⟨a, b, s, fs, hrk, hsl, hfs⟩ := zR (hr _ (List.getElem_mem hlt))
  obtain ⟨es1, e1, o1, l1⟩ := xE (a := a) (b := b) hsl
  obtain ⟨r2, e2, es2, v2, o2, l2⟩ := tY hfs
  have hw2 : IntKind.i64.wrap (IntKind.i64.wrap (acc + (tP a b s : Int)) + (tc fs : Int)) = IntKind.i64.wrap (acc + ((tP a b s : Int) + (tc fs : Int))) := by simp only [IntKind.wrap_i64]; omega
  have hs : HX acc rows[k] = IntKind.i64.wrap (acc + ((tP a b s : Int) + (tc fs : Int))) := by rw [hrk]; rfl
  have key := ih (k + 1) ((k : Int) + 1) (by omega) (by omega) (IntKind.i64.wrap (acc + ((tP a b s : Int) + (tc fs : Int))))
  clear ih
  rw [List.drop_eq_getElem_cons hlt, List.foldl_cons, hs]
  generalize hB : (rows.drop (k + 1)).foldl (HX) (IntKind.i64.wrap (acc + ((tP a b s : Int) + (tc fs : Int)))) = B at key ⊢
  rw [aG hF]
  simp [f7, hlt, hw, hrk, e1, e2, ↓v2, l1, l2, hw2]
  exact key _ _ _ _ _ _ _ _ _ _ _ _ _ _ _ _ _ _ _ _ _ _ _ _ _ _ _ _ _ _ _ rfl
theorem p4 {nm : List UInt8} {nx : Int} {rows : List (List PV)} (h : bR (.lst fO) (.lst rows)) : aa Ph al 197 [.agg [.pv (.str nm), .pv (.lst rows), .pv (.int .i64 nx)]] = some (ae .i64 (rows.foldl HX 0)) := by
 obtain ⟨hl, hr⟩ := aD h
 refine aH (fn := nr) rfl ?_
 have LP := Mc hl hr rows.length 0 0 rfl (by omega) 0
 simp only [List.drop_zero] at LP
 generalize hF : aq (aa Ph al) ah f5 = F at LP
 simp [nr, hF]
 generalize hσ : St.mk _ _ = σ0
 obtain ⟨e, σ', q1, rfl, x0, x1, x2, x4, x5, x6, x10, x11, x12, x13, x14, x15, x16, x17, x18, x19, x20, x21, x22, x23, x24, x25, h', rfl⟩ := (LP _ _ _ _ _ _ _ _ _ _ _ _ _ _ _ _ _ _ _ _ _ _ _ σ0 hσ.symm).get
 rw [q1]
 simp
theorem qd {nm : List UInt8} {nx : Int} {rows : List (List PV)} (h : bR (.lst fO) (.lst rows)) : aa Ph al 194 [.agg [.pv (.str nm), .pv (.lst rows), .pv (.int .i64 nx)]] = some (ae .i64 (rows.foldl HX 0)) := by
 obtain ⟨hl, hr⟩ := aD h
 refine aH (fn := nD) rfl ?_
 have LP := MQ (nm := nm) (nx := nx) hl hr rows.length 0 0 rfl (by omega) 0
 simp only [List.drop_zero] at LP
 generalize hF : aq (aa Ph al) ah f7 = F at LP
 simp [nD, hF]
 generalize hσ : St.mk _ _ = σ0
 obtain ⟨e, σ', q1, rfl, x0, x2, x5, x6, x7, x8, x9, x10, x11, x12, x13, x14, x15, x16, x17, x18, x19, x20, x21, x22, x23, x24, x25, x26, x27, x28, x29, x30, x31, h', rfl⟩ := (LP _ _ _ _ _ _ _ _ _ _ _ _ _ _ _ _ _ _ _ _ _ _ _ _ _ _ _ _ _ _ σ0 hσ.symm).get
 rw [q1]
 simp
theorem xI {r : List PV} (h : be gM r) : ∃ s fs n, r = [.str s, .lst fs, .int .i64 n] ∧ bR (.lst fO) (.lst fs) := by
 obtain ⟨⟨c0, c1, c2, _⟩, rfl, g0, g1, g2, _⟩ := cf h
 exact ⟨c0, c1, c2, rfl, g1⟩
def LD (acc : Int) : List PV → Int
 | [_, .lst its, _] => IntKind.i64.wrap (acc + its.foldl HX 0)
 | _ => acc
theorem Mb {rows : List (List PV)} (hl : rows.length ≤ maxLen) (hr : ∀ r ∈ rows, be gM r) : ∀ (m k : Nat) (i : Int), i = k → k + m = rows.length → ∀ (acc : Int) (x0 x1 x2 x4 x5 x6 x10 x11 x12 x13 x14 x15 x16 x17 x18 : V) (h : List AObj) (σ : St), σ = ⟨(x0 :: x1 :: x2 :: ae .i64 acc :: x4 :: x5 :: x6 :: bJ rows :: ae .i64 rows.length :: ae .i64 i :: x10 :: x11 :: x12 :: x13 :: x14 :: x15 :: x16 :: x17 :: x18 :: []), h⟩ →
 jm (ah (aq (aa Ph al) ah fh) σ) fun e σ' => e = .exit 0 ∧ ∃ (x0 x1 x2 x4 x5 x6 x10 x11 x12 x13 x14 x15 x16 x17 x18 : V) (h' : List AObj), σ' = ⟨(x0 :: x1 :: x2 :: ae .i64 ((rows.drop k).foldl (LD) acc) :: x4 :: x5 :: x6 :: bJ rows :: ae .i64 rows.length :: ae .i64 (rows.length : Nat) :: x10 :: x11 :: x12 :: x13 :: x14 :: x15 :: x16 :: x17 :: x18 :: []), h'⟩ := by
 generalize hF : aq (aa Ph al) ah fh = F
 intro m
 induction m with
 | zero =>
  intro k i hi hk acc x0 x1 x2 x4 x5 x6 x10 x11 x12 x13 x14 x15 x16 x17 x18 h σ hσ
  subst hi hσ
  have hk' : k = rows.length := by omega
  subst hk'
  rw [aG hF]
  simp (maxSteps := 4000000) [fh, bD]
 | succ m ih =>
  intro k i hi hk acc x0 x1 x2 x4 x5 x6 x10 x11 x12 x13 x14 x15 x16 x17 x18 h σ hσ
  subst hi hσ
  have hlt : k < rows.length := by omega
  have hw := ag (k := k) (by unfold maxLen at hl; omega)
  obtain ⟨s, its, n, hrk, hfs⟩ := xI (hr _ (List.getElem_mem hlt))
  have e1 := p4 (nm := s) (nx := n) hfs
  have hs : LD acc rows[k] = IntKind.i64.wrap (acc + its.foldl HX 0) := by rw [hrk]; rfl
  have key := ih (k + 1) ((k : Int) + 1) (by omega) (by omega) (IntKind.i64.wrap (acc + its.foldl HX 0))
  clear ih
  rw [List.drop_eq_getElem_cons hlt, List.foldl_cons, hs]
  generalize hB : (rows.drop (k + 1)).foldl (LD) (IntKind.i64.wrap (acc + its.foldl HX 0)) = B at key ⊢
  rw [aG hF]
  simp [fh, hlt, hw, hrk, e1]
  exact key _ _ _ _ _ _ _ _ _ _ _ _ _ _ _ _ _ rfl
theorem MP {rows ix : List (List PV)} {nm : List UInt8} {nx : Int} (hl : rows.length ≤ maxLen) (hr : ∀ r ∈ rows, be gM r) : ∀ (m k : Nat) (i : Int), i = k → k + m = rows.length → ∀ (acc : Int) (x0 x2 x5 x6 x7 x8 x9 x10 x11 x12 x13 x14 x15 x16 x17 x18 x19 x20 : V) (h : List AObj) (σ : St), σ = ⟨(x0 :: .one (.ptr 0 0 0) :: x2 :: ae .i64 acc :: ae .i64 i :: x5 :: x6 :: x7 :: x8 :: x9 :: x10 :: x11 :: x12 :: x13 :: x14 :: x15 :: x16 :: x17 :: x18 :: x19 :: x20 :: []), .box [.pv (.str nm), .pv (.int .i64 nx), .pv (.lst rows), .pv (.lst ix)] :: h⟩ →
 jm (ah (aq (aa Ph al) ah fj) σ) fun e σ' => e = .exit 0 ∧ ∃ (x0 x2 x5 x6 x7 x8 x9 x10 x11 x12 x13 x14 x15 x16 x17 x18 x19 x20 : V) (h' : List AObj), σ' = ⟨(x0 :: .one (.ptr 0 0 0) :: x2 :: ae .i64 ((rows.drop k).foldl (LD) acc) :: ae .i64 (rows.length : Nat) :: x5 :: x6 :: x7 :: x8 :: x9 :: x10 :: x11 :: x12 :: x13 :: x14 :: x15 :: x16 :: x17 :: x18 :: x19 :: x20 :: []), .box [.pv (.str nm), .pv (.int .i64 nx), .pv (.lst rows), .pv (.lst ix)] :: h'⟩ := by
 generalize hF : aq (aa Ph al) ah fj = F
 intro m
 induction m with
 | zero =>
  intro k i hi hk acc x0 x2 x5 x6 x7 x8 x9 x10 x11 x12 x13 x14 x15 x16 x17 x18 x19 x20 h σ hσ
  subst hi hσ
  have hk' : k = rows.length := by omega
  subst hk'
  rw [aG hF]
  simp (maxSteps := 4000000) [fj, bD]
 | succ m ih =>
  intro k i hi hk acc x0 x2 x5 x6 x7 x8 x9 x10 x11 x12 x13 x14 x15 x16 x17 x18 x19 x20 h σ hσ
  subst hi hσ
  have hlt : k < rows.length := by omega
  have hw := ag (k := k) (by unfold maxLen at hl; omega)
  obtain ⟨s, its, n, hrk, hfs⟩ := xI (hr _ (List.getElem_mem hlt))
  have e1 := qd (nm := s) (nx := n) hfs
  have hs : LD acc rows[k] = IntKind.i64.wrap (acc + its.foldl HX 0) := by rw [hrk]; rfl
  have key := ih (k + 1) ((k : Int) + 1) (by omega) (by omega) (IntKind.i64.wrap (acc + its.foldl HX 0))
  clear ih
  rw [List.drop_eq_getElem_cons hlt, List.foldl_cons, hs]
  generalize hB : (rows.drop (k + 1)).foldl (LD) (IntKind.i64.wrap (acc + its.foldl HX 0)) = B at key ⊢
  rw [aG hF]
  simp [fj, hlt, hw, hrk, e1]
  exact key _ _ _ _ _ _ _ _ _ _ _ _ _ _ _ _ _ _ _ _ rfl
theorem tH {nm : List UInt8} {nx : Int} {rows ix : List (List PV)} (h : bR (.lst gM) (.lst rows)) : aa Ph al 224 [.agg [.pv (.str nm), .pv (.int .i64 nx), .pv (.lst rows), .pv (.lst ix)]] = some (ae .i64 (rows.foldl LD 0)) := by
 obtain ⟨hl, hr⟩ := aD h
 refine aH (fn := kW) rfl ?_
 have LP := Mb hl hr rows.length 0 0 rfl (by omega) 0
 simp only [List.drop_zero] at LP
 generalize hF : aq (aa Ph al) ah fh = F at LP
 simp [kW, hF]
 generalize hσ : St.mk _ _ = σ0
 obtain ⟨e, σ', q1, rfl, x0, x1, x2, x4, x5, x6, x10, x11, x12, x13, x14, x15, x16, x17, x18, h', rfl⟩ := (LP _ _ _ _ _ _ _ _ _ _ _ _ _ _ _ _ σ0 hσ.symm).get
 rw [q1]
 simp
theorem za {nm : List UInt8} {nx sy : Int} {rows ix lg : List (List PV)} (h : bR (.lst gM) (.lst rows)) : aa Ph al 196 [.agg [.pv (.str nm), .pv (.int .i64 nx), .pv (.lst rows), .pv (.lst ix), .pv (.lst lg), .pv (.int .i64 sy)]] = some (ae .i64 (IntKind.i64.wrap (rows.foldl LD 0 + (lg.length : Int)))) := by
 have e1 := tH (nm := nm) (nx := nx) (ix := ix) h
 refine aH (fn := oq) rfl ?_
 simp [oq, e1]
theorem t6 {nm : List UInt8} {nx : Int} {rows ix : List (List PV)} (h : bR (.lst gM) (.lst rows)) : aa Ph al 220 [.agg [.pv (.str nm), .pv (.int .i64 nx), .pv (.lst rows), .pv (.lst ix)]] = some (ae .i64 (rows.foldl LD 0)) := by
 obtain ⟨hl, hr⟩ := aD h
 refine aH (fn := kZ) rfl ?_
 have LP := MP (ix := ix) (nm := nm) (nx := nx) hl hr rows.length 0 0 rfl (by omega) 0
 simp only [List.drop_zero] at LP
 generalize hF : aq (aa Ph al) ah fj = F at LP
 simp [kZ, hF]
 generalize hσ : St.mk _ _ = σ0
 obtain ⟨e, σ', q1, rfl, x0, x2, x5, x6, x7, x8, x9, x10, x11, x12, x13, x14, x15, x16, x17, x18, x19, x20, h', rfl⟩ := (LP _ _ _ _ _ _ _ _ _ _ _ _ _ _ _ _ _ _ _ σ0 hσ.symm).get
 rw [q1]
 simp
theorem zy {nm : List UInt8} {nx sy : Int} {rows ix lg : List (List PV)} (h : bR (.lst gM) (.lst rows)) : aa Ph al 193 [.agg [.pv (.str nm), .pv (.int .i64 nx), .pv (.lst rows), .pv (.lst ix), .pv (.lst lg), .pv (.int .i64 sy)]] = some (ae .i64 (IntKind.i64.wrap (rows.foldl LD 0 + (lg.length : Int)))) := by
 have e1 := t6 (nm := nm) (nx := nx) (ix := ix) h
 refine aH (fn := oD) rfl ?_
 simp [oD, e1]
end Gi
