/- Of this proof. -/
import Derived.Test.YthklhahdgbbbhaaGreatGua2
import Derived.Test.YthklhahdgbbbhaaGreatGuw
import Derived.Test.YthklhahdgbbbhaaGreatGyd
import Derived.Test.YthklhahdgbbbhaaGreatGye
import Derived.Test.YthklhahdgbbbhaaGreatGyf
import Derived.Test.YthklhahdgbbbhaaGreatGyg
set_option linter.unusedSimpArgs false
namespace Gi
open Go Go.RowKit
set_option maxHeartbeats 4000000
set_option maxRecDepth 4000
attribute [local simp] bW eM aq am bg bt cF dN Opd.ev put V.cells plain bz hJ isInt isStr isBool bin bf aS aR un asList L.view aB V.view viewL done bC aC aT cj comp bq bZ a8 V.flat L.flat dX dJ bS putAt thaw thawL freezeVs freezeLs freezeL V.mut L.mut bm aZ
def NR (ty : Int) (n : Nat) : Int := cond (ty == 3) 76 (IntKind.i64.wrap (16 + (n : Int)))
theorem vL {x0 x1 x2 : Int} {x3 : List (List PV)} {x4 : Bool} (hid : Bool) : aa Ph al 223 [.agg [.pv (.int .i64 x0), .pv (.int .i64 x1), .pv (.int .i64 x2), .pv (.lst x3), .pv (.bool x4)], aj hid] = some (ae .i64 (cond hid 76 (IntKind.i64.wrap (16 + (x3.length : Int))))) := by
 refine aH (fn := mC) rfl ?_
 cases hid <;> simp [mC]
theorem we {x0 x1 x2 : Int} {x3 : List (List PV)} {x4 : Bool} (hid : Bool) : aa Ph al 219 [.agg [.pv (.int .i64 x0), .pv (.int .i64 x1), .pv (.int .i64 x2), .pv (.lst x3), .pv (.bool x4)], aj hid] = some (ae .i64 (cond hid 76 (IntKind.i64.wrap (16 + (x3.length : Int))))) := by
 refine aH (fn := mO) rfl ?_
 cases hid <;> simp [mO]
def K0 (acc : Int) : List PV → Int
 | [_, _, .int _ ty, _, _, .lst bd, _] => IntKind.i64.wrap (acc + NR ty bd.length)
 | _ => acc
def NO (acc : Int) : List PV → Int
 | [_, .lst es] => es.foldl K0 acc
 | _ => acc
theorem OC {rows es : List (List PV)} {ci : Int} (hl : es.length ≤ maxLen) (hr : ∀ r ∈ es, be gA r) : ∀ (m k : Nat) (i : Int), i = k → k + m = es.length → ∀ (acc : Int) (x0 x1 x2 x4 x5 x6 x7 x8 x12 x13 x14 x15 x19 x20 x21 x22 x23 x24 x25 x26 x27 x28 x29 x30 x31 x32 x33 : V) (h : List AObj) (σ : St), σ = ⟨(x0 :: x1 :: x2 :: ae .i64 acc :: x4 :: x5 :: x6 :: x7 :: x8 :: bJ rows :: ae .i64 rows.length :: ae .i64 ci :: x12 :: x13 :: x14 :: x15 :: bJ es :: ae .i64 es.length :: ae .i64 i :: x19 :: x20 :: x21 :: x22 :: x23 :: x24 :: x25 :: x26 :: x27 :: x28 :: x29 :: x30 :: x31 :: x32 :: x33 :: []), h⟩ →
 jm (ah (aq (aa Ph al) ah eZ) σ) fun e σ' => e = .exit 2 ∧ ∃ (x0 x1 x2 x4 x5 x6 x7 x8 x12 x13 x14 x15 x19 x20 x21 x22 x23 x24 x25 x26 x27 x28 x29 x30 x31 x32 x33 : V) (h' : List AObj), σ' = ⟨(x0 :: x1 :: x2 :: ae .i64 ((es.drop k).foldl (K0) acc) :: x4 :: x5 :: x6 :: x7 :: x8 :: bJ rows :: ae .i64 rows.length :: ae .i64 ci :: x12 :: x13 :: x14 :: x15 :: bJ es :: ae .i64 es.length :: ae .i64 (es.length : Nat) :: x19 :: x20 :: x21 :: x22 :: x23 :: x24 :: x25 :: x26 :: x27 :: x28 :: x29 :: x30 :: x31 :: x32 :: x33 :: []), h'⟩ := by
 generalize hF : aq (aa Ph al) ah eZ = F
 intro m
 induction m with
 | zero =>
  intro k i hi hk acc x0 x1 x2 x4 x5 x6 x7 x8 x12 x13 x14 x15 x19 x20 x21 x22 x23 x24 x25 x26 x27 x28 x29 x30 x31 x32 x33 h σ hσ
  subst hi hσ
  have hk' : k = es.length := by omega
  subst hk'
  rw [aG hF]
  simp (maxSteps := 4000000) [eZ, bD]
 | succ m ih =>
  intro k i hi hk acc x0 x1 x2 x4 x5 x6 x7 x8 x12 x13 x14 x15 x19 x20 x21 x22 x23 x24 x25 x26 x27 x28 x29 x30 x31 x32 x33 h σ hσ
  subst hi hσ
  have hlt : k < es.length := by omega
  have hw := ag (k := k) (by unfold maxLen at hl; omega)
  obtain ⟨d0, d1, d2, d3, d4, d5, d6, hrk, _⟩ := iW (hr _ (List.getElem_mem hlt))
  have e1 := vL (x0 := d2) (x1 := d3) (x2 := d4) (x3 := d5) (x4 := d6) (d2 == 3)
  have hs : K0 acc es[k] = IntKind.i64.wrap (acc + cond (d2 == 3) 76 (IntKind.i64.wrap (16 + (d5.length : Int)))) := by rw [hrk]; rfl
  have key := ih (k + 1) ((k : Int) + 1) (by omega) (by omega) (IntKind.i64.wrap (acc + cond (d2 == 3) 76 (IntKind.i64.wrap (16 + (d5.length : Int)))))
  clear ih
  rw [List.drop_eq_getElem_cons hlt, List.foldl_cons, hs]
  generalize hB : (es.drop (k + 1)).foldl (K0) (IntKind.i64.wrap (acc + cond (d2 == 3) 76 (IntKind.i64.wrap (16 + (d5.length : Int))))) = B at key ⊢
  rw [aG hF]
  simp [eZ, hlt, hw, hrk, e1]
  exact key _ _ _ _ _ _ _ _ _ _ _ _ _ _ _ _ _ _ _ _ _ _ _ _ _ _ _ _ _ rfl
theorem Nw {rows : List (List PV)} (hl : rows.length ≤ maxLen) (hr : ∀ r ∈ rows, be dK r) : ∀ (m k : Nat) (i : Int), i = k → k + m = rows.length → ∀ (acc : Int) (x0 x1 x2 x4 x5 x6 x7 x8 x12 x13 x14 x15 x16 x17 x18 x19 x20 x21 x22 x23 x24 x25 x26 x27 x28 x29 x30 x31 x32 x33 : V) (h : List AObj) (σ : St), σ = ⟨(x0 :: x1 :: x2 :: ae .i64 acc :: x4 :: x5 :: x6 :: x7 :: x8 :: bJ rows :: ae .i64 rows.length :: ae .i64 i :: x12 :: x13 :: x14 :: x15 :: x16 :: x17 :: x18 :: x19 :: x20 :: x21 :: x22 :: x23 :: x24 :: x25 :: x26 :: x27 :: x28 :: x29 :: x30 :: x31 :: x32 :: x33 :: []), h⟩ →
 jm (ah (aq (aa Ph al) ah fR) σ) fun e σ' => e = .exit 0 ∧ ∃ (x0 x1 x2 x4 x5 x6 x7 x8 x12 x13 x14 x15 x16 x17 x18 x19 x20 x21 x22 x23 x24 x25 x26 x27 x28 x29 x30 x31 x32 x33 : V) (h' : List AObj), σ' = ⟨(x0 :: x1 :: x2 :: ae .i64 ((rows.drop k).foldl (NO) acc) :: x4 :: x5 :: x6 :: x7 :: x8 :: bJ rows :: ae .i64 rows.length :: ae .i64 (rows.length : Nat) :: x12 :: x13 :: x14 :: x15 :: x16 :: x17 :: x18 :: x19 :: x20 :: x21 :: x22 :: x23 :: x24 :: x25 :: x26 :: x27 :: x28 :: x29 :: x30 :: x31 :: x32 :: x33 :: []), h'⟩ := by
 generalize hF : aq (aa Ph al) ah fR = F
 intro m
 induction m with
 | zero =>
  intro k i hi hk acc x0 x1 x2 x4 x5 x6 x7 x8 x12 x13 x14 x15 x16 x17 x18 x19 x20 x21 x22 x23 x24 x25 x26 x27 x28 x29 x30 x31 x32 x33 h σ hσ
  subst hi hσ
  have hk' : k = rows.length := by omega
  subst hk'
  rw [aG hF]
  simp (maxSteps := 4000000) [fR, bD]
 | succ m ih =>
  intro k i hi hk acc x0 x1 x2 x4 x5 x6 x7 x8 x12 x13 x14 x15 x16 x17 x18 x19 x20 x21 x22 x23 x24 x25 x26 x27 x28 x29 x30 x31 x32 x33 h σ hσ
  subst hi hσ
  have hlt : k < rows.length := by omega
  have hw := ag (k := k) (by unfold maxLen at hl; omega)
  obtain ⟨n, es, hrk, hes⟩ := jN (hr _ (List.getElem_mem hlt))
  obtain ⟨hle, hre⟩ := aD hes
  have hs : NO acc rows[k] = es.foldl K0 acc := by rw [hrk]; rfl
  have key := ih (k + 1) ((k : Int) + 1) (by omega) (by omega) (es.foldl K0 acc)
  clear ih
  rw [List.drop_eq_getElem_cons hlt, List.foldl_cons, hs]
  generalize hB : (rows.drop (k + 1)).foldl (NO) (es.foldl K0 acc) = B at key ⊢
  rw [aG hF]
  have LP := OC (rows := rows) (ci := (k : Int)) hle hre es.length 0 0 rfl (by omega) acc
  simp only [List.drop_zero] at LP
  generalize hG : aq (aa Ph al) ah eZ = G at LP
  simp [fR, hlt, hrk, hG]
  generalize hσ : St.mk _ _ = σ0
  obtain ⟨e, σ', q1, rfl, x0, x1, x2, x4, x5, x6, x7, x8, x12, x13, x14, x15, x19, x20, x21, x22, x23, x24, x25, x26, x27, x28, x29, x30, x31, x32, x33, h', rfl⟩ := (LP _ _ _ _ _ _ _ _ _ _ _ _ _ _ _ _ _ _ _ _ _ _ _ _ _ _ _ _ σ0 hσ.symm).get
  rw [q1]
  simp [hw]
  exact key _ _ _ _ _ _ _ _ _ _ _ _ _ _ _ _ _ _ _ _ _ _ _ _ _ _ _ _ _ _ _ _ rfl
theorem vK {rows : List (List PV)} (h : bR (.lst dK) (.lst rows)) : aa Ph al 195 [.agg [.pv (.lst rows)]] = some (ae .i64 (rows.foldl NO 0)) := by
 obtain ⟨hl, hr⟩ := aD h
 refine aH (fn := mB) rfl ?_
 have LP := Nw hl hr rows.length 0 0 rfl (by omega) 0
 simp only [List.drop_zero] at LP
 generalize hF : aq (aa Ph al) ah fR = F at LP
 simp [mB, hF]
 generalize hσ : St.mk _ _ = σ0
 obtain ⟨e, σ', q1, rfl, x0, x1, x2, x4, x5, x6, x7, x8, x12, x13, x14, x15, x16, x17, x18, x19, x20, x21, x22, x23, x24, x25, x26, x27, x28, x29, x30, x31, x32, x33, h', rfl⟩ := (LP _ _ _ _ _ _ _ _ _ _ _ _ _ _ _ _ _ _ _ _ _ _ _ _ _ _ _ _ _ _ _ σ0 hσ.symm).get
 rw [q1]
 simp
theorem OF {rows es : List (List PV)} {ci : Nat} {cn : Int} (hl : es.length ≤ maxLen) (hr : ∀ r ∈ es, be gA r) (hci : ci < rows.length) (hce : rows[ci] = [.int .i64 cn, .lst es]) : ∀ (m k : Nat) (i : Int), i = k → k + m = es.length → ∀ (acc : Int) (x0 x2 x6 x7 x8 x9 x10 x11 x12 x13 x14 x15 x16 x17 x18 x19 x20 x21 x22 x23 x24 x25 x26 x27 x28 x29 x30 x31 x32 x33 x34 x35 x36 x37 x38 x39 x40 x41 x42 : V) (h : List AObj) (σ : St), σ = ⟨(x0 :: .one (.ptr 0 0 0) :: x2 :: ae .i64 acc :: ae .i64 (ci : Nat) :: ae .i64 i :: x6 :: x7 :: x8 :: x9 :: x10 :: x11 :: x12 :: x13 :: x14 :: x15 :: x16 :: x17 :: x18 :: x19 :: x20 :: x21 :: x22 :: x23 :: x24 :: x25 :: x26 :: x27 :: x28 :: x29 :: x30 :: x31 :: x32 :: x33 :: x34 :: x35 :: x36 :: x37 :: x38 :: x39 :: x40 :: x41 :: x42 :: []), .box [.pv (.lst rows)] :: h⟩ →
 jm (ah (aq (aa Ph al) ah fb) σ) fun e σ' => e = .exit 2 ∧ ∃ (x0 x2 x6 x7 x8 x9 x10 x11 x12 x13 x14 x15 x16 x17 x18 x19 x20 x21 x22 x23 x24 x25 x26 x27 x28 x29 x30 x31 x32 x33 x34 x35 x36 x37 x38 x39 x40 x41 x42 : V) (h' : List AObj), σ' = ⟨(x0 :: .one (.ptr 0 0 0) :: x2 :: ae .i64 ((es.drop k).foldl (K0) acc) :: ae .i64 (ci : Nat) :: ae .i64 (es.length : Nat) :: x6 :: x7 :: x8 :: x9 :: x10 :: x11 :: x12 :: x13 :: x14 :: x15 :: x16 :: x17 :: x18 :: x19 :: x20 :: x21 :: x22 :: x23 :: x24 :: x25 :: x26 :: x27 :: x28 :: x29 :: x30 :: x31 :: x32 :: x33 :: x34 :: x35 :: x36 :: x37 :: x38 :: x39 :: x40 :: x41 :: x42 :: []), .box [.pv (.lst rows)] :: h'⟩ := by
 generalize hF : aq (aa Ph al) ah fb = F
 intro m
 induction m with
 | zero =>
  intro k i hi hk acc x0 x2 x6 x7 x8 x9 x10 x11 x12 x13 x14 x15 x16 x17 x18 x19 x20 x21 x22 x23 x24 x25 x26 x27 x28 x29 x30 x31 x32 x33 x34 x35 x36 x37 x38 x39 x40 x41 x42 h σ hσ
  subst hi hσ
  have hk' : k = es.length := by omega
  subst hk'
  rw [aG hF]
  simp (maxSteps := 4000000) [fb, bD, hci, hce]
 | succ m ih =>
  intro k i hi hk acc x0 x2 x6 x7 x8 x9 x10 x11 x12 x13 x14 x15 x16 x17 x18 x19 x20 x21 x22 x23 x24 x25 x26 x27 x28 x29 x30 x31 x32 x33 x34 x35 x36 x37 x38 x39 x40 x41 x42 h σ hσ
  subst hi hσ
  have hlt : k < es.length := by omega
  have hw := ag (k := k) (by unfold maxLen at hl; omega)
  obtain ⟨d0, d1, d2, d3, d4, d5, d6, hrk, _⟩ := iW (hr _ (List.getElem_mem hlt))
  have e1 := we (x0 := d2) (x1 := d3) (x2 := d4) (x3 := d5) (x4 := d6) (d2 == 3)
  have hs : K0 acc es[k] = IntKind.i64.wrap (acc + cond (d2 == 3) 76 (IntKind.i64.wrap (16 + (d5.length : Int)))) := by rw [hrk]; rfl
  have key := ih (k + 1) ((k : Int) + 1) (by omega) (by omega) (IntKind.i64.wrap (acc + cond (d2 == 3) 76 (IntKind.i64.wrap (16 + (d5.length : Int)))))
  clear ih
  rw [List.drop_eq_getElem_cons hlt, List.foldl_cons, hs]
  generalize hB : (es.drop (k + 1)).foldl (K0) (IntKind.i64.wrap (acc + cond (d2 == 3) 76 (IntKind.i64.wrap (16 + (d5.length : Int))))) = B at key ⊢
  rw [aG hF]
  simp [fb, hlt, hw, hrk, e1, hci, hce]
  exact key _ _ _ _ _ _ _ _ _ _ _ _ _ _ _ _ _ _ _ _ _ _ _ _ _ _ _ _ _ _ _ _ _ _ _ _ _ _ _ _ _ rfl
theorem NQ {rows : List (List PV)} (hl : rows.length ≤ maxLen) (hr : ∀ r ∈ rows, be dK r) : ∀ (m k : Nat) (i : Int), i = k → k + m = rows.length → ∀ (acc : Int) (x0 x2 x5 x6 x7 x8 x9 x10 x11 x12 x13 x14 x15 x16 x17 x18 x19 x20 x21 x22 x23 x24 x25 x26 x27 x28 x29 x30 x31 x32 x33 x34 x35 x36 x37 x38 x39 x40 x41 x42 : V) (h : List AObj) (σ : St), σ = ⟨(x0 :: .one (.ptr 0 0 0) :: x2 :: ae .i64 acc :: ae .i64 i :: x5 :: x6 :: x7 :: x8 :: x9 :: x10 :: x11 :: x12 :: x13 :: x14 :: x15 :: x16 :: x17 :: x18 :: x19 :: x20 :: x21 :: x22 :: x23 :: x24 :: x25 :: x26 :: x27 :: x28 :: x29 :: x30 :: x31 :: x32 :: x33 :: x34 :: x35 :: x36 :: x37 :: x38 :: x39 :: x40 :: x41 :: x42 :: []), .box [.pv (.lst rows)] :: h⟩ →
 jm (ah (aq (aa Ph al) ah fU) σ) fun e σ' => e = .exit 0 ∧ ∃ (x0 x2 x5 x6 x7 x8 x9 x10 x11 x12 x13 x14 x15 x16 x17 x18 x19 x20 x21 x22 x23 x24 x25 x26 x27 x28 x29 x30 x31 x32 x33 x34 x35 x36 x37 x38 x39 x40 x41 x42 : V) (h' : List AObj), σ' = ⟨(x0 :: .one (.ptr 0 0 0) :: x2 :: ae .i64 ((rows.drop k).foldl (NO) acc) :: ae .i64 (rows.length : Nat) :: x5 :: x6 :: x7 :: x8 :: x9 :: x10 :: x11 :: x12 :: x13 :: x14 :: x15 :: x16 :: x17 :: x18 :: x19 :: x20 :: x21 :: x22 :: x23 :: x24 :: x25 :: x26 :: x27 :: x28 :: x29 :: x30 :: x31 :: x32 :: x33 :: x34 :: x35 :: x36 :: x37 :: x38 :: x39 :: x40 :: x41 :: x42 :: []), .box [.pv (.lst rows)] :: h'⟩ := by
 generalize hF : aq (aa Ph al) ah fU = F
 intro m
 induction m with
 | zero =>
  intro k i hi hk acc x0 x2 x5 x6 x7 x8 x9 x10 x11 x12 x13 x14 x15 x16 x17 x18 x19 x20 x21 x22 x23 x24 x25 x26 x27 x28 x29 x30 x31 x32 x33 x34 x35 x36 x37 x38 x39 x40 x41 x42 h σ hσ
  subst hi hσ
  have hk' : k = rows.length := by omega
  subst hk'
  rw [aG hF]
  simp (maxSteps := 4000000) [fU, bD]
 | succ m ih =>
  intro k i hi hk acc x0 x2 x5 x6 x7 x8 x9 x10 x11 x12 x13 x14 x15 x16 x17 x18 x19 x20 x21 x22 x23 x24 x25 x26 x27 x28 x29 x30 x31 x32 x33 x34 x35 x36 x37 x38 x39 x40 x41 x42 h σ hσ
  subst hi hσ
  have hlt : k < rows.length := by omega
  have hw := ag (k := k) (by unfold maxLen at hl; omega)
  obtain ⟨n, es, hrk, hes⟩ := jN (hr _ (List.getElem_mem hlt))
  obtain ⟨hle, hre⟩ := aD hes
  have hs : NO acc rows[k] = es.foldl K0 acc := by rw [hrk]; rfl
  have key := ih (k + 1) ((k : Int) + 1) (by omega) (by omega) (es.foldl K0 acc)
  clear ih
  rw [List.drop_eq_getElem_cons hlt, List.foldl_cons, hs]
  generalize hB : (rows.drop (k + 1)).foldl (NO) (es.foldl K0 acc) = B at key ⊢
  rw [aG hF]
  have LP := OF (rows := rows) (ci := k) (cn := n) hle hre hlt hrk es.length 0 0 rfl (by omega) acc
  simp only [List.drop_zero] at LP
  generalize hG : aq (aa Ph al) ah fb = G at LP
  simp [fU, hlt, hrk, hG]
  generalize hσ : St.mk _ _ = σ0
  obtain ⟨e, σ', q1, rfl, x0, x2, x6, x7, x8, x9, x10, x11, x12, x13, x14, x15, x16, x17, x18, x19, x20, x21, x22, x23, x24, x25, x26, x27, x28, x29, x30, x31, x32, x33, x34, x35, x36, x37, x38, x39, x40, x41, x42, h', rfl⟩ := (LP _ _ _ _ _ _ _ _ _ _ _ _ _ _ _ _ _ _ _ _ _ _ _ _ _ _ _ _ _ _ _ _ _ _ _ _ _ _ _ _ σ0 hσ.symm).get
  rw [q1]
  simp [hw]
  exact key _ _ _ _ _ _ _ _ _ _ _ _ _ _ _ _ _ _ _ _ _ _ _ _ _ _ _ _ _ _ _ _ _ _ _ _ _ _ _ _ _ _ rfl
theorem wd {rows : List (List PV)} (h : bR (.lst dK) (.lst rows)) : aa Ph al 192 [.agg [.pv (.lst rows)]] = some (ae .i64 (rows.foldl NO 0)) := by
 obtain ⟨hl, hr⟩ := aD h
 refine aH (fn := mN) rfl ?_
 have LP := NQ hl hr rows.length 0 0 rfl (by omega) 0
 simp only [List.drop_zero] at LP
 generalize hF : aq (aa Ph al) ah fU = F at LP
 simp [mN, hF]
 generalize hσ : St.mk _ _ = σ0
 obtain ⟨e, σ', q1, rfl, x0, x2, x5, x6, x7, x8, x9, x10, x11, x12, x13, x14, x15, x16, x17, x18, x19, x20, x21, x22, x23, x24, x25, x26, x27, x28, x29, x30, x31, x32, x33, x34, x35, x36, x37, x38, x39, x40, x41, x42, h', rfl⟩ := (LP _ _ _ _ _ _ _ _ _ _ _ _ _ _ _ _ _ _ _ _ _ _ _ _ _ _ _ _ _ _ _ _ _ _ _ _ _ _ _ _ _ σ0 hσ.symm).get
 rw [q1]
 simp
def qI (d6 d9 d11 d14 d19 : List (List PV)) : Int := IntKind.i64.wrap (IntKind.i64.wrap (IntKind.i64.wrap (d6.foldl NO 0 + IntKind.i64.wrap (d9.foldl LD 0 + (d11.length : Int))) + d14.foldl HX 0) + IntKind.i64.wrap (40 * (d19.length : Int)))
theorem sQ {d0 : List UInt8} {d1 : List UInt8} {d2 : List UInt8} {d3 : Int} {d4 : Int} {d5 : Int} {d6 : List (List PV)} {d7 : List UInt8} {d8 : Int} {d9 : List (List PV)} {d10 : List (List PV)} {d11 : List (List PV)} {d12 : Int} {d13 : List UInt8} {d14 : List (List PV)} {d15 : Int} {d16 : Int} {d17 : Int} {d18 : Int} {d19 : List (List PV)} {d20 : Int} {d21 : Int} {d22 : Int} {d23 : Bool} (h6 : bR (.lst dK) (.lst d6)) (h9 : bR (.lst gM) (.lst d9)) (h14 : bR (.lst fO) (.lst d14)) : aa Ph al 162 [.agg [.pv (.str d0), .pv (.str d1), .pv (.str d2), .pv (.int .i64 d3), .pv (.int .i64 d4), .pv (.int .i64 d5), .pv (.lst d6), .pv (.str d7), .pv (.int .i64 d8), .pv (.lst d9), .pv (.lst d10), .pv (.lst d11), .pv (.int .i64 d12), .pv (.str d13), .pv (.lst d14), .pv (.int .i64 d15), .pv (.int .i64 d16), .pv (.int .i64 d17), .pv (.int .i64 d18), .pv (.lst d19), .pv (.int .i64 d20), .pv (.int .i64 d21), .pv (.int .i64 d22), .pv (.bool d23)]] = some (ae .i64 (qI d6 d9 d11 d14 d19)) := by
 have e1 := vK h6
 have e2 := za (nm := d7) (nx := d8) (ix := d10) (lg := d11) (sy := d12) h9
 have e3 := p4 (nm := d13) (nx := d15) h14
 refine aH (fn := pg) rfl ?_
 simp [pg, e1, e2, e3, qI]
theorem sX {d0 : List UInt8} {d1 : List UInt8} {d2 : List UInt8} {d3 : Int} {d4 : Int} {d5 : Int} {d6 : List (List PV)} {d7 : List UInt8} {d8 : Int} {d9 : List (List PV)} {d10 : List (List PV)} {d11 : List (List PV)} {d12 : Int} {d13 : List UInt8} {d14 : List (List PV)} {d15 : Int} {d16 : Int} {d17 : Int} {d18 : Int} {d19 : List (List PV)} {d20 : Int} {d21 : Int} {d22 : Int} {d23 : Bool} (h6 : bR (.lst dK) (.lst d6)) (h9 : bR (.lst gM) (.lst d9)) (h14 : bR (.lst fO) (.lst d14)) : aa Ph al 161 [.agg [.pv (.str d0), .pv (.str d1), .pv (.str d2), .pv (.int .i64 d3), .pv (.int .i64 d4), .pv (.int .i64 d5), .pv (.lst d6), .pv (.str d7), .pv (.int .i64 d8), .pv (.lst d9), .pv (.lst d10), .pv (.lst d11), .pv (.int .i64 d12), .pv (.str d13), .pv (.lst d14), .pv (.int .i64 d15), .pv (.int .i64 d16), .pv (.int .i64 d17), .pv (.int .i64 d18), .pv (.lst d19), .pv (.int .i64 d20), .pv (.int .i64 d21), .pv (.int .i64 d22), .pv (.bool d23)]] = some (ae .i64 (qI d6 d9 d11 d14 d19)) := by
 have e1 := wd h6
 have e2 := zy (nm := d7) (nx := d8) (ix := d10) (lg := d11) (sy := d12) h9
 have e3 := qd (nm := d13) (nx := d15) h14
 refine aH (fn := pw) rfl ?_
 simp [pw, e1, e2, e3, qI]
end Gi
namespace Gi
open Go Go.RowKit
set_option maxHeartbeats 8000000
set_option maxRecDepth 4000
attribute [local simp] bW am bg bt cF dN Opd.ev put V.cells plain bz hJ isInt isStr isBool bin bf aS aR un asList L.view aB V.view viewL bC aC aT cj comp bq bZ bK a9 aK aI aJ aQ aE ba ar aM aA av aO aN aL aP thawT bB bw cd bG bA bz V.flat L.flat dX dJ bS putAt thaw thawL freezeVs freezeLs freezeL V.mut L.mut bm aZ wp_seq wp_block bE wp_cond wp_skip wp_exit wp_ret cN cE cK cH cS cT cR cq bj L.notArr aY aW aX bH bI
def M5 (b : XBucket) : Int := qI (b.caches.caches.map XCache.e) (b.disk.base.stores.map XStore.e) (aU b.disk.log) (b.replica.base.items.map XItem.e) (b.replica.sync.outbox.writes.map XWrite.e)
def nF (b : XBucket) : Bool := bF b.site && (bF b.top && (vR b.reg && ((b.reg.site == b.site) && (qY b.caches && (nY b.disk.base && (sd b.replica && (rg b.lastUsed 0 1000000000000 && decide (M5 b ≤ 2500))))))))
def xk (a b : XBucket) : Bool := Op.bytesLess a.site b.site || ((a.site == b.site) && Op.bytesLess a.top b.top)
def II : List XBucket → Nat → Bool := Da (fun b => !(nF b)) (fun y x => !(xk y x))
def lP (bs : List XBucket) : Bool := !((List.range bs.length).any (II bs)) && decide ((bs.length : Int) ≤ 9)
section
variable {B : Nat}
theorem Co (hB : B ≤ maxLen) {b : XBucket} (h : b.Ok B) : aa Ph al 162 [.agg [.pv (.str b.site), .pv (.str b.top), .pv (.str b.reg.site), .pv (.int .i64 b.reg.installing), .pv (.int .i64 b.reg.waiting), .pv (.int .i64 b.reg.active), .pv (.lst (b.caches.caches.map XCache.e)), .pv (.str b.disk.base.name), .pv (.int .i64 b.disk.base.version), .pv (.lst (b.disk.base.stores.map XStore.e)), .pv (.lst (b.disk.base.unique.map XIndexDef.e)), .pv (.lst (aU b.disk.log)), .pv (.int .i64 b.disk.count), .pv (.str b.replica.base.name), .pv (.lst (b.replica.base.items.map XItem.e)), .pv (.int .i64 b.replica.base.auto), .pv (.int .i64 b.replica.seen), .pv (.int .i64 b.replica.sync.outbox.dev), .pv (.int .i64 b.replica.sync.outbox.next), .pv (.lst (b.replica.sync.outbox.writes.map XWrite.e)), .pv (.int .i64 b.replica.sync.tries), .pv (.int .i64 b.replica.sync.wait), .pv (.int .i64 b.lastUsed), .pv (.bool b.persistent)]] = some (ae .i64 (M5 b)) :=
 sQ (bY (fun _ q => XCache.has hB q) hB h.2.2.2.1) (bY (fun _ q => XStore.has hB q) hB h.2.2.2.2.1.1.2.2.1) (bY (fun _ q => XItem.has hB q) hB h.2.2.2.2.2.1.1.2.1)
theorem yV (hB1 : B ≤ 1048576) {b : XBucket} (h : b.Ok B) : aa Ph al 387 [.agg [.pv (.str b.site), .pv (.str b.top), .pv (.str b.reg.site), .pv (.int .i64 b.reg.installing), .pv (.int .i64 b.reg.waiting), .pv (.int .i64 b.reg.active), .pv (.lst (b.caches.caches.map XCache.e)), .pv (.str b.disk.base.name), .pv (.int .i64 b.disk.base.version), .pv (.lst (b.disk.base.stores.map XStore.e)), .pv (.lst (b.disk.base.unique.map XIndexDef.e)), .pv (.lst (aU b.disk.log)), .pv (.int .i64 b.disk.count), .pv (.str b.replica.base.name), .pv (.lst (b.replica.base.items.map XItem.e)), .pv (.int .i64 b.replica.base.auto), .pv (.int .i64 b.replica.seen), .pv (.int .i64 b.replica.sync.outbox.dev), .pv (.int .i64 b.replica.sync.outbox.next), .pv (.lst (b.replica.sync.outbox.writes.map XWrite.e)), .pv (.int .i64 b.replica.sync.tries), .pv (.int .i64 b.replica.sync.wait), .pv (.int .i64 b.lastUsed), .pv (.bool b.persistent)]] = some (aj (nF b)) := by
 have hB := (show B ≤ maxLen by unfold maxLen; omega)
 have e1 := cQ (Nat.le_trans h.1 hB)
 have e2 := cQ (Nat.le_trans h.2.1 hB)
 have e3 := r9 hB h.2.2.1
 have e5 := vH hB h.2.2.2.1
 have e6 := vI hB1 h.2.2.2.2.1.1
 have e7 := xd hB h.2.2.2.2.2.1
 have e8 := gG b.lastUsed 0 1000000000000
 have e9 := Co hB h
 refine aw (fn := dY) rfl ?_
 unfold nF
 generalize bF b.site = b1 at e1 ⊢
 generalize bF b.top = b2 at e2 ⊢
 generalize vR b.reg = b3 at e3 ⊢
 generalize hN : (b.reg.site == b.site) = b4
 generalize qY b.caches = b5 at e5 ⊢
 generalize nY b.disk.base = b6 at e6 ⊢
 generalize sd b.replica = b7 at e7 ⊢
 generalize rg b.lastUsed 0 1000000000000 = b8 at e8 ⊢
 generalize M5 b = U at e9 ⊢
 cases b1
 ·simp [dY, e1, e2, e3, hN, e5, e6, e7, e8, e9]
 cases b2
 ·simp [dY, e1, e2, e3, hN, e5, e6, e7, e8, e9]
 cases b3
 ·simp [dY, e1, e2, e3, hN, e5, e6, e7, e8, e9]
 cases b4
 ·simp [dY, e1, e2, e3, hN, e5, e6, e7, e8, e9]
 cases b5
 ·simp [dY, e1, e2, e3, hN, e5, e6, e7, e8, e9]
 cases b6
 ·simp [dY, e1, e2, e3, hN, e5, e6, e7, e8, e9]
 cases b7
 ·simp [dY, e1, e2, e3, hN, e5, e6, e7, e8, e9]
 cases b8
 ·simp [dY, e1, e2, e3, hN, e5, e6, e7, e8, e9]
 by_cases q1 : U ≤ 2500
 rotate_left
 ·simp [dY, e1, e2, e3, hN, e5, e6, e7, e8, e9, q1]
 simp [dY, e1, e2, e3, hN, e5, e6, e7, e8, e9, q1]
theorem nX (a b : XBucket) : aa Ph al 388 [.agg [.pv (.str a.site), .pv (.str a.top), .pv (.str a.reg.site), .pv (.int .i64 a.reg.installing), .pv (.int .i64 a.reg.waiting), .pv (.int .i64 a.reg.active), .pv (.lst (a.caches.caches.map XCache.e)), .pv (.str a.disk.base.name), .pv (.int .i64 a.disk.base.version), .pv (.lst (a.disk.base.stores.map XStore.e)), .pv (.lst (a.disk.base.unique.map XIndexDef.e)), .pv (.lst (aU a.disk.log)), .pv (.int .i64 a.disk.count), .pv (.str a.replica.base.name), .pv (.lst (a.replica.base.items.map XItem.e)), .pv (.int .i64 a.replica.base.auto), .pv (.int .i64 a.replica.seen), .pv (.int .i64 a.replica.sync.outbox.dev), .pv (.int .i64 a.replica.sync.outbox.next), .pv (.lst (a.replica.sync.outbox.writes.map XWrite.e)), .pv (.int .i64 a.replica.sync.tries), .pv (.int .i64 a.replica.sync.wait), .pv (.int .i64 a.lastUsed), .pv (.bool a.persistent)], .agg [.pv (.str b.site), .pv (.str b.top), .pv (.str b.reg.site), .pv (.int .i64 b.reg.installing), .pv (.int .i64 b.reg.waiting), .pv (.int .i64 b.reg.active), .pv (.lst (b.caches.caches.map XCache.e)), .pv (.str b.disk.base.name), .pv (.int .i64 b.disk.base.version), .pv (.lst (b.disk.base.stores.map XStore.e)), .pv (.lst (b.disk.base.unique.map XIndexDef.e)), .pv (.lst (aU b.disk.log)), .pv (.int .i64 b.disk.count), .pv (.str b.replica.base.name), .pv (.lst (b.replica.base.items.map XItem.e)), .pv (.int .i64 b.replica.base.auto), .pv (.int .i64 b.replica.seen), .pv (.int .i64 b.replica.sync.outbox.dev), .pv (.int .i64 b.replica.sync.outbox.next), .pv (.lst (b.replica.sync.outbox.writes.map XWrite.e)), .pv (.int .i64 b.replica.sync.tries), .pv (.int .i64 b.replica.sync.wait), .pv (.int .i64 b.lastUsed), .pv (.bool b.persistent)]] = some (aj (xk a b)) := by
 have l1 : fE .lss a.site b.site = some (aj (Op.bytesLess a.site b.site)) := rfl
 have l2 : fE .lss a.top b.top = some (aj (Op.bytesLess a.top b.top)) := rfl
 refine aw (fn := kX) rfl ?_
 unfold xk
 generalize Op.bytesLess a.site b.site = c1 at l1 ⊢
 generalize Op.bytesLess a.top b.top = c2 at l2 ⊢
 generalize hN : (a.site == b.site) = N
 cases c1 <;> cases N <;> cases c2 <;> simp [kX, ↓l1, ↓l2, hN]
theorem CN (hB : B ≤ maxLen) {b : XBucket} (h : b.Ok B) : aa Ph al 161 [.agg [.pv (.str b.site), .pv (.str b.top), .pv (.str b.reg.site), .pv (.int .i64 b.reg.installing), .pv (.int .i64 b.reg.waiting), .pv (.int .i64 b.reg.active), .pv (.lst (b.caches.caches.map XCache.e)), .pv (.str b.disk.base.name), .pv (.int .i64 b.disk.base.version), .pv (.lst (b.disk.base.stores.map XStore.e)), .pv (.lst (b.disk.base.unique.map XIndexDef.e)), .pv (.lst (aU b.disk.log)), .pv (.int .i64 b.disk.count), .pv (.str b.replica.base.name), .pv (.lst (b.replica.base.items.map XItem.e)), .pv (.int .i64 b.replica.base.auto), .pv (.int .i64 b.replica.seen), .pv (.int .i64 b.replica.sync.outbox.dev), .pv (.int .i64 b.replica.sync.outbox.next), .pv (.lst (b.replica.sync.outbox.writes.map XWrite.e)), .pv (.int .i64 b.replica.sync.tries), .pv (.int .i64 b.replica.sync.wait), .pv (.int .i64 b.lastUsed), .pv (.bool b.persistent)]] = some (ae .i64 (M5 b)) :=
 sX (bY (fun _ q => XCache.has hB q) hB h.2.2.2.1) (bY (fun _ q => XStore.has hB q) hB h.2.2.2.2.1.1.2.2.1) (bY (fun _ q => XItem.has hB q) hB h.2.2.2.2.2.1.1.2.1)
theorem zt (hB1 : B ≤ 1048576) {b : XBucket} (h : b.Ok B) : aa Ph al 384 [.agg [.pv (.str b.site), .pv (.str b.top), .pv (.str b.reg.site), .pv (.int .i64 b.reg.installing), .pv (.int .i64 b.reg.waiting), .pv (.int .i64 b.reg.active), .pv (.lst (b.caches.caches.map XCache.e)), .pv (.str b.disk.base.name), .pv (.int .i64 b.disk.base.version), .pv (.lst (b.disk.base.stores.map XStore.e)), .pv (.lst (b.disk.base.unique.map XIndexDef.e)), .pv (.lst (aU b.disk.log)), .pv (.int .i64 b.disk.count), .pv (.str b.replica.base.name), .pv (.lst (b.replica.base.items.map XItem.e)), .pv (.int .i64 b.replica.base.auto), .pv (.int .i64 b.replica.seen), .pv (.int .i64 b.replica.sync.outbox.dev), .pv (.int .i64 b.replica.sync.outbox.next), .pv (.lst (b.replica.sync.outbox.writes.map XWrite.e)), .pv (.int .i64 b.replica.sync.tries), .pv (.int .i64 b.replica.sync.wait), .pv (.int .i64 b.lastUsed), .pv (.bool b.persistent)]] = some (aj (nF b)) := by
 have hB := (show B ≤ maxLen by unfold maxLen; omega)
 have e1 := di (Nat.le_trans h.1 hB)
 have e2 := di (Nat.le_trans h.2.1 hB)
 have e3 := sm hB h.2.2.1
 have e5 := v9 hB h.2.2.2.1
 have e6 := wa hB1 h.2.2.2.2.1.1
 have e7 := xG hB h.2.2.2.2.2.1
 have e8 := gH b.lastUsed 0 1000000000000
 have e9 := CN hB h
 refine aw (fn := dZ) rfl ?_
 unfold nF
 generalize bF b.site = b1 at e1 ⊢
 generalize bF b.top = b2 at e2 ⊢
 generalize vR b.reg = b3 at e3 ⊢
 generalize hN : (b.reg.site == b.site) = b4
 generalize qY b.caches = b5 at e5 ⊢
 generalize nY b.disk.base = b6 at e6 ⊢
 generalize sd b.replica = b7 at e7 ⊢
 generalize rg b.lastUsed 0 1000000000000 = b8 at e8 ⊢
 generalize M5 b = U at e9 ⊢
 cases b1
 ·simp [dZ, e1, e2, e3, hN, e5, e6, e7, e8, e9]
 cases b2
 ·simp [dZ, e1, e2, e3, hN, e5, e6, e7, e8, e9]
 cases b3
 ·simp [dZ, e1, e2, e3, hN, e5, e6, e7, e8, e9]
 cases b4
 ·simp [dZ, e1, e2, e3, hN, e5, e6, e7, e8, e9]
 cases b5
 ·simp [dZ, e1, e2, e3, hN, e5, e6, e7, e8, e9]
 cases b6
 ·simp [dZ, e1, e2, e3, hN, e5, e6, e7, e8, e9]
 cases b7
 ·simp [dZ, e1, e2, e3, hN, e5, e6, e7, e8, e9]
 cases b8
 ·simp [dZ, e1, e2, e3, hN, e5, e6, e7, e8, e9]
 by_cases q1 : U ≤ 2500
 rotate_left
 ·simp [dZ, e1, e2, e3, hN, e5, e6, e7, e8, e9, q1]
 simp [dZ, e1, e2, e3, hN, e5, e6, e7, e8, e9, q1]
theorem sY (a : XBucket) (s t : List UInt8) : aa Ph al 385 [.agg [.pv (.str a.site), .pv (.str a.top), .pv (.str a.reg.site), .pv (.int .i64 a.reg.installing), .pv (.int .i64 a.reg.waiting), .pv (.int .i64 a.reg.active), .pv (.lst (a.caches.caches.map XCache.e)), .pv (.str a.disk.base.name), .pv (.int .i64 a.disk.base.version), .pv (.lst (a.disk.base.stores.map XStore.e)), .pv (.lst (a.disk.base.unique.map XIndexDef.e)), .pv (.lst (aU a.disk.log)), .pv (.int .i64 a.disk.count), .pv (.str a.replica.base.name), .pv (.lst (a.replica.base.items.map XItem.e)), .pv (.int .i64 a.replica.base.auto), .pv (.int .i64 a.replica.seen), .pv (.int .i64 a.replica.sync.outbox.dev), .pv (.int .i64 a.replica.sync.outbox.next), .pv (.lst (a.replica.sync.outbox.writes.map XWrite.e)), .pv (.int .i64 a.replica.sync.tries), .pv (.int .i64 a.replica.sync.wait), .pv (.int .i64 a.lastUsed), .pv (.bool a.persistent)], eX s, eX t] = some (aj (Op.bytesLess a.site s || ((a.site == s) && Op.bytesLess a.top t))) := by
 have l1 : fE .lss a.site s = some (aj (Op.bytesLess a.site s)) := rfl
 have l2 : fE .lss a.top t = some (aj (Op.bytesLess a.top t)) := rfl
 refine aw (fn := pz) rfl ?_
 generalize Op.bytesLess a.site s = c1 at l1 ⊢
 generalize Op.bytesLess a.top t = c2 at l2 ⊢
 generalize hN : (a.site == s) = N
 cases c1 <;> cases N <;> cases c2 <;> simp [pz, ↓l1, ↓l2, hN]
end
end Gi
