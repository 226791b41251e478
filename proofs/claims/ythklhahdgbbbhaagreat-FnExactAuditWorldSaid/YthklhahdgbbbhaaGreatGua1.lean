/- Of this proof. -/
import Derived.Test.YthklhahdgbbbhaaGreatGtw
set_option linter.unusedSimpArgs false
namespace Gi
open Go Go.RowKit
set_option maxHeartbeats 2000000
attribute [local simp] bW eM aq am bg bt cF dN Opd.ev put V.cells plain bz hJ isInt isStr isBool bin bf aS aR un asList L.view aB V.view viewL done bC aC aT cj comp bq bZ a8 V.flat L.flat dX dJ bS putAt thaw thawL freezeVs freezeLs freezeL V.mut L.mut bm aZ
theorem mj {r : List PV} (h : be dm r) : ∃ (c0 : List UInt8) (c1 : List UInt8) (c2 : List UInt8) (c3 : Int) (c4 : Int) (c5 : Int) (c6 : List (List PV)) (c7 : List UInt8) (c8 : Int) (c9 : List (List PV)) (c10 : List (List PV)) (c11 : List (List PV)) (c12 : Int) (c13 : List UInt8) (c14 : List (List PV)) (c15 : Int) (c16 : Int) (c17 : Int) (c18 : Int) (c19 : List (List PV)) (c20 : Int) (c21 : Int) (c22 : Int) (c23 : Bool), r = [.str c0, .str c1, .str c2, .int .i64 c3, .int .i64 c4, .int .i64 c5, .lst c6, .str c7, .int .i64 c8, .lst c9, .lst c10, .lst c11, .int .i64 c12, .str c13, .lst c14, .int .i64 c15, .int .i64 c16, .int .i64 c17, .int .i64 c18, .lst c19, .int .i64 c20, .int .i64 c21, .int .i64 c22, .bool c23] ∧ bR (.str) (.str c0) ∧ bR (.str) (.str c1) ∧ bR (.str) (.str c2) ∧ bR (.int .i64) (.int .i64 c3) ∧ bR (.int .i64) (.int .i64 c4) ∧ bR (.int .i64) (.int .i64 c5) ∧ bR (.lst dK) (.lst c6) ∧ bR (.str) (.str c7) ∧ bR (.int .i64) (.int .i64 c8) ∧ bR (.lst gM) (.lst c9) ∧ bR (.lst jc) (.lst c10) ∧ bR (.lst jb) (.lst c11) ∧ bR (.int .i64) (.int .i64 c12) ∧ bR (.str) (.str c13) ∧ bR (.lst fO) (.lst c14) ∧ bR (.int .i64) (.int .i64 c15) ∧ bR (.int .i64) (.int .i64 c16) ∧ bR (.int .i64) (.int .i64 c17) ∧ bR (.int .i64) (.int .i64 c18) ∧ bR (.lst fP) (.lst c19) ∧ bR (.int .i64) (.int .i64 c20) ∧ bR (.int .i64) (.int .i64 c21) ∧ bR (.int .i64) (.int .i64 c22) ∧ bR (.bool) (.bool c23) := by
 obtain ⟨⟨c0, c1, c2, c3, c4, c5, c6, c7, c8, c9, c10, c11, c12, c13, c14, c15, c16, c17, c18, c19, c20, c21, c22, c23, _⟩, rfl, g0, g1, g2, g3, g4, g5, g6, g7, g8, g9, g10, g11, g12, g13, g14, g15, g16, g17, g18, g19, g20, g21, g22, g23, _⟩ := cf h
 exact ⟨c0, c1, c2, c3, c4, c5, c6, c7, c8, c9, c10, c11, c12, c13, c14, c15, c16, c17, c18, c19, c20, c21, c22, c23, rfl, g0, g1, g2, g3, g4, g5, g6, g7, g8, g9, g10, g11, g12, g13, g14, g15, g16, g17, g18, g19, g20, g21, g22, g23⟩
theorem MG {rows : List (List PV)} {s t : List UInt8} (hl : rows.length ≤ maxLen) (hr : ∀ r ∈ rows, be dm r) : ∀ (m k : Nat) (i : Int), i = k → k + m = rows.length → ∀ (x0 x4 x5 x6 x8 x9 x10 x11 x12 x13 x14 x15 x16 x17 x18 x19 x20 x21 x22 x23 x24 x25 x26 x27 x28 x29 x30 x31 x32 x33 : V),
 jm (ah (aq (aa Ph al) ah dp) ⟨(x0 :: eX s :: eX t :: .one (.ptr 0 0 0) :: x4 :: x5 :: x6 :: ae .i64 i :: x8 :: x9 :: x10 :: x11 :: x12 :: x13 :: x14 :: x15 :: x16 :: x17 :: x18 :: x19 :: x20 :: x21 :: x22 :: x23 :: x24 :: x25 :: x26 :: x27 :: x28 :: x29 :: x30 :: x31 :: x32 :: x33 :: []), [.box [.pv (.lst rows)]]⟩) fun e σ' =>
  σ'.t.length = 34 ∧ ((e = .exit 0 ∧ bN (Ln s t) (rows.drop k) k = -1) ∨ (e = .ret ∧ σ'.t[6]? = some (ae .i64 (bN (Ln s t) (rows.drop k) k)))) := by
 generalize hF : aq (aa Ph al) ah dp = F
 intro m
 induction m with
 | zero =>
  intro k i hi hk x0 x4 x5 x6 x8 x9 x10 x11 x12 x13 x14 x15 x16 x17 x18 x19 x20 x21 x22 x23 x24 x25 x26 x27 x28 x29 x30 x31 x32 x33
  subst hi
  have hk' : k = rows.length := by omega
  subst hk'
  rw [aG hF]
  simp [dp, bN, bD]
 | succ m ih =>
  intro k i hi hk x0 x4 x5 x6 x8 x9 x10 x11 x12 x13 x14 x15 x16 x17 x18 x19 x20 x21 x22 x23 x24 x25 x26 x27 x28 x29 x30 x31 x32 x33
  subst hi
  have hlt : k < rows.length := by omega
  have hw := ag (k := k) (by unfold maxLen at hl; omega)
  obtain ⟨a, b, rest, hrk, hrl⟩ := zF (hr _ (List.getElem_mem hlt))
  have key := ih (k + 1) ((k : Int) + 1) (by omega) (by omega)
  clear ih
  rw [List.drop_eq_getElem_cons hlt, hrk]
  simp only [bN, Ln]
  rw [aG hF]
  cases h1 : (a == s) <;> cases h2 : (b == t)
  ·simp [dp, hlt, hrk, hrl, hw, h1, h2]
   exact key _ _ _ _ _ _ _ _ _ _ _ _ _ _ _ _ _ _ _ _ _ _ _ _ _ _ _ _ _ _
  ·simp [dp, hlt, hrk, hrl, hw, h1, h2]
   exact key _ _ _ _ _ _ _ _ _ _ _ _ _ _ _ _ _ _ _ _ _ _ _ _ _ _ _ _ _ _
  ·simp [dp, hlt, hrk, hrl, hw, h1, h2]
   exact key _ _ _ _ _ _ _ _ _ _ _ _ _ _ _ _ _ _ _ _ _ _ _ _ _ _ _ _ _ _
  ·simp [dp, hlt, hrk, hrl, hw, h1, h2, bD]
theorem pJ {rows : List (List PV)} (h : bR (.lst dm) (.lst rows)) (s t : List UInt8) : aa Ph al 145 [.agg [.pv (.lst rows)], eX s, eX t] = some (ae .i64 (bN (Ln s t) rows 0)) := by
 obtain ⟨hl, hr⟩ := aD h
 refine aH (fn := j5) rfl ?_
 obtain ⟨e, ⟨t', h'⟩, q1, q5, q3⟩ := (MG (s := s) (t := t) hl hr rows.length 0 0 rfl (by omega) (.agg [.pv (.lst rows)]) (.tup []) (.tup []) (ae .i64 0) (.tup []) (.tup []) (.tup []) (.tup []) (.tup []) (.tup []) (.tup []) (.tup []) (.tup []) (.tup []) (.tup []) (.tup []) (.tup []) (.tup []) (.tup []) (.tup []) (.tup []) (.tup []) (.tup []) (.tup []) (.tup []) (.tup []) (.tup []) (.tup []) (.tup []) (.tup [])).get
 simp only [List.drop_zero] at q3
 simp at q5
 generalize hF : aq (aa Ph al) ah dp = F at q1
 rcases q3 with ⟨rfl, q4⟩ | ⟨rfl, q4⟩
 ·rw [q4]
  simp [j5, hF, q1, q5]
 ·obtain ⟨_, q7⟩ := List.getElem?_eq_some_iff.1 q4
  simp [j5, hF, q1, q5, q7]
def Na : List L := [(.pv (.str [])), (.pv (.str [])), (.pv (.str [])), (.pv (.int .i64 0)), (.pv (.int .i64 0)), (.pv (.int .i64 0)), .nil, (.pv (.str [])), (.pv (.int .i64 0)), .nil, .nil, .nil, (.pv (.int .i64 0)), (.pv (.str [])), .nil, (.pv (.int .i64 0)), (.pv (.int .i64 0)), (.pv (.int .i64 0)), (.pv (.int .i64 0)), .nil, (.pv (.int .i64 0)), (.pv (.int .i64 0)), (.pv (.int .i64 0)), (.pv (.bool false))]
theorem vN {c0 : Int} {c1 : Bool} {c2 : Int} {c3 c4 : List (List PV)} {c5 : Int} {c6 c7 c8 c9 : List (List PV)} (h3 : bR (.lst dm) (.lst c3)) {s t : List UInt8} (hn : bN (Ln s t) c3 0 < 0) : aa Ph al 146 [.agg [.pv (.int .i64 c0), .pv (.bool c1), .pv (.int .i64 c2), .pv (.lst c3), .pv (.lst c4), .pv (.int .i64 c5), .pv (.lst c6), .pv (.lst c7), .pv (.lst c8), .pv (.lst c9)], eX s, eX t] = some (.tup [(true, Na), (false, [.pv (.bool false)])]) := by
 have e1 := lO h3 s t
 refine aH (fn := jL) rfl ?_
 simp [jL, e1, hn, bB, Na]
theorem vO {c0 : Int} {c1 : Bool} {c2 : Int} {c3 c4 : List (List PV)} {c5 : Int} {c6 c7 c8 c9 : List (List PV)} (h3 : bR (.lst dm) (.lst c3)) {s t : List UInt8} {j : Nat} (hj : j < c3.length) (hn : bN (Ln s t) c3 0 = (j : Int)) : aa Ph al 146 [.agg [.pv (.int .i64 c0), .pv (.bool c1), .pv (.int .i64 c2), .pv (.lst c3), .pv (.lst c4), .pv (.int .i64 c5), .pv (.lst c6), .pv (.lst c7), .pv (.lst c8), .pv (.lst c9)], eX s, eX t] = some (.tup [(true, (c3[j]).map .pv), (false, [.pv (.bool true)])]) := by
 have e1 := lO h3 s t
 rw [hn] at e1
 obtain ⟨d0, d1, d2, d3, d4, d5, d6, d7, d8, d9, d10, d11, d12, d13, d14, d15, d16, d17, d18, d19, d20, d21, d22, d23, hd, _⟩ := mj ((aD h3).2 _ (List.getElem_mem hj))
 have hneg : ¬ (j : Int) < 0 := by omega
 refine aH (fn := jL) rfl ?_
 simp [jL, e1, hneg, hj, hd]
set_option maxHeartbeats 4000000
set_option maxRecDepth 4000
def NF (b : UInt8) : Bool := decide ((b.toNat : Int) < 97) || decide ((122 : Int) < b.toNat)
def bF (s : List UInt8) : Bool := !(s.any NF) && (decide (1 ≤ (s.length : Int)) && decide ((s.length : Int) ≤ 8))
theorem Me {s : List UInt8} (hl : s.length ≤ maxLen) : ∀ (m k : Nat) (i : Int), i = k → k + m = s.length → ∀ (x3 x4 x5 x6 x8 x9 x10 x11 x12 x13 x14 x15 x16 x17 x18 x19 x20 x21 x22 x23 x24 x25 x26 x27 x28 x29 x30 x31 x32 x33 x34 x35 x36 x37 : V),
 jm (ah (aq (aa Ph al) ah dg) ⟨(eX s :: ae .i64 8 :: aj false :: x3 :: x4 :: x5 :: x6 :: ae .i64 i :: x8 :: x9 :: x10 :: x11 :: x12 :: x13 :: x14 :: x15 :: x16 :: x17 :: x18 :: x19 :: x20 :: x21 :: x22 :: x23 :: x24 :: x25 :: x26 :: x27 :: x28 :: x29 :: x30 :: x31 :: x32 :: x33 :: x34 :: x35 :: x36 :: x37 :: []), []⟩) fun e σ' => (e = .exit 0 ∧ (s.drop k).any (NF) = false ∧ ∃ (x3 x4 x5 x6 x8 x9 x10 x11 x12 x13 x14 x15 x16 x17 x18 x19 x20 x21 x22 x23 x24 x25 x26 x27 x28 x29 x30 x31 x32 x33 x34 x35 x36 x37 : V), σ' = ⟨(eX s :: ae .i64 8 :: aj false :: x3 :: x4 :: x5 :: x6 :: ae .i64 (s.length : Nat) :: x8 :: x9 :: x10 :: x11 :: x12 :: x13 :: x14 :: x15 :: x16 :: x17 :: x18 :: x19 :: x20 :: x21 :: x22 :: x23 :: x24 :: x25 :: x26 :: x27 :: x28 :: x29 :: x30 :: x31 :: x32 :: x33 :: x34 :: x35 :: x36 :: x37 :: []), []⟩) ∨ (e = .ret ∧ (s.drop k).any (NF) = true ∧ σ'.t.length = 38 ∧ σ'.t[6]? = some (aj false)) := by
 generalize hF : aq (aa Ph al) ah dg = F
 intro m
 induction m with
 | zero =>
  intro k i hi hk x3 x4 x5 x6 x8 x9 x10 x11 x12 x13 x14 x15 x16 x17 x18 x19 x20 x21 x22 x23 x24 x25 x26 x27 x28 x29 x30 x31 x32 x33 x34 x35 x36 x37
  subst hi
  have hk' : k = s.length := by omega
  subst hk'
  rw [aG hF]
  simp (maxSteps := 4000000) [dg, bN, bD]
 | succ m ih =>
  intro k i hi hk x3 x4 x5 x6 x8 x9 x10 x11 x12 x13 x14 x15 x16 x17 x18 x19 x20 x21 x22 x23 x24 x25 x26 x27 x28 x29 x30 x31 x32 x33 x34 x35 x36 x37
  subst hi
  have hlt : k < s.length := by omega
  have hw := ag (k := k) (by unfold maxLen at hl; omega)
  have hnc : NF s[k] = (decide ((s[k].toNat : Int) < 97) || decide ((122 : Int) < s[k].toNat)) := rfl
  have key := ih (k + 1) ((k : Int) + 1) (by omega) (by omega)
  clear ih
  rw [List.drop_eq_getElem_cons hlt]
  rw [List.any_cons]
  generalize (s.drop (k + 1)).any (NF) = B at key ⊢
  rw [aG hF]
  rw [hnc]; by_cases c1 : (97 : Int) ≤ s[k].toNat <;> by_cases c2 : (s[k].toNat : Int) ≤ 122 <;> (have c3 : ((s[k].toNat : Int) < 97) ↔ ¬ ((97 : Int) ≤ s[k].toNat) := by omega) <;> (have c4 : ((122 : Int) < s[k].toNat) ↔ ¬ ((s[k].toNat : Int) ≤ 122) := by omega) <;>
   first
   | omega
   | (simp [dg, hlt, hw, c1, c2, c3, c4]
      exact key _ _ _ _ _ _ _ _ _ _ _ _ _ _ _ _ _ _ _ _ _ _ _ _ _ _ _ _ _ _ _ _ _ _)
   | (simp [dg, hlt, hw, c1, c2, c3, c4, bD]; done)
theorem cQ {s : List UInt8} (hl : s.length ≤ maxLen) : aa Ph al 178 [eX s] = some (aj (bF s)) := by
 have e1 : aa Ph al 213 [eX s, ae .i64 8, aj false] = some (aj (bF s)) := by
  refine aH (fn := jO) rfl ?_
  obtain ⟨e, σ', q1, q3⟩ := (Me hl s.length 0 0 rfl (by omega) (.tup []) (.tup []) (.tup []) (aj false) (.tup []) (.tup []) (.tup []) (.tup []) (.tup []) (.tup []) (.tup []) (.tup []) (.tup []) (.tup []) (.tup []) (.tup []) (.tup []) (.tup []) (.tup []) (.tup []) (.tup []) (.tup []) (.tup []) (.tup []) (.tup []) (.tup []) (.tup []) (.tup []) (.tup []) (.tup []) (.tup []) (.tup []) (.tup []) (.tup [])).get
  simp only [List.drop_zero] at q3
  have q6 := dz s.length 1 8
  generalize hF : aq (aa Ph al) ah dg = F at q1
  rcases q3 with ⟨rfl, q4, x3, x4, x5, x6, x8, x9, x10, x11, x12, x13, x14, x15, x16, x17, x18, x19, x20, x21, x22, x23, x24, x25, x26, x27, x28, x29, x30, x31, x32, x33, x34, x35, x36, x37, rfl⟩ | ⟨rfl, q4, q5, q7⟩
  ·simp [jO, hF, q1, q6, bF, q4]
  ·obtain ⟨_, q8⟩ := List.getElem?_eq_some_iff.1 q7
   simp [jO, hF, q1, q5, q8, bF, q4]
 refine aH (fn := qt) rfl ?_
 simp [qt, e1]
theorem MJ {s : List UInt8} (hl : s.length ≤ maxLen) : ∀ (m k : Nat) (i : Int), i = k → k + m = s.length → ∀ (x1 x2 x4 x5 x6 x7 x8 x9 x10 x11 x12 x13 x14 x15 x16 x17 x18 x19 x20 x21 x22 : V),
 jm (ah (aq (aa Ph al) ah gC) ⟨(eX s :: x1 :: x2 :: ae .i64 i :: x4 :: x5 :: x6 :: x7 :: x8 :: x9 :: x10 :: x11 :: x12 :: x13 :: x14 :: x15 :: x16 :: x17 :: x18 :: x19 :: x20 :: x21 :: x22 :: []), []⟩) fun e σ' => (e = .exit 0 ∧ (s.drop k).any (NF) = false ∧ ∃ (x1 x2 x4 x5 x6 x7 x8 x9 x10 x11 x12 x13 x14 x15 x16 x17 x18 x19 x20 x21 x22 : V), σ' = ⟨(eX s :: x1 :: x2 :: ae .i64 (s.length : Nat) :: x4 :: x5 :: x6 :: x7 :: x8 :: x9 :: x10 :: x11 :: x12 :: x13 :: x14 :: x15 :: x16 :: x17 :: x18 :: x19 :: x20 :: x21 :: x22 :: []), []⟩) ∨ (e = .ret ∧ (s.drop k).any (NF) = true ∧ σ'.t.length = 23 ∧ σ'.t[2]? = some (aj false)) := by
 generalize hF : aq (aa Ph al) ah gC = F
 intro m
 induction m with
 | zero =>
  intro k i hi hk x1 x2 x4 x5 x6 x7 x8 x9 x10 x11 x12 x13 x14 x15 x16 x17 x18 x19 x20 x21 x22
  subst hi
  have hk' : k = s.length := by omega
  subst hk'
  rw [aG hF]
  simp (maxSteps := 4000000) [gC, bN, bD]
 | succ m ih =>
  intro k i hi hk x1 x2 x4 x5 x6 x7 x8 x9 x10 x11 x12 x13 x14 x15 x16 x17 x18 x19 x20 x21 x22
  subst hi
  have hlt : k < s.length := by omega
  have hw := ag (k := k) (by unfold maxLen at hl; omega)
  have hnc : NF s[k] = (decide ((s[k].toNat : Int) < 97) || decide ((122 : Int) < s[k].toNat)) := rfl
  have key := ih (k + 1) ((k : Int) + 1) (by omega) (by omega)
  clear ih
  rw [List.drop_eq_getElem_cons hlt]
  rw [List.any_cons]
  generalize (s.drop (k + 1)).any (NF) = B at key ⊢
  rw [aG hF]
  rw [hnc]; by_cases c1 : (s[k].toNat : Int) < 97 <;> by_cases c2 : (122 : Int) < s[k].toNat <;>
   first
   | omega
   | (simp [gC, hlt, hw, c1, c2]
      exact key _ _ _ _ _ _ _ _ _ _ _ _ _ _ _ _ _ _ _ _ _)
   | (simp [gC, hlt, hw, c1, c2, bD]; done)
theorem di {s : List UInt8} (hl : s.length ≤ maxLen) : aa Ph al 177 [eX s] = some (aj (bF s)) := by
 refine aH (fn := nN) rfl ?_
 obtain ⟨e, σ', q1, q3⟩ := (MJ hl s.length 0 0 rfl (by omega) (.tup []) (aj false) (.tup []) (.tup []) (.tup []) (.tup []) (.tup []) (.tup []) (.tup []) (.tup []) (.tup []) (.tup []) (.tup []) (.tup []) (.tup []) (.tup []) (.tup []) (.tup []) (.tup []) (.tup []) (.tup [])).get
 simp only [List.drop_zero] at q3
 have q6 := fv s.length 1 8
 generalize hF : aq (aa Ph al) ah gC = F at q1
 rcases q3 with ⟨rfl, q4, x1, x2, x4, x5, x6, x7, x8, x9, x10, x11, x12, x13, x14, x15, x16, x17, x18, x19, x20, x21, x22, rfl⟩ | ⟨rfl, q4, q5, q7⟩
 ·simp [nN, hF, q1, q6, bF, q4]
 ·obtain ⟨_, q8⟩ := List.getElem?_eq_some_iff.1 q7
  simp [nN, hF, q1, q5, q8, bF, q4]
def ET (v : Int) : List PV → Bool
 | [.str a, .int _ n] => !(bF a) || (n != v)
 | _ => false
theorem CA {r : List PV} (h : be iV r) : ∃ a n, r = [.str a, .int .i64 n] ∧ a.length ≤ maxLen := by
 obtain ⟨⟨c0, c1, _⟩, rfl, g0, g1, _⟩ := cf h
 exact ⟨c0, c1, rfl, g0⟩
def tN (e0 : Int) (e1 e2 : List UInt8) (e3 : Int) (e4 : List (List PV)) : Bool :=
 !(e4.any (ET e3)) && (((((decide (1 ≤ e0) && decide (e0 ≤ 1000000000000)) && bF e1) && bF e2) && (decide (1 ≤ e3) && decide (e3 ≤ 1000000000000))) && decide ((e4.length : Int) ≤ 8))
theorem L4 {e0 : Int} {e1 e2 : List UInt8} {e3 : Int} {e4 e5 : List (List PV)} {e6 : Int} {e7 : List (List PV)} {e8 : Int} {e9 e10 : Bool} (hl : e4.length ≤ maxLen) (hr : ∀ r ∈ e4, be iV r) : ∀ (m k : Nat) (i : Int), i = k → k + m = e4.length → ∀ (x0 x2 x3 x4 x5 x9 x10 x11 x12 x13 x14 x15 x16 x17 x18 x19 x20 x21 x22 x23 x24 x25 x26 x27 x28 x29 x30 x31 x32 x33 x34 x35 x36 x37 x38 x39 x40 x41 x42 x43 x44 x45 x46 x47 : V) (h : List AObj),
 jm (ah (aq (aa Ph al) ah gB) ⟨(x0 :: .one (.ptr 0 0 0) :: x2 :: x3 :: x4 :: x5 :: bJ e4 :: ae .i64 e4.length :: ae .i64 i :: x9 :: x10 :: x11 :: x12 :: x13 :: x14 :: x15 :: x16 :: x17 :: x18 :: x19 :: x20 :: x21 :: x22 :: x23 :: x24 :: x25 :: x26 :: x27 :: x28 :: x29 :: x30 :: x31 :: x32 :: x33 :: x34 :: x35 :: x36 :: x37 :: x38 :: x39 :: x40 :: x41 :: x42 :: x43 :: x44 :: x45 :: x46 :: x47 :: []), .box [.pv (.int .i64 e0), .pv (.str e1), .pv (.str e2), .pv (.int .i64 e3), .pv (.lst e4), .pv (.lst e5), .pv (.int .i64 e6), .pv (.lst e7), .pv (.int .i64 e8), .pv (.bool e9), .pv (.bool e10)] :: h⟩) fun e σ' => (e = .exit 0 ∧ (e4.drop k).any (ET e3) = false ∧ ∃ (x0 x2 x3 x4 x5 x9 x10 x11 x12 x13 x14 x15 x16 x17 x18 x19 x20 x21 x22 x23 x24 x25 x26 x27 x28 x29 x30 x31 x32 x33 x34 x35 x36 x37 x38 x39 x40 x41 x42 x43 x44 x45 x46 x47 : V) (h' : List AObj), σ' = ⟨(x0 :: .one (.ptr 0 0 0) :: x2 :: x3 :: x4 :: x5 :: bJ e4 :: ae .i64 e4.length :: ae .i64 (e4.length : Nat) :: x9 :: x10 :: x11 :: x12 :: x13 :: x14 :: x15 :: x16 :: x17 :: x18 :: x19 :: x20 :: x21 :: x22 :: x23 :: x24 :: x25 :: x26 :: x27 :: x28 :: x29 :: x30 :: x31 :: x32 :: x33 :: x34 :: x35 :: x36 :: x37 :: x38 :: x39 :: x40 :: x41 :: x42 :: x43 :: x44 :: x45 :: x46 :: x47 :: []), .box [.pv (.int .i64 e0), .pv (.str e1), .pv (.str e2), .pv (.int .i64 e3), .pv (.lst e4), .pv (.lst e5), .pv (.int .i64 e6), .pv (.lst e7), .pv (.int .i64 e8), .pv (.bool e9), .pv (.bool e10)] :: h'⟩) ∨ (e = .ret ∧ (e4.drop k).any (ET e3) = true ∧ σ'.t.length = 48 ∧ σ'.t[2]? = some (aj false)) := by
 generalize hF : aq (aa Ph al) ah gB = F
 intro m
 induction m with
 | zero =>
  intro k i hi hk x0 x2 x3 x4 x5 x9 x10 x11 x12 x13 x14 x15 x16 x17 x18 x19 x20 x21 x22 x23 x24 x25 x26 x27 x28 x29 x30 x31 x32 x33 x34 x35 x36 x37 x38 x39 x40 x41 x42 x43 x44 x45 x46 x47 h
  subst hi
  have hk' : k = e4.length := by omega
  subst hk'
  rw [aG hF]
  simp (maxSteps := 4000000) [gB, bN, bD]
 | succ m ih =>
  intro k i hi hk x0 x2 x3 x4 x5 x9 x10 x11 x12 x13 x14 x15 x16 x17 x18 x19 x20 x21 x22 x23 x24 x25 x26 x27 x28 x29 x30 x31 x32 x33 x34 x35 x36 x37 x38 x39 x40 x41 x42 x43 x44 x45 x46 x47 h
  subst hi
  have hlt : k < e4.length := by omega
  have hw := ag (k := k) (by unfold maxLen at hl; omega)
  obtain ⟨a, n, hrk, ha⟩ := CA (hr _ (List.getElem_mem hlt))
  have e1' := cQ ha
  have hp : ET e3 e4[k] = (!(bF a) || (n != e3)) := by rw [hrk]; rfl
  have key := ih (k + 1) ((k : Int) + 1) (by omega) (by omega)
  clear ih
  rw [List.drop_eq_getElem_cons hlt]
  rw [List.any_cons]
  generalize (e4.drop (k + 1)).any (ET e3) = B at key ⊢
  rw [aG hF]
  rw [hp]; cases c1 : bF a <;> cases c2 : (n != e3) <;>
   first
   | omega
   | (simp [gB, hlt, hw, hrk, e1', c1, c2]
      exact key _ _ _ _ _ _ _ _ _ _ _ _ _ _ _ _ _ _ _ _ _ _ _ _ _ _ _ _ _ _ _ _ _ _ _ _ _ _ _ _ _ _ _ _ _)
   | (simp [gB, hlt, hw, hrk, e1', c1, c2, bD]; done)
theorem tF {e0 : Int} {e1 e2 : List UInt8} {e3 : Int} {e4 e5 : List (List PV)} {e6 : Int} {e7 : List (List PV)} {e8 : Int} {e9 e10 : Bool} (h1 : e1.length ≤ maxLen) (h2 : e2.length ≤ maxLen) (h4 : bR (.lst iV) (.lst e4)) : aa Ph al 151 [.agg [.pv (.int .i64 e0), .pv (.str e1), .pv (.str e2), .pv (.int .i64 e3), .pv (.lst e4), .pv (.lst e5), .pv (.int .i64 e6), .pv (.lst e7), .pv (.int .i64 e8), .pv (.bool e9), .pv (.bool e10)]] = some (aj (tN e0 e1 e2 e3 e4)) := by
 obtain ⟨hl, hr⟩ := aD h4
 refine aH (fn := nM) rfl ?_
 obtain ⟨e, σ', q1, q3⟩ := (L4 (e0 := e0) (e1 := e1) (e2 := e2) (e3 := e3) (e5 := e5) (e6 := e6) (e7 := e7) (e8 := e8) (e9 := e9) (e10 := e10) hl hr e4.length 0 0 rfl (by omega) (.agg [.pv (.int .i64 e0), .pv (.str e1), .pv (.str e2), .pv (.int .i64 e3), .pv (.lst e4), .pv (.lst e5), .pv (.int .i64 e6), .pv (.lst e7), .pv (.int .i64 e8), .pv (.bool e9), .pv (.bool e10)]) (aj false) (.tup []) (.tup []) (.one (.ptr 0 0 4)) (.tup []) (.tup []) (.tup []) (.tup []) (.tup []) (.tup []) (.tup []) (.tup []) (.tup []) (.tup []) (.tup []) (.tup []) (.tup []) (.tup []) (.tup []) (.tup []) (.tup []) (.tup []) (.tup []) (.tup []) (.tup []) (.tup []) (.tup []) (.tup []) (.tup []) (.tup []) (.tup []) (.tup []) (.tup []) (.tup []) (.tup []) (.tup []) (.tup []) (.tup []) (.tup []) (.tup []) (.tup []) (.tup []) (.tup []) []).get
 simp only [List.drop_zero] at q3
 have q6 := dz e0 1 1000000000000
 have q7 := dz e3 1 1000000000000
 have q8 := cQ h1
 have q9 := cQ h2
 generalize hF : aq (aa Ph al) ah gB = F at q1
 rcases q3 with ⟨rfl, q4, x0, x2, x3, x4, x5, x9, x10, x11, x12, x13, x14, x15, x16, x17, x18, x19, x20, x21, x22, x23, x24, x25, x26, x27, x28, x29, x30, x31, x32, x33, x34, x35, x36, x37, x38, x39, x40, x41, x42, x43, x44, x45, x46, x47, h', rfl⟩ | ⟨rfl, q4, q5, q7⟩
 ·simp only [tN, q4]
  cases c1 : (decide (1 ≤ e0) && decide (e0 ≤ 1000000000000)) <;> cases c2 : bF e1 <;> cases c3 : bF e2 <;> cases c4 : (decide (1 ≤ e3) && decide (e3 ≤ 1000000000000)) <;> rw [c1] at q6 <;> rw [c4] at q7 <;> rw [c2] at q8 <;> rw [c3] at q9 <;> simp [nM, hF, q1, q6, q7, q8, q9]
 ·obtain ⟨_, q8⟩ := List.getElem?_eq_some_iff.1 q7
  simp [nM, hF, q1, q5, q8, tN, q4]
theorem MK {e0 : Int} {e1 e2 : List UInt8} {e3 : Int} {e4 e5 : List (List PV)} {e6 : Int} {e7 : List (List PV)} {e8 : Int} {e9 e10 : Bool} (hl : e4.length ≤ maxLen) (hr : ∀ r ∈ e4, be iV r) : ∀ (m k : Nat) (i : Int), i = k → k + m = e4.length → ∀ (x0 x2 x4 x5 x6 x7 x8 x9 x10 x11 x12 x13 x14 x15 x16 x17 x18 x19 x20 x21 x22 x23 x24 x25 x26 x27 x28 x29 x30 x31 x32 x33 x34 x35 x36 x37 x38 x39 x40 x41 x42 x43 x44 x45 x46 x47 x48 x49 x50 x51 x52 x53 : V),
 jm (ah (aq (aa Ph al) ah gD) ⟨(x0 :: .one (.ptr 0 0 0) :: x2 :: ae .i64 i :: x4 :: x5 :: x6 :: x7 :: x8 :: x9 :: x10 :: x11 :: x12 :: x13 :: x14 :: x15 :: x16 :: x17 :: x18 :: x19 :: x20 :: x21 :: x22 :: x23 :: x24 :: x25 :: x26 :: x27 :: x28 :: x29 :: x30 :: x31 :: x32 :: x33 :: x34 :: x35 :: x36 :: x37 :: x38 :: x39 :: x40 :: x41 :: x42 :: x43 :: x44 :: x45 :: x46 :: x47 :: x48 :: x49 :: x50 :: x51 :: x52 :: x53 :: []), [.box [.pv (.int .i64 e0), .pv (.str e1), .pv (.str e2), .pv (.int .i64 e3), .pv (.lst e4), .pv (.lst e5), .pv (.int .i64 e6), .pv (.lst e7), .pv (.int .i64 e8), .pv (.bool e9), .pv (.bool e10)]]⟩) fun e σ' => (e = .exit 0 ∧ (e4.drop k).any (ET e3) = false ∧ ∃ (x0 x2 x4 x5 x6 x7 x8 x9 x10 x11 x12 x13 x14 x15 x16 x17 x18 x19 x20 x21 x22 x23 x24 x25 x26 x27 x28 x29 x30 x31 x32 x33 x34 x35 x36 x37 x38 x39 x40 x41 x42 x43 x44 x45 x46 x47 x48 x49 x50 x51 x52 x53 : V), σ' = ⟨(x0 :: .one (.ptr 0 0 0) :: x2 :: ae .i64 (e4.length : Nat) :: x4 :: x5 :: x6 :: x7 :: x8 :: x9 :: x10 :: x11 :: x12 :: x13 :: x14 :: x15 :: x16 :: x17 :: x18 :: x19 :: x20 :: x21 :: x22 :: x23 :: x24 :: x25 :: x26 :: x27 :: x28 :: x29 :: x30 :: x31 :: x32 :: x33 :: x34 :: x35 :: x36 :: x37 :: x38 :: x39 :: x40 :: x41 :: x42 :: x43 :: x44 :: x45 :: x46 :: x47 :: x48 :: x49 :: x50 :: x51 :: x52 :: x53 :: []), [.box [.pv (.int .i64 e0), .pv (.str e1), .pv (.str e2), .pv (.int .i64 e3), .pv (.lst e4), .pv (.lst e5), .pv (.int .i64 e6), .pv (.lst e7), .pv (.int .i64 e8), .pv (.bool e9), .pv (.bool e10)]]⟩) ∨ (e = .ret ∧ (e4.drop k).any (ET e3) = true ∧ σ'.t.length = 54 ∧ σ'.t[2]? = some (aj false)) := by
 generalize hF : aq (aa Ph al) ah gD = F
 intro m
 induction m with
 | zero =>
  intro k i hi hk x0 x2 x4 x5 x6 x7 x8 x9 x10 x11 x12 x13 x14 x15 x16 x17 x18 x19 x20 x21 x22 x23 x24 x25 x26 x27 x28 x29 x30 x31 x32 x33 x34 x35 x36 x37 x38 x39 x40 x41 x42 x43 x44 x45 x46 x47 x48 x49 x50 x51 x52 x53
  subst hi
  have hk' : k = e4.length := by omega
  subst hk'
  rw [aG hF]
  simp (maxSteps := 4000000) [gD, bN, bD]
 | succ m ih =>
  intro k i hi hk x0 x2 x4 x5 x6 x7 x8 x9 x10 x11 x12 x13 x14 x15 x16 x17 x18 x19 x20 x21 x22 x23 x24 x25 x26 x27 x28 x29 x30 x31 x32 x33 x34 x35 x36 x37 x38 x39 x40 x41 x42 x43 x44 x45 x46 x47 x48 x49 x50 x51 x52 x53
  subst hi
  have hlt : k < e4.length := by omega
  have hw := ag (k := k) (by unfold maxLen at hl; omega)
  obtain ⟨a, n, hrk, ha⟩ := CA (hr _ (List.getElem_mem hlt))
  have e1' := di ha
  have hp : ET e3 e4[k] = (!(bF a) || (n != e3)) := by rw [hrk]; rfl
  have key := ih (k + 1) ((k : Int) + 1) (by omega) (by omega)
  clear ih
  rw [List.drop_eq_getElem_cons hlt]
  rw [List.any_cons]
  generalize (e4.drop (k + 1)).any (ET e3) = B at key ⊢
  rw [aG hF]
  rw [hp]; cases c1 : bF a <;> cases c2 : (n != e3) <;>
   first
   | omega
   | (simp [gD, hlt, hw, hrk, e1', c1, c2]
      exact key _ _ _ _ _ _ _ _ _ _ _ _ _ _ _ _ _ _ _ _ _ _ _ _ _ _ _ _ _ _ _ _ _ _ _ _ _ _ _ _ _ _ _ _ _ _ _ _ _ _ _ _)
   | (simp [gD, hlt, hw, hrk, e1', c1, c2, bD]; done)
theorem t4 {e0 : Int} {e1 e2 : List UInt8} {e3 : Int} {e4 e5 : List (List PV)} {e6 : Int} {e7 : List (List PV)} {e8 : Int} {e9 e10 : Bool} (h1 : e1.length ≤ maxLen) (h2 : e2.length ≤ maxLen) (h4 : bR (.lst iV) (.lst e4)) : aa Ph al 149 [.agg [.pv (.int .i64 e0), .pv (.str e1), .pv (.str e2), .pv (.int .i64 e3), .pv (.lst e4), .pv (.lst e5), .pv (.int .i64 e6), .pv (.lst e7), .pv (.int .i64 e8), .pv (.bool e9), .pv (.bool e10)]] = some (aj (tN e0 e1 e2 e3 e4)) := by
 obtain ⟨hl, hr⟩ := aD h4
 refine aH (fn := nO) rfl ?_
 obtain ⟨e, σ', q1, q3⟩ := (MK (e0 := e0) (e1 := e1) (e2 := e2) (e3 := e3) (e5 := e5) (e6 := e6) (e7 := e7) (e8 := e8) (e9 := e9) (e10 := e10) hl hr e4.length 0 0 rfl (by omega) (.agg [.pv (.int .i64 e0), .pv (.str e1), .pv (.str e2), .pv (.int .i64 e3), .pv (.lst e4), .pv (.lst e5), .pv (.int .i64 e6), .pv (.lst e7), .pv (.int .i64 e8), .pv (.bool e9), .pv (.bool e10)]) (aj false) (.tup []) (.tup []) (.tup []) (.tup []) (.tup []) (.tup []) (.tup []) (.tup []) (.tup []) (.tup []) (.tup []) (.tup []) (.tup []) (.tup []) (.tup []) (.tup []) (.tup []) (.tup []) (.tup []) (.tup []) (.tup []) (.tup []) (.tup []) (.tup []) (.tup []) (.tup []) (.tup []) (.tup []) (.tup []) (.tup []) (.tup []) (.tup []) (.tup []) (.tup []) (.tup []) (.tup []) (.tup []) (.tup []) (.tup []) (.tup []) (.tup []) (.tup []) (.tup []) (.tup []) (.tup []) (.tup []) (.tup []) (.tup []) (.tup []) (.tup [])).get
 simp only [List.drop_zero] at q3
 have q6 := fv e0 1 1000000000000
 have q7 := fv e3 1 1000000000000
 have q8 := di h1
 have q9 := di h2
 generalize hF : aq (aa Ph al) ah gD = F at q1
 rcases q3 with ⟨rfl, q4, x0, x2, x4, x5, x6, x7, x8, x9, x10, x11, x12, x13, x14, x15, x16, x17, x18, x19, x20, x21, x22, x23, x24, x25, x26, x27, x28, x29, x30, x31, x32, x33, x34, x35, x36, x37, x38, x39, x40, x41, x42, x43, x44, x45, x46, x47, x48, x49, x50, x51, x52, x53, rfl⟩ | ⟨rfl, q4, q5, q7⟩
 ·simp only [tN, q4]
  cases c1 : (decide (1 ≤ e0) && decide (e0 ≤ 1000000000000)) <;> cases c2 : bF e1 <;> cases c3 : bF e2 <;> cases c4 : (decide (1 ≤ e3) && decide (e3 ≤ 1000000000000)) <;> rw [c1] at q6 <;> rw [c4] at q7 <;> rw [c2] at q8 <;> rw [c3] at q9 <;> simp [nO, hF, q1, q6, q7, q8, q9]
 ·obtain ⟨_, q8⟩ := List.getElem?_eq_some_iff.1 q7
  simp [nO, hF, q1, q5, q8, tN, q4]
def Jr (v : Int) : List PV → Bool
 | .int _ n :: _ => n == v
 | _ => false
theorem jN {r : List PV} (h : be dK r) : ∃ n es, r = [.int .i64 n, .lst es] ∧ bR (.lst gA) (.lst es) := by
 obtain ⟨⟨c0, c1, _⟩, rfl, g0, g1, _⟩ := cf h
 exact ⟨c0, c1, rfl, g1⟩
theorem mU {rows : List (List PV)} (h : bR (.lst dK) (.lst rows)) (v : Int) : aa Ph al 152 [.agg [.pv (.lst rows)], ae .i64 v] = some (ae .i64 (bN (Jr v) rows 0)) := by
 obtain ⟨hl, hr⟩ := aD h
 have e1 : aa Ph al 179 [bJ rows, .one (.fn 180 [[.int .i64 v]])] = some (ae .i64 (bN (Jr v) rows 0)) :=
  vT (z := 2) rfl hl (fun r m => iw (hr r m)) (fun r m => by
   obtain ⟨n, es, rfl, _⟩ := jN (hr r m)
   refine aH (fn := lD) rfl ?_
   simp [lD, qL, Jr])
 refine aH (fn := nl) rfl ?_
 simp [nl, kT, o9, e1]
theorem MH {rows : List (List PV)} {v : Int} (hl : rows.length ≤ maxLen) (hr : ∀ r ∈ rows, be dK r) : ∀ (m k : Nat) (i : Int), i = k → k + m = rows.length → ∀ (x0 x3 x4 x6 x7 x8 x9 x10 x11 x12 x13 x14 x15 x16 x17 x18 x19 x20 x21 : V),
 jm (ah (aq (aa Ph al) ah fB) ⟨(x0 :: ae .i64 v :: .one (.ptr 0 0 0) :: x3 :: x4 :: ae .i64 i :: x6 :: x7 :: x8 :: x9 :: x10 :: x11 :: x12 :: x13 :: x14 :: x15 :: x16 :: x17 :: x18 :: x19 :: x20 :: x21 :: []), [.box [.pv (.lst rows)]]⟩) fun e σ' => (e = .exit 0 ∧ bN (Jr v) (rows.drop k) k = -1 ∧ ∃ (x0 x3 x4 x6 x7 x8 x9 x10 x11 x12 x13 x14 x15 x16 x17 x18 x19 x20 x21 : V), σ' = ⟨(x0 :: ae .i64 v :: .one (.ptr 0 0 0) :: x3 :: x4 :: ae .i64 (rows.length : Nat) :: x6 :: x7 :: x8 :: x9 :: x10 :: x11 :: x12 :: x13 :: x14 :: x15 :: x16 :: x17 :: x18 :: x19 :: x20 :: x21 :: []), [.box [.pv (.lst rows)]]⟩) ∨ (e = .ret ∧ σ'.t.length = 22 ∧ σ'.t[4]? = some (ae .i64 (bN (Jr v) (rows.drop k) k))) := by
 generalize hF : aq (aa Ph al) ah fB = F
 intro m
 induction m with
 | zero =>
  intro k i hi hk x0 x3 x4 x6 x7 x8 x9 x10 x11 x12 x13 x14 x15 x16 x17 x18 x19 x20 x21
  subst hi
  have hk' : k = rows.length := by omega
  subst hk'
  rw [aG hF]
  simp (maxSteps := 4000000) [fB, bN, bD]
 | succ m ih =>
  intro k i hi hk x0 x3 x4 x6 x7 x8 x9 x10 x11 x12 x13 x14 x15 x16 x17 x18 x19 x20 x21
  subst hi
  have hlt : k < rows.length := by omega
  have hw := ag (k := k) (by unfold maxLen at hl; omega)
  obtain ⟨n, es, hrk, _⟩ := jN (hr _ (List.getElem_mem hlt))
  have hp : Jr v rows[k] = (n == v) := by rw [hrk]; rfl
  have key := ih (k + 1) ((k : Int) + 1) (by omega) (by omega)
  clear ih
  rw [List.drop_eq_getElem_cons hlt]
  simp only [bN]
  generalize bN (Jr v) (rows.drop (k + 1)) (k + 1) = B at key ⊢
  rw [aG hF]
  rw [hp]; cases c1 : (n == v) <;>
   first
   | omega
   | (simp [fB, hlt, hw, hrk, c1]
      exact key _ _ _ _ _ _ _ _ _ _ _ _ _ _ _ _ _ _ _)
   | (simp [fB, hlt, hw, hrk, c1, bD]; done)
theorem mY {rows : List (List PV)} (h : bR (.lst dK) (.lst rows)) (v : Int) : aa Ph al 150 [.agg [.pv (.lst rows)], ae .i64 v] = some (ae .i64 (bN (Jr v) rows 0)) := by
 obtain ⟨hl, hr⟩ := aD h
 refine aH (fn := kH) rfl ?_
 obtain ⟨e, σ', q1, q3⟩ := (MH (v := v) hl hr rows.length 0 0 rfl (by omega) (.agg [.pv (.lst rows)]) (.tup []) (ae .i64 0) (.tup []) (.tup []) (.tup []) (.tup []) (.tup []) (.tup []) (.tup []) (.tup []) (.tup []) (.tup []) (.tup []) (.tup []) (.tup []) (.tup []) (.tup []) (.tup [])).get
 simp only [List.drop_zero] at q3
 generalize hF : aq (aa Ph al) ah fB = F at q1
 rcases q3 with ⟨rfl, q4, x0, x3, x4, x6, x7, x8, x9, x10, x11, x12, x13, x14, x15, x16, x17, x18, x19, x20, x21, rfl⟩ | ⟨rfl, q5, q7⟩
 ·rw [q4]
  simp [kH, hF, q1]
 ·obtain ⟨_, q8⟩ := List.getElem?_eq_some_iff.1 q7
  simp [kH, hF, q1, q5, q8]
end Gi
