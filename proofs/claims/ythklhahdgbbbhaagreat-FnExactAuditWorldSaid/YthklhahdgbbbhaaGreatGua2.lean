/- Of this proof. -/
import Derived.Test.YthklhahdgbbbhaaGreatGua1
set_option linter.unusedSimpArgs false
namespace Gi
open Go Go.RowKit
set_option maxHeartbeats 4000000
set_option maxRecDepth 4000
attribute [local simp] bW eM aq am bg bt cF dN Opd.ev put V.cells plain bz hJ isInt isStr isBool bin bf aS aR un asList L.view aB V.view viewL done bC aC aT cj comp bq bZ a8 V.flat L.flat dX dJ bS putAt thaw thawL freezeVs freezeLs freezeL V.mut L.mut bm aZ
def xR (s : List UInt8) (v : Int) : List PV → Bool
 | [.str a, _, _, .int _ st, .int _ ver, _, _] => a == s && (st == 200 && ver != v)
 | _ => false
theorem iW {r : List PV} (h : be gA r) : ∃ (c0 : List UInt8) (c1 : List UInt8) (c2 : Int) (c3 : Int) (c4 : Int) (c5 : List (List PV)) (c6 : Bool), r = [.str c0, .str c1, .int .i64 c2, .int .i64 c3, .int .i64 c4, .lst c5, .bool c6] ∧ bR (.str) (.str c0) ∧ bR (.str) (.str c1) ∧ bR (.int .i64) (.int .i64 c2) ∧ bR (.int .i64) (.int .i64 c3) ∧ bR (.int .i64) (.int .i64 c4) ∧ bR (.lst jb) (.lst c5) ∧ bR (.bool) (.bool c6) := by
 obtain ⟨⟨c0, c1, c2, c3, c4, c5, c6, _⟩, rfl, g0, g1, g2, g3, g4, g5, g6, _⟩ := cf h
 exact ⟨c0, c1, c2, c3, c4, c5, c6, rfl, g0, g1, g2, g3, g4, g5, g6⟩
theorem L8 {e0 : Int} {e1 e2 : List UInt8} {e3 : Int} {e4 e5 : List (List PV)} {e6 : Int} {e7 : List (List PV)} {e8 : Int} {e9 e10 : Bool} {es : List (List PV)} {a0 a2 : AObj} (hl : es.length ≤ maxLen) (hr : ∀ r ∈ es, be gA r) : ∀ (m k : Nat) (i : Int), i = k → k + m = es.length → ∀ (x0 x1 x2 x4 x5 x6 x7 x8 x9 x10 x11 x12 x13 x14 x15 x16 x17 x18 x19 x20 x21 x22 x23 x24 x25 x26 x27 x28 x29 x30 x31 x32 x33 x34 x35 x36 x37 x38 x42 x43 x44 x45 x46 x47 x48 x49 x50 x51 x52 x53 x54 x55 x56 x57 x58 x59 x60 x61 x62 x63 x64 : V) (h : List AObj),
 jm (ah (aq (aa Ph al) ah cU) ⟨(x0 :: x1 :: x2 :: .one (.ptr 1 0 0) :: x4 :: x5 :: x6 :: x7 :: x8 :: x9 :: x10 :: x11 :: x12 :: x13 :: x14 :: x15 :: x16 :: x17 :: x18 :: x19 :: x20 :: x21 :: x22 :: x23 :: x24 :: x25 :: x26 :: x27 :: x28 :: x29 :: x30 :: x31 :: x32 :: x33 :: x34 :: x35 :: x36 :: x37 :: x38 :: bJ es :: ae .i64 es.length :: ae .i64 i :: x42 :: x43 :: x44 :: x45 :: x46 :: x47 :: x48 :: x49 :: x50 :: x51 :: x52 :: x53 :: x54 :: x55 :: x56 :: x57 :: x58 :: x59 :: x60 :: x61 :: x62 :: x63 :: x64 :: []), a0 :: .box [.pv (.int .i64 e0), .pv (.str e1), .pv (.str e2), .pv (.int .i64 e3), .pv (.lst e4), .pv (.lst e5), .pv (.int .i64 e6), .pv (.lst e7), .pv (.int .i64 e8), .pv (.bool e9), .pv (.bool e10)] :: a2 :: h⟩) fun e σ' => (e = .exit 0 ∧ (es.drop k).any (xR e1 e3) = false ∧ ∃ (x0 x1 x2 x4 x5 x6 x7 x8 x9 x10 x11 x12 x13 x14 x15 x16 x17 x18 x19 x20 x21 x22 x23 x24 x25 x26 x27 x28 x29 x30 x31 x32 x33 x34 x35 x36 x37 x38 x42 x43 x44 x45 x46 x47 x48 x49 x50 x51 x52 x53 x54 x55 x56 x57 x58 x59 x60 x61 x62 x63 x64 : V) (h' : List AObj), σ' = ⟨(x0 :: x1 :: x2 :: .one (.ptr 1 0 0) :: x4 :: x5 :: x6 :: x7 :: x8 :: x9 :: x10 :: x11 :: x12 :: x13 :: x14 :: x15 :: x16 :: x17 :: x18 :: x19 :: x20 :: x21 :: x22 :: x23 :: x24 :: x25 :: x26 :: x27 :: x28 :: x29 :: x30 :: x31 :: x32 :: x33 :: x34 :: x35 :: x36 :: x37 :: x38 :: bJ es :: ae .i64 es.length :: ae .i64 (es.length : Nat) :: x42 :: x43 :: x44 :: x45 :: x46 :: x47 :: x48 :: x49 :: x50 :: x51 :: x52 :: x53 :: x54 :: x55 :: x56 :: x57 :: x58 :: x59 :: x60 :: x61 :: x62 :: x63 :: x64 :: []), a0 :: .box [.pv (.int .i64 e0), .pv (.str e1), .pv (.str e2), .pv (.int .i64 e3), .pv (.lst e4), .pv (.lst e5), .pv (.int .i64 e6), .pv (.lst e7), .pv (.int .i64 e8), .pv (.bool e9), .pv (.bool e10)] :: a2 :: h'⟩) ∨ (e = .ret ∧ (es.drop k).any (xR e1 e3) = true ∧ σ'.t.length = 65 ∧ σ'.t[4]? = some (aj false)) := by
 generalize hF : aq (aa Ph al) ah cU = F
 intro m
 induction m with
 | zero =>
  intro k i hi hk x0 x1 x2 x4 x5 x6 x7 x8 x9 x10 x11 x12 x13 x14 x15 x16 x17 x18 x19 x20 x21 x22 x23 x24 x25 x26 x27 x28 x29 x30 x31 x32 x33 x34 x35 x36 x37 x38 x42 x43 x44 x45 x46 x47 x48 x49 x50 x51 x52 x53 x54 x55 x56 x57 x58 x59 x60 x61 x62 x63 x64 h
  subst hi
  have hk' : k = es.length := by omega
  subst hk'
  rw [aG hF]
  simp (maxSteps := 4000000) [cU, bN, bD]
 | succ m ih =>
  intro k i hi hk x0 x1 x2 x4 x5 x6 x7 x8 x9 x10 x11 x12 x13 x14 x15 x16 x17 x18 x19 x20 x21 x22 x23 x24 x25 x26 x27 x28 x29 x30 x31 x32 x33 x34 x35 x36 x37 x38 x42 x43 x44 x45 x46 x47 x48 x49 x50 x51 x52 x53 x54 x55 x56 x57 x58 x59 x60 x61 x62 x63 x64 h
  subst hi
  have hlt : k < es.length := by omega
  have hw := ag (k := k) (by unfold maxLen at hl; omega)
  obtain ⟨d0, d1, d2, d3, d4, d5, d6, hrk, _⟩ := iW (hr _ (List.getElem_mem hlt))
  have hp : xR e1 e3 es[k] = (d0 == e1 && (d3 == 200 && d4 != e3)) := by rw [hrk]; rfl
  have key := ih (k + 1) ((k : Int) + 1) (by omega) (by omega)
  clear ih
  rw [List.drop_eq_getElem_cons hlt]
  rw [List.any_cons]
  generalize (es.drop (k + 1)).any (xR e1 e3) = B at key ⊢
  rw [aG hF]
  rw [hp]; cases c1 : (d0 == e1) <;> cases c2 : (d4 != e3) <;> cases c3 : (d3 == 200) <;>
   first
   | omega
   | (simp [cU, hlt, hw, hrk, c1, c2, c3]
      exact key _ _ _ _ _ _ _ _ _ _ _ _ _ _ _ _ _ _ _ _ _ _ _ _ _ _ _ _ _ _ _ _ _ _ _ _ _ _ _ _ _ _ _ _ _ _ _ _ _ _ _ _ _ _ _ _ _ _ _ _ _ _)
   | (simp [cU, hlt, hw, hrk, c1, c2, c3, bD]; done)
theorem KH {e0 : Int} {e1 e2 : List UInt8} {e3 : Int} {e4 e5 : List (List PV)} {e6 : Int} {e7 : List (List PV)} {e8 : Int} {e9 e10 : Bool} {es : List (List PV)} {a0 a2 : AObj} (hl : es.length ≤ maxLen) (hr : ∀ r ∈ es, be gA r) : ∀ (m k : Nat) (i : Int), i = k → k + m = es.length → ∀ (x0 x1 x2 x4 x5 x6 x7 x8 x9 x10 x11 x12 x13 x14 x15 x16 x17 x18 x19 x20 x21 x22 x23 x24 x25 x26 x27 x28 x29 x30 x31 x32 x33 x34 x35 x36 x37 x38 x42 x43 x44 x45 x46 x47 x48 x49 x50 x51 x52 x53 x54 x55 x56 x57 x58 x59 x60 x61 x62 x63 x64 : V) (h : List AObj) (σ : St), σ = ⟨(x0 :: x1 :: x2 :: .one (.ptr 1 0 0) :: x4 :: x5 :: x6 :: x7 :: x8 :: x9 :: x10 :: x11 :: x12 :: x13 :: x14 :: x15 :: x16 :: x17 :: x18 :: x19 :: x20 :: x21 :: x22 :: x23 :: x24 :: x25 :: x26 :: x27 :: x28 :: x29 :: x30 :: x31 :: x32 :: x33 :: x34 :: x35 :: x36 :: x37 :: x38 :: bJ es :: ae .i64 es.length :: ae .i64 i :: x42 :: x43 :: x44 :: x45 :: x46 :: x47 :: x48 :: x49 :: x50 :: x51 :: x52 :: x53 :: x54 :: x55 :: x56 :: x57 :: x58 :: x59 :: x60 :: x61 :: x62 :: x63 :: x64 :: []), a0 :: .box [.pv (.int .i64 e0), .pv (.str e1), .pv (.str e2), .pv (.int .i64 e3), .pv (.lst e4), .pv (.lst e5), .pv (.int .i64 e6), .pv (.lst e7), .pv (.int .i64 e8), .pv (.bool e9), .pv (.bool e10)] :: a2 :: h⟩ →
 jm (ah (aq (aa Ph al) ah cU) σ) fun e σ' => (e = .exit 0 ∧ (es.drop k).any (xR e1 e3) = false ∧ ∃ (x0 x1 x2 x4 x5 x6 x7 x8 x9 x10 x11 x12 x13 x14 x15 x16 x17 x18 x19 x20 x21 x22 x23 x24 x25 x26 x27 x28 x29 x30 x31 x32 x33 x34 x35 x36 x37 x38 x42 x43 x44 x45 x46 x47 x48 x49 x50 x51 x52 x53 x54 x55 x56 x57 x58 x59 x60 x61 x62 x63 x64 : V) (h' : List AObj), σ' = ⟨(x0 :: x1 :: x2 :: .one (.ptr 1 0 0) :: x4 :: x5 :: x6 :: x7 :: x8 :: x9 :: x10 :: x11 :: x12 :: x13 :: x14 :: x15 :: x16 :: x17 :: x18 :: x19 :: x20 :: x21 :: x22 :: x23 :: x24 :: x25 :: x26 :: x27 :: x28 :: x29 :: x30 :: x31 :: x32 :: x33 :: x34 :: x35 :: x36 :: x37 :: x38 :: bJ es :: ae .i64 es.length :: ae .i64 (es.length : Nat) :: x42 :: x43 :: x44 :: x45 :: x46 :: x47 :: x48 :: x49 :: x50 :: x51 :: x52 :: x53 :: x54 :: x55 :: x56 :: x57 :: x58 :: x59 :: x60 :: x61 :: x62 :: x63 :: x64 :: []), a0 :: .box [.pv (.int .i64 e0), .pv (.str e1), .pv (.str e2), .pv (.int .i64 e3), .pv (.lst e4), .pv (.lst e5), .pv (.int .i64 e6), .pv (.lst e7), .pv (.int .i64 e8), .pv (.bool e9), .pv (.bool e10)] :: a2 :: h'⟩) ∨ (e = .ret ∧ (es.drop k).any (xR e1 e3) = true ∧ σ'.t.length = 65 ∧ σ'.t[4]? = some (aj false)) := by
 intro m k i hi hk x0 x1 x2 x4 x5 x6 x7 x8 x9 x10 x11 x12 x13 x14 x15 x16 x17 x18 x19 x20 x21 x22 x23 x24 x25 x26 x27 x28 x29 x30 x31 x32 x33 x34 x35 x36 x37 x38 x42 x43 x44 x45 x46 x47 x48 x49 x50 x51 x52 x53 x54 x55 x56 x57 x58 x59 x60 x61 x62 x63 x64 h σ hσ
 subst hσ
 exact L8 hl hr m k i hi hk x0 x1 x2 x4 x5 x6 x7 x8 x9 x10 x11 x12 x13 x14 x15 x16 x17 x18 x19 x20 x21 x22 x23 x24 x25 x26 x27 x28 x29 x30 x31 x32 x33 x34 x35 x36 x37 x38 x42 x43 x44 x45 x46 x47 x48 x49 x50 x51 x52 x53 x54 x55 x56 x57 x58 x59 x60 x61 x62 x63 x64 h
theorem MN {e0 : Int} {e1 e2 : List UInt8} {e3 : Int} {e4 e5 : List (List PV)} {e6 : Int} {e7 : List (List PV)} {e8 : Int} {e9 e10 : Bool} {es : List (List PV)} {a0 : AObj} (hl : es.length ≤ maxLen) (hr : ∀ r ∈ es, be gA r) : ∀ (m k : Nat) (i : Int), i = k → k + m = es.length → ∀ (x0 x1 x2 x4 x5 x6 x9 x10 x11 x12 x13 x14 x15 x16 x17 x18 x19 x20 x21 x22 x23 x24 x25 x26 x27 x28 x29 x30 x31 x32 x33 x34 x35 x36 x37 x38 x39 x40 x41 x42 x43 x44 x45 x46 x47 x48 x49 x50 x51 x52 x53 x54 x55 x56 x57 x58 x59 x60 x61 x62 x63 x64 x65 x66 x67 x68 x69 x70 x71 x72 x73 x74 x75 x76 x77 x78 x79 x80 : V),
 jm (ah (aq (aa Ph al) ah cV) ⟨(x0 :: x1 :: x2 :: .one (.ptr 1 0 0) :: x4 :: x5 :: x6 :: bJ es :: ae .i64 i :: x9 :: x10 :: x11 :: x12 :: x13 :: x14 :: x15 :: x16 :: x17 :: x18 :: x19 :: x20 :: x21 :: x22 :: x23 :: x24 :: x25 :: x26 :: x27 :: x28 :: x29 :: x30 :: x31 :: x32 :: x33 :: x34 :: x35 :: x36 :: x37 :: x38 :: x39 :: x40 :: x41 :: x42 :: x43 :: x44 :: x45 :: x46 :: x47 :: x48 :: x49 :: x50 :: x51 :: x52 :: x53 :: x54 :: x55 :: x56 :: x57 :: x58 :: x59 :: x60 :: x61 :: x62 :: x63 :: x64 :: x65 :: x66 :: x67 :: x68 :: x69 :: x70 :: x71 :: x72 :: x73 :: x74 :: x75 :: x76 :: x77 :: x78 :: x79 :: x80 :: []), [a0, .box [.pv (.int .i64 e0), .pv (.str e1), .pv (.str e2), .pv (.int .i64 e3), .pv (.lst e4), .pv (.lst e5), .pv (.int .i64 e6), .pv (.lst e7), .pv (.int .i64 e8), .pv (.bool e9), .pv (.bool e10)]]⟩) fun e σ' => (e = .exit 0 ∧ (es.drop k).any (xR e1 e3) = false ∧ ∃ (x0 x1 x2 x4 x5 x6 x9 x10 x11 x12 x13 x14 x15 x16 x17 x18 x19 x20 x21 x22 x23 x24 x25 x26 x27 x28 x29 x30 x31 x32 x33 x34 x35 x36 x37 x38 x39 x40 x41 x42 x43 x44 x45 x46 x47 x48 x49 x50 x51 x52 x53 x54 x55 x56 x57 x58 x59 x60 x61 x62 x63 x64 x65 x66 x67 x68 x69 x70 x71 x72 x73 x74 x75 x76 x77 x78 x79 x80 : V), σ' = ⟨(x0 :: x1 :: x2 :: .one (.ptr 1 0 0) :: x4 :: x5 :: x6 :: bJ es :: ae .i64 (es.length : Nat) :: x9 :: x10 :: x11 :: x12 :: x13 :: x14 :: x15 :: x16 :: x17 :: x18 :: x19 :: x20 :: x21 :: x22 :: x23 :: x24 :: x25 :: x26 :: x27 :: x28 :: x29 :: x30 :: x31 :: x32 :: x33 :: x34 :: x35 :: x36 :: x37 :: x38 :: x39 :: x40 :: x41 :: x42 :: x43 :: x44 :: x45 :: x46 :: x47 :: x48 :: x49 :: x50 :: x51 :: x52 :: x53 :: x54 :: x55 :: x56 :: x57 :: x58 :: x59 :: x60 :: x61 :: x62 :: x63 :: x64 :: x65 :: x66 :: x67 :: x68 :: x69 :: x70 :: x71 :: x72 :: x73 :: x74 :: x75 :: x76 :: x77 :: x78 :: x79 :: x80 :: []), [a0, .box [.pv (.int .i64 e0), .pv (.str e1), .pv (.str e2), .pv (.int .i64 e3), .pv (.lst e4), .pv (.lst e5), .pv (.int .i64 e6), .pv (.lst e7), .pv (.int .i64 e8), .pv (.bool e9), .pv (.bool e10)]]⟩) ∨ (e = .ret ∧ (es.drop k).any (xR e1 e3) = true ∧ σ'.t.length = 81 ∧ σ'.t[4]? = some (aj false)) := by
 generalize hF : aq (aa Ph al) ah cV = F
 intro m
 induction m with
 | zero =>
  intro k i hi hk x0 x1 x2 x4 x5 x6 x9 x10 x11 x12 x13 x14 x15 x16 x17 x18 x19 x20 x21 x22 x23 x24 x25 x26 x27 x28 x29 x30 x31 x32 x33 x34 x35 x36 x37 x38 x39 x40 x41 x42 x43 x44 x45 x46 x47 x48 x49 x50 x51 x52 x53 x54 x55 x56 x57 x58 x59 x60 x61 x62 x63 x64 x65 x66 x67 x68 x69 x70 x71 x72 x73 x74 x75 x76 x77 x78 x79 x80
  subst hi
  have hk' : k = es.length := by omega
  subst hk'
  rw [aG hF]
  simp (maxSteps := 4000000) [cV, bN, bD]
 | succ m ih =>
  intro k i hi hk x0 x1 x2 x4 x5 x6 x9 x10 x11 x12 x13 x14 x15 x16 x17 x18 x19 x20 x21 x22 x23 x24 x25 x26 x27 x28 x29 x30 x31 x32 x33 x34 x35 x36 x37 x38 x39 x40 x41 x42 x43 x44 x45 x46 x47 x48 x49 x50 x51 x52 x53 x54 x55 x56 x57 x58 x59 x60 x61 x62 x63 x64 x65 x66 x67 x68 x69 x70 x71 x72 x73 x74 x75 x76 x77 x78 x79 x80
  subst hi
  have hlt : k < es.length := by omega
  have hw := ag (k := k) (by unfold maxLen at hl; omega)
  obtain ⟨d0, d1, d2, d3, d4, d5, d6, hrk, _⟩ := iW (hr _ (List.getElem_mem hlt))
  have hp : xR e1 e3 es[k] = (d0 == e1 && (d3 == 200 && d4 != e3)) := by rw [hrk]; rfl
  have key := ih (k + 1) ((k : Int) + 1) (by omega) (by omega)
  clear ih
  rw [List.drop_eq_getElem_cons hlt]
  rw [List.any_cons]
  generalize (es.drop (k + 1)).any (xR e1 e3) = B at key ⊢
  rw [aG hF]
  rw [hp]; cases c1 : (d0 == e1) <;> cases c2 : (d4 != e3) <;> cases c3 : (d3 == 200) <;>
   first
   | omega
   | (simp [cV, hlt, hw, hrk, c1, c2, c3]
      exact key _ _ _ _ _ _ _ _ _ _ _ _ _ _ _ _ _ _ _ _ _ _ _ _ _ _ _ _ _ _ _ _ _ _ _ _ _ _ _ _ _ _ _ _ _ _ _ _ _ _ _ _ _ _ _ _ _ _ _ _ _ _ _ _ _ _ _ _ _ _ _ _ _ _ _ _ _ _)
   | (simp [cV, hlt, hw, hrk, c1, c2, c3, bD]; done)
theorem KZ {e0 : Int} {e1 e2 : List UInt8} {e3 : Int} {e4 e5 : List (List PV)} {e6 : Int} {e7 : List (List PV)} {e8 : Int} {e9 e10 : Bool} {es : List (List PV)} {a0 : AObj} (hl : es.length ≤ maxLen) (hr : ∀ r ∈ es, be gA r) : ∀ (m k : Nat) (i : Int), i = k → k + m = es.length → ∀ (x0 x1 x2 x4 x5 x6 x9 x10 x11 x12 x13 x14 x15 x16 x17 x18 x19 x20 x21 x22 x23 x24 x25 x26 x27 x28 x29 x30 x31 x32 x33 x34 x35 x36 x37 x38 x39 x40 x41 x42 x43 x44 x45 x46 x47 x48 x49 x50 x51 x52 x53 x54 x55 x56 x57 x58 x59 x60 x61 x62 x63 x64 x65 x66 x67 x68 x69 x70 x71 x72 x73 x74 x75 x76 x77 x78 x79 x80 : V) (σ : St), σ = ⟨(x0 :: x1 :: x2 :: .one (.ptr 1 0 0) :: x4 :: x5 :: x6 :: bJ es :: ae .i64 i :: x9 :: x10 :: x11 :: x12 :: x13 :: x14 :: x15 :: x16 :: x17 :: x18 :: x19 :: x20 :: x21 :: x22 :: x23 :: x24 :: x25 :: x26 :: x27 :: x28 :: x29 :: x30 :: x31 :: x32 :: x33 :: x34 :: x35 :: x36 :: x37 :: x38 :: x39 :: x40 :: x41 :: x42 :: x43 :: x44 :: x45 :: x46 :: x47 :: x48 :: x49 :: x50 :: x51 :: x52 :: x53 :: x54 :: x55 :: x56 :: x57 :: x58 :: x59 :: x60 :: x61 :: x62 :: x63 :: x64 :: x65 :: x66 :: x67 :: x68 :: x69 :: x70 :: x71 :: x72 :: x73 :: x74 :: x75 :: x76 :: x77 :: x78 :: x79 :: x80 :: []), [a0, .box [.pv (.int .i64 e0), .pv (.str e1), .pv (.str e2), .pv (.int .i64 e3), .pv (.lst e4), .pv (.lst e5), .pv (.int .i64 e6), .pv (.lst e7), .pv (.int .i64 e8), .pv (.bool e9), .pv (.bool e10)]]⟩ →
 jm (ah (aq (aa Ph al) ah cV) σ) fun e σ' => (e = .exit 0 ∧ (es.drop k).any (xR e1 e3) = false ∧ ∃ (x0 x1 x2 x4 x5 x6 x9 x10 x11 x12 x13 x14 x15 x16 x17 x18 x19 x20 x21 x22 x23 x24 x25 x26 x27 x28 x29 x30 x31 x32 x33 x34 x35 x36 x37 x38 x39 x40 x41 x42 x43 x44 x45 x46 x47 x48 x49 x50 x51 x52 x53 x54 x55 x56 x57 x58 x59 x60 x61 x62 x63 x64 x65 x66 x67 x68 x69 x70 x71 x72 x73 x74 x75 x76 x77 x78 x79 x80 : V), σ' = ⟨(x0 :: x1 :: x2 :: .one (.ptr 1 0 0) :: x4 :: x5 :: x6 :: bJ es :: ae .i64 (es.length : Nat) :: x9 :: x10 :: x11 :: x12 :: x13 :: x14 :: x15 :: x16 :: x17 :: x18 :: x19 :: x20 :: x21 :: x22 :: x23 :: x24 :: x25 :: x26 :: x27 :: x28 :: x29 :: x30 :: x31 :: x32 :: x33 :: x34 :: x35 :: x36 :: x37 :: x38 :: x39 :: x40 :: x41 :: x42 :: x43 :: x44 :: x45 :: x46 :: x47 :: x48 :: x49 :: x50 :: x51 :: x52 :: x53 :: x54 :: x55 :: x56 :: x57 :: x58 :: x59 :: x60 :: x61 :: x62 :: x63 :: x64 :: x65 :: x66 :: x67 :: x68 :: x69 :: x70 :: x71 :: x72 :: x73 :: x74 :: x75 :: x76 :: x77 :: x78 :: x79 :: x80 :: []), [a0, .box [.pv (.int .i64 e0), .pv (.str e1), .pv (.str e2), .pv (.int .i64 e3), .pv (.lst e4), .pv (.lst e5), .pv (.int .i64 e6), .pv (.lst e7), .pv (.int .i64 e8), .pv (.bool e9), .pv (.bool e10)]]⟩) ∨ (e = .ret ∧ (es.drop k).any (xR e1 e3) = true ∧ σ'.t.length = 81 ∧ σ'.t[4]? = some (aj false)) := by
 intro m k i hi hk x0 x1 x2 x4 x5 x6 x9 x10 x11 x12 x13 x14 x15 x16 x17 x18 x19 x20 x21 x22 x23 x24 x25 x26 x27 x28 x29 x30 x31 x32 x33 x34 x35 x36 x37 x38 x39 x40 x41 x42 x43 x44 x45 x46 x47 x48 x49 x50 x51 x52 x53 x54 x55 x56 x57 x58 x59 x60 x61 x62 x63 x64 x65 x66 x67 x68 x69 x70 x71 x72 x73 x74 x75 x76 x77 x78 x79 x80 σ hσ
 subst hσ
 exact MN hl hr m k i hi hk x0 x1 x2 x4 x5 x6 x9 x10 x11 x12 x13 x14 x15 x16 x17 x18 x19 x20 x21 x22 x23 x24 x25 x26 x27 x28 x29 x30 x31 x32 x33 x34 x35 x36 x37 x38 x39 x40 x41 x42 x43 x44 x45 x46 x47 x48 x49 x50 x51 x52 x53 x54 x55 x56 x57 x58 x59 x60 x61 x62 x63 x64 x65 x66 x67 x68 x69 x70 x71 x72 x73 x74 x75 x76 x77 x78 x79 x80
end Gi
