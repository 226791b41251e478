/- Of this proof. -/
import Derived.Test.YthklhahdgbbbhaaGreatGua1
set_option linter.unusedSimpArgs false
namespace Gi
open Go Go.RowKit
set_option maxHeartbeats 4000000
set_option maxRecDepth 4000
attribute [local simp] bW eM aq am bg bt cF dN Opd.ev put V.cells plain bz hJ isInt isStr isBool bin bf aS aR un asList L.view aB V.view viewL done bC aC aT cj comp bq bZ a8 V.flat L.flat dX dJ bS putAt thaw thawL freezeVs freezeLs freezeL V.mut L.mut bm aZ
def G8 (d : Int) : List PV → Bool
 | .int _ a :: _ => a == d
 | _ => false
def JH : List PV → Int
 | [_, .int _ b] => b
 | _ => 0
def kR (d : Int) : List (List PV) → Int
 | [] => 0
 | r :: rs => cond (G8 d r) (JH r) (kR d rs)
theorem lX {r : List PV} (h : be gc r) : ∃ a b, r = [.int .i64 a, .int .i64 b] := by
 obtain ⟨⟨c0, c1, _⟩, rfl, g0, g1, _⟩ := cf h
 exact ⟨c0, c1, rfl⟩
theorem Cu {d : Int} : ∀ (rs : List (List PV)) (k : Nat), bN (G8 d) rs k < 0 → kR d rs = 0
 | [], _, _ => rfl
 | r :: rs, k, h => by
  unfold bN at h
  unfold kR
  cases hq : G8 d r with
  | true => rw [hq] at h; simp only [cond_true] at h; omega
  | false => rw [hq] at h; exact Cu rs (k + 1) h
theorem Cv {d : Int} : ∀ (rs : List (List PV)) (k j : Nat) (hj : j < rs.length), bN (G8 d) rs k = ((k + j : Nat) : Int) → kR d rs = JH rs[j]
 | [], _, _, hj, _ => by simp at hj
 | r :: rs, k, j, hj, h => by
  unfold bN at h
  unfold kR
  cases hq : G8 d r with
  | true =>
   rw [hq] at h
   simp only [cond_true] at h ⊢
   have : j = 0 := by omega
   subst this
   rfl
  | false =>
   rw [hq] at h
   simp only [cond_false] at h ⊢
   cases j with
   | zero =>
    rcases lZ (G8 d) rs (k + 1) with h1 | ⟨i, h1, h2⟩
    ·omega
    ·omega
   | succ j =>
    exact Cv rs (k + 1) j (by simpa using hj) (by rw [h]; congr 1; omega)
theorem AX {s0 : List UInt8} {s1 : List (List PV)} {s2 : Int} {s3 s4 : List (List PV)} (h : bR (.lst gc) (.lst s3)) (d : Int) : aa Ph al 148 [.agg [.pv (.str s0), .pv (.lst s1), .pv (.int .i64 s2), .pv (.lst s3), .pv (.lst s4)], ae .i64 d] = some (ae .i64 (kR d s3)) := by
 obtain ⟨hl, hr⟩ := aD h
 have e1 : aa Ph al 211 [bJ s3, .one (.fn 212 [[.int .i64 d]])] = some (ae .i64 (bN (G8 d) s3 0)) :=
  vT (z := 2) rfl hl (fun r m => iw (hr r m)) (fun r m => by
   obtain ⟨a, b, rfl⟩ := lX (hr r m)
   refine aH (fn := mG) rfl ?_
   simp [mG, qL, G8])
 have e2 : aa Ph al 176 [.agg [.pv (.str s0), .pv (.lst s1), .pv (.int .i64 s2), .pv (.lst s3), .pv (.lst s4)], ae .i64 d] = some (ae .i64 (bN (G8 d) s3 0)) := by
  refine aH (fn := ou) rfl ?_
  simp [ou, kT, o9, e1]
 refine aH (fn := mz) rfl ?_
 by_cases hn : bN (G8 d) s3 0 < 0
 ·rw [Cu s3 0 hn]
  simp [mz, e2, hn]
 ·obtain ⟨j, hj, hfi⟩ := mR hn
  obtain ⟨a, b, hab⟩ := lX (hr _ (List.getElem_mem hj))
  rw [Cv s3 0 j hj (by rw [hfi]; simp), hab]
  rw [hfi] at e2
  have hneg : ¬ (j : Int) < 0 := by omega
  simp [mz, e2, hneg, hj, hab, JH]
theorem MM {s0 : List UInt8} {s1 : List (List PV)} {s2 : Int} {s3 s4 : List (List PV)} {d : Int} (hl : s3.length ≤ maxLen) (hr : ∀ r ∈ s3, be gc r) : ∀ (m k : Nat) (i : Int), i = k → k + m = s3.length → ∀ (x0 x3 x4 x6 x7 x8 x9 x10 x11 x12 x13 x14 x15 x16 x17 x18 x19 x20 x21 x22 x23 x24 x25 x26 : V),
 jm (ah (aq (aa Ph al) ah fL) ⟨(x0 :: ae .i64 d :: .one (.ptr 0 0 0) :: x3 :: x4 :: ae .i64 i :: x6 :: x7 :: x8 :: x9 :: x10 :: x11 :: x12 :: x13 :: x14 :: x15 :: x16 :: x17 :: x18 :: x19 :: x20 :: x21 :: x22 :: x23 :: x24 :: x25 :: x26 :: []), [.box [.pv (.str s0), .pv (.lst s1), .pv (.int .i64 s2), .pv (.lst s3), .pv (.lst s4)]]⟩) fun e σ' => (e = .exit 0 ∧ kR d (s3.drop k) = 0 ∧ ∃ (x0 x3 x4 x6 x7 x8 x9 x10 x11 x12 x13 x14 x15 x16 x17 x18 x19 x20 x21 x22 x23 x24 x25 x26 : V), σ' = ⟨(x0 :: ae .i64 d :: .one (.ptr 0 0 0) :: x3 :: x4 :: ae .i64 (s3.length : Nat) :: x6 :: x7 :: x8 :: x9 :: x10 :: x11 :: x12 :: x13 :: x14 :: x15 :: x16 :: x17 :: x18 :: x19 :: x20 :: x21 :: x22 :: x23 :: x24 :: x25 :: x26 :: []), [.box [.pv (.str s0), .pv (.lst s1), .pv (.int .i64 s2), .pv (.lst s3), .pv (.lst s4)]]⟩) ∨ (e = .ret ∧ σ'.t.length = 27 ∧ σ'.t[4]? = some (ae .i64 (kR d (s3.drop k)))) := by
 generalize hF : aq (aa Ph al) ah fL = F
 intro m
 induction m with
 | zero =>
  intro k i hi hk x0 x3 x4 x6 x7 x8 x9 x10 x11 x12 x13 x14 x15 x16 x17 x18 x19 x20 x21 x22 x23 x24 x25 x26
  subst hi
  have hk' : k = s3.length := by omega
  subst hk'
  rw [aG hF]
  simp (maxSteps := 4000000) [fL, bN, kR, bD]
 | succ m ih =>
  intro k i hi hk x0 x3 x4 x6 x7 x8 x9 x10 x11 x12 x13 x14 x15 x16 x17 x18 x19 x20 x21 x22 x23 x24 x25 x26
  subst hi
  have hlt : k < s3.length := by omega
  have hw := ag (k := k) (by unfold maxLen at hl; omega)
  obtain ⟨a, b, hrk⟩ := lX (hr _ (List.getElem_mem hlt))
  have hp : G8 d s3[k] = (a == d) := by rw [hrk]; rfl
  have hp2 : JH s3[k] = b := by rw [hrk]; rfl
  have key := ih (k + 1) ((k : Int) + 1) (by omega) (by omega)
  clear ih
  rw [List.drop_eq_getElem_cons hlt]
  simp only [kR]
  generalize kR d (s3.drop (k + 1)) = B at key ⊢
  rw [aG hF]
  rw [hp, hp2]; cases c1 : (a == d) <;>
   first
   | omega
   | (simp [fL, hlt, hw, hrk, c1]
      exact key _ _ _ _ _ _ _ _ _ _ _ _ _ _ _ _ _ _ _ _ _ _ _ _)
   | (simp [fL, hlt, hw, hrk, c1, bD]; done)
theorem KY {s0 : List UInt8} {s1 : List (List PV)} {s2 : Int} {s3 s4 : List (List PV)} {d : Int} (hl : s3.length ≤ maxLen) (hr : ∀ r ∈ s3, be gc r) : ∀ (m k : Nat) (i : Int), i = k → k + m = s3.length → ∀ (x0 x3 x4 x6 x7 x8 x9 x10 x11 x12 x13 x14 x15 x16 x17 x18 x19 x20 x21 x22 x23 x24 x25 x26 : V) (σ : St), σ = ⟨(x0 :: ae .i64 d :: .one (.ptr 0 0 0) :: x3 :: x4 :: ae .i64 i :: x6 :: x7 :: x8 :: x9 :: x10 :: x11 :: x12 :: x13 :: x14 :: x15 :: x16 :: x17 :: x18 :: x19 :: x20 :: x21 :: x22 :: x23 :: x24 :: x25 :: x26 :: []), [.box [.pv (.str s0), .pv (.lst s1), .pv (.int .i64 s2), .pv (.lst s3), .pv (.lst s4)]]⟩ →
 jm (ah (aq (aa Ph al) ah fL) σ) fun e σ' => (e = .exit 0 ∧ kR d (s3.drop k) = 0 ∧ ∃ (x0 x3 x4 x6 x7 x8 x9 x10 x11 x12 x13 x14 x15 x16 x17 x18 x19 x20 x21 x22 x23 x24 x25 x26 : V), σ' = ⟨(x0 :: ae .i64 d :: .one (.ptr 0 0 0) :: x3 :: x4 :: ae .i64 (s3.length : Nat) :: x6 :: x7 :: x8 :: x9 :: x10 :: x11 :: x12 :: x13 :: x14 :: x15 :: x16 :: x17 :: x18 :: x19 :: x20 :: x21 :: x22 :: x23 :: x24 :: x25 :: x26 :: []), [.box [.pv (.str s0), .pv (.lst s1), .pv (.int .i64 s2), .pv (.lst s3), .pv (.lst s4)]]⟩) ∨ (e = .ret ∧ σ'.t.length = 27 ∧ σ'.t[4]? = some (ae .i64 (kR d (s3.drop k)))) := by
 intro m k i hi hk x0 x3 x4 x6 x7 x8 x9 x10 x11 x12 x13 x14 x15 x16 x17 x18 x19 x20 x21 x22 x23 x24 x25 x26 σ hσ
 subst hσ
 exact MM hl hr m k i hi hk x0 x3 x4 x6 x7 x8 x9 x10 x11 x12 x13 x14 x15 x16 x17 x18 x19 x20 x21 x22 x23 x24 x25 x26
theorem sW {s0 : List UInt8} {s1 : List (List PV)} {s2 : Int} {s3 s4 : List (List PV)} (h : bR (.lst gc) (.lst s3)) (d : Int) : aa Ph al 147 [.agg [.pv (.str s0), .pv (.lst s1), .pv (.int .i64 s2), .pv (.lst s3), .pv (.lst s4)], ae .i64 d] = some (ae .i64 (kR d s3)) := by
 obtain ⟨hl, hr⟩ := aD h
 refine aH (fn := pq) rfl ?_
 have LP := KY (s0 := s0) (s1 := s1) (s2 := s2) (s4 := s4) (d := d) hl hr s3.length 0 0 rfl (by omega)
 simp only [List.drop_zero] at LP
 generalize hF : aq (aa Ph al) ah fL = F at LP
 simp [pq, hF]
 generalize hσ : St.mk _ _ = σ0
 obtain ⟨e, σ', q1, q3⟩ := (LP _ _ _ _ _ _ _ _ _ _ _ _ _ _ _ _ _ _ _ _ _ _ _ _ σ0 hσ.symm).get
 rw [q1]
 rcases q3 with ⟨rfl, q4, x0, x3, x4, x6, x7, x8, x9, x10, x11, x12, x13, x14, x15, x16, x17, x18, x19, x20, x21, x22, x23, x24, x25, x26, rfl⟩ | ⟨rfl, q5, q7⟩
 ·simp [q4]
 ·obtain ⟨_, q8⟩ := List.getElem?_eq_some_iff.1 q7
  simp [q5, q8]
def bX (s : List UInt8) : Int := cond (s == [98, 97, 110, 107]) 0 (cond (s == [110, 101, 119, 115]) 1 (cond (s == [115, 104, 111, 112]) 2 (-1)))
theorem Bl (a b : List UInt8) : (a == b) = (b == a) := by
 by_cases h : a = b
 ·subst h; rfl
 ·have h' : ¬ b = a := fun e => h e.symm
  rw [beq_eq_false_iff_ne.2 h, beq_eq_false_iff_ne.2 h']
theorem fG (s : List UInt8) : aa Ph al 154 [eX s] = some (ae .i64 (bX s)) := by
 have e1 : aa Ph al 182 [bJ [[.str [98, 97, 110, 107]], [.str [110, 101, 119, 115]], [.str [115, 104, 111, 112]]], eX s] = some (ae .i64 (bX s)) := by
  refine aH (fn := iv) rfl ?_
  generalize hF : aq (aa Ph al) ah bv = F
  unfold bX
  simp [iv, hF]
  cases h1 : (s == [98, 97, 110, 107])
  ·cases h2 : (s == [110, 101, 119, 115])
   ·cases h3 : (s == [115, 104, 111, 112])
    ·rw [aG hF]; simp [bv, h1, IntKind.wrap_i64]
     rw [aG hF]; simp [bv, h2, IntKind.wrap_i64]
     rw [aG hF]; simp [bv, h3, IntKind.wrap_i64]
     rw [aG hF]; simp [bv]
    ·rw [aG hF]; simp [bv, h1, IntKind.wrap_i64]
     rw [aG hF]; simp [bv, h2, IntKind.wrap_i64]
     rw [aG hF]; simp [bv, h3]
   ·rw [aG hF]; simp [bv, h1, IntKind.wrap_i64]
    rw [aG hF]; simp [bv, h2]
  ·rw [aG hF]; simp [bv, h1]
 refine aH (fn := mA) rfl ?_
 simp [mA, e1]
theorem iK (s : List UInt8) : aa Ph al 153 [eX s] = some (ae .i64 (bX s)) := by
 have e1 : aa Ph al 181 [] = some (.one (.own 1 [[.str [98, 97, 110, 107]], [.str [110, 101, 119, 115]], [.str [115, 104, 111, 112]]])) := by
  refine aH (fn := jM) rfl ?_
  simp [jM]
 refine aH (fn := mM) rfl ?_
 generalize hF : aq (aa Ph al) ah cC = F
 unfold bX
 rw [Bl s [98, 97, 110, 107], Bl s [110, 101, 119, 115], Bl s [115, 104, 111, 112]]
 simp [mM, hF, e1]
 cases h1 : (([98, 97, 110, 107] : List UInt8) == s)
 ·cases h2 : (([110, 101, 119, 115] : List UInt8) == s)
  ·cases h3 : (([115, 104, 111, 112] : List UInt8) == s)
   ·rw [aG hF]; simp [cC, h1, IntKind.wrap_i64]
    rw [aG hF]; simp [cC, h2, IntKind.wrap_i64]
    rw [aG hF]; simp [cC, h3, IntKind.wrap_i64]
    rw [aG hF]; simp [cC]
   ·rw [aG hF]; simp [cC, h1, IntKind.wrap_i64]
    rw [aG hF]; simp [cC, h2, IntKind.wrap_i64]
    rw [aG hF]; simp [cC, h3]
  ·rw [aG hF]; simp [cC, h1, IntKind.wrap_i64]
   rw [aG hF]; simp [cC, h2]
 ·rw [aG hF]; simp [cC, h1]
theorem Et {r : List PV} (h : be fO r) : ∃ a b s fs, r = [.int .i64 a, .int .i64 b, .str s, .lst fs] ∧ bR (.lst dx) (.lst fs) := by
 obtain ⟨⟨c0, c1, c2, c3, _⟩, rfl, g0, g1, g2, g3, _⟩ := cf h
 exact ⟨c0, c1, c2, c3, rfl, g3⟩
theorem vC {r : List PV} (h : be dx r) : ∃ a n, r = [.str a, .int .i64 n] := by
 obtain ⟨⟨c0, c1, _⟩, rfl, g0, g1, _⟩ := cf h
 exact ⟨c0, c1, rfl⟩
def Is (a b : Int) (s : List UInt8) : List PV → Bool
 | [.int _ a', .int _ b', .str s', _] => a' == a && (b' == b && s' == s)
 | _ => false
theorem xa {r : List PV} (h : be fO r) (a b : Int) (s : List UInt8) : aa Ph al 216 (.agg (r.map .pv) :: [[.int .i64 a, .int .i64 b, .str s]].map qL) = some (aj (Is a b s r)) := by
 obtain ⟨a', b', s', fs, rfl, _⟩ := Et h
 refine aH (fn := mr) rfl ?_
 simp [mr, qL, kF, GP, Is]
theorem yU {nm : List UInt8} {rows : List (List PV)} {nx : Int} (h : bR (.lst fO) (.lst rows)) (a b : Int) (s : List UInt8) : aa Ph al 188 [.agg [.pv (.str nm), .pv (.lst rows), .pv (.int .i64 nx)], .agg [.pv (.int .i64 a), .pv (.int .i64 b), .pv (.str s)]] = some (ae .i64 (bN (Is a b s) rows 0)) := by
 obtain ⟨hl, hr⟩ := aD h
 have e1 : aa Ph al 215 [bJ rows, .one (.fn 216 [[.int .i64 a, .int .i64 b, .str s]])] = some (ae .i64 (bN (Is a b s) rows 0)) :=
  vT (z := 4) rfl hl (fun r m => iw (hr r m)) (fun r m => xa (hr r m) a b s)
 refine aH (fn := og) rfl ?_
 simp [og, kT, o9, e1]
theorem KW {nm : List UInt8} {rows : List (List PV)} {nx a b : Int} {s : List UInt8} (hl : rows.length ≤ maxLen) (hr : ∀ r ∈ rows, be fO r) : ∀ (m k : Nat) (i : Int), i = k → k + m = rows.length → ∀ (x0 x1 x4 x6 x7 x8 x9 x10 x11 x12 x13 x14 x15 x16 x17 x18 x19 x20 x21 : V) (h : List AObj),
 jm (ah (aq (aa Ph al) ah fq) ⟨(x0 :: x1 :: .one (.ptr 0 0 0) :: .one (.ptr 1 0 0) :: x4 :: ae .i64 i :: x6 :: x7 :: x8 :: x9 :: x10 :: x11 :: x12 :: x13 :: x14 :: x15 :: x16 :: x17 :: x18 :: x19 :: x20 :: x21 :: []), .box [.pv (.str nm), .pv (.lst rows), .pv (.int .i64 nx)] :: .box [.pv (.int .i64 a), .pv (.int .i64 b), .pv (.str s)] :: h⟩) fun e σ' => (e = .exit 0 ∧ bN (Is a b s) (rows.drop k) k = -1 ∧ ∃ (x0 x1 x4 x6 x7 x8 x9 x10 x11 x12 x13 x14 x15 x16 x17 x18 x19 x20 x21 : V) (h' : List AObj), σ' = ⟨(x0 :: x1 :: .one (.ptr 0 0 0) :: .one (.ptr 1 0 0) :: x4 :: ae .i64 (rows.length : Nat) :: x6 :: x7 :: x8 :: x9 :: x10 :: x11 :: x12 :: x13 :: x14 :: x15 :: x16 :: x17 :: x18 :: x19 :: x20 :: x21 :: []), .box [.pv (.str nm), .pv (.lst rows), .pv (.int .i64 nx)] :: .box [.pv (.int .i64 a), .pv (.int .i64 b), .pv (.str s)] :: h'⟩) ∨ (e = .ret ∧ σ'.t.length = 22 ∧ σ'.t[4]? = some (ae .i64 (bN (Is a b s) (rows.drop k) k))) := by
 generalize hF : aq (aa Ph al) ah fq = F
 intro m
 induction m with
 | zero =>
  intro k i hi hk x0 x1 x4 x6 x7 x8 x9 x10 x11 x12 x13 x14 x15 x16 x17 x18 x19 x20 x21 h
  subst hi
  have hk' : k = rows.length := by omega
  subst hk'
  rw [aG hF]
  simp (maxSteps := 4000000) [fq, bN, bD]
 | succ m ih =>
  intro k i hi hk x0 x1 x4 x6 x7 x8 x9 x10 x11 x12 x13 x14 x15 x16 x17 x18 x19 x20 x21 h
  subst hi
  have hlt : k < rows.length := by omega
  have hw := ag (k := k) (by unfold maxLen at hl; omega)
  obtain ⟨a', b', s', fs, hrk, _⟩ := Et (hr _ (List.getElem_mem hlt))
  have hp : Is a b s rows[k] = (a' == a && (b' == b && s' == s)) := by rw [hrk]; rfl
  have hq : kF [.i, .i, .s] [.pv (.int .i64 a'), .pv (.int .i64 b'), .pv (.str s')] [.pv (.int .i64 a), .pv (.int .i64 b), .pv (.str s)] = some (Is a b s rows[k]) := by rw [hp]; simp [kF, GP]
  have key := ih (k + 1) ((k : Int) + 1) (by omega) (by omega)
  clear ih
  rw [List.drop_eq_getElem_cons hlt]
  simp only [bN]
  generalize bN (Is a b s) (rows.drop (k + 1)) (k + 1) = B at key ⊢
  rw [aG hF]
  generalize Is a b s rows[k] = q at hq ⊢; cases q <;>
   first
   | omega
   | (simp [fq, hlt, hw, hrk, hq]
      exact key _ _ _ _ _ _ _ _ _ _ _ _ _ _ _ _ _ _ _ _)
   | (simp [fq, hlt, hw, hrk, hq, bD]; done)
theorem ID {nm : List UInt8} {rows : List (List PV)} {nx a b : Int} {s : List UInt8} (hl : rows.length ≤ maxLen) (hr : ∀ r ∈ rows, be fO r) : ∀ (m k : Nat) (i : Int), i = k → k + m = rows.length → ∀ (x0 x1 x4 x6 x7 x8 x9 x10 x11 x12 x13 x14 x15 x16 x17 x18 x19 x20 x21 : V) (h : List AObj) (σ : St), σ = ⟨(x0 :: x1 :: .one (.ptr 0 0 0) :: .one (.ptr 1 0 0) :: x4 :: ae .i64 i :: x6 :: x7 :: x8 :: x9 :: x10 :: x11 :: x12 :: x13 :: x14 :: x15 :: x16 :: x17 :: x18 :: x19 :: x20 :: x21 :: []), .box [.pv (.str nm), .pv (.lst rows), .pv (.int .i64 nx)] :: .box [.pv (.int .i64 a), .pv (.int .i64 b), .pv (.str s)] :: h⟩ →
 jm (ah (aq (aa Ph al) ah fq) σ) fun e σ' => (e = .exit 0 ∧ bN (Is a b s) (rows.drop k) k = -1 ∧ ∃ (x0 x1 x4 x6 x7 x8 x9 x10 x11 x12 x13 x14 x15 x16 x17 x18 x19 x20 x21 : V) (h' : List AObj), σ' = ⟨(x0 :: x1 :: .one (.ptr 0 0 0) :: .one (.ptr 1 0 0) :: x4 :: ae .i64 (rows.length : Nat) :: x6 :: x7 :: x8 :: x9 :: x10 :: x11 :: x12 :: x13 :: x14 :: x15 :: x16 :: x17 :: x18 :: x19 :: x20 :: x21 :: []), .box [.pv (.str nm), .pv (.lst rows), .pv (.int .i64 nx)] :: .box [.pv (.int .i64 a), .pv (.int .i64 b), .pv (.str s)] :: h'⟩) ∨ (e = .ret ∧ σ'.t.length = 22 ∧ σ'.t[4]? = some (ae .i64 (bN (Is a b s) (rows.drop k) k))) := by
 intro m k i hi hk x0 x1 x4 x6 x7 x8 x9 x10 x11 x12 x13 x14 x15 x16 x17 x18 x19 x20 x21 h σ hσ
 subst hσ
 exact KW hl hr m k i hi hk x0 x1 x4 x6 x7 x8 x9 x10 x11 x12 x13 x14 x15 x16 x17 x18 x19 x20 x21 h
theorem zr {nm : List UInt8} {rows : List (List PV)} {nx : Int} (h : bR (.lst fO) (.lst rows)) (a b : Int) (s : List UInt8) : aa Ph al 184 [.agg [.pv (.str nm), .pv (.lst rows), .pv (.int .i64 nx)], .agg [.pv (.int .i64 a), .pv (.int .i64 b), .pv (.str s)]] = some (ae .i64 (bN (Is a b s) rows 0)) := by
 obtain ⟨hl, hr⟩ := aD h
 refine aH (fn := ow) rfl ?_
 have LP := ID (nm := nm) (nx := nx) (a := a) (b := b) (s := s) hl hr rows.length 0 0 rfl (by omega)
 simp only [List.drop_zero] at LP
 generalize hF : aq (aa Ph al) ah fq = F at LP
 simp [ow, hF]
 generalize hσ : St.mk _ _ = σ0
 obtain ⟨e, σ', q1, q3⟩ := (LP _ _ _ _ _ _ _ _ _ _ _ _ _ _ _ _ _ _ _ _ σ0 hσ.symm).get
 rw [q1]
 rcases q3 with ⟨rfl, q4, x0, x1, x4, x6, x7, x8, x9, x10, x11, x12, x13, x14, x15, x16, x17, x18, x19, x20, x21, h', rfl⟩ | ⟨rfl, q5, q7⟩
 ·simp [q4]
 ·obtain ⟨_, q8⟩ := List.getElem?_eq_some_iff.1 q7
  simp [q5, q8]
def tK (nm : List UInt8) : List PV → Bool
 | .str a :: _ => a == nm
 | _ => false
def fN : List PV → Int
 | [_, .int _ n] => n
 | _ => 0
def lN (nm : List UInt8) : List (List PV) → Int × Bool
 | [] => (0, false)
 | r :: rs => cond (tK nm r) (fN r, true) (lN nm rs)
def wC (v : Int × Bool) : V := .tup [(false, [.pv (.int .i64 v.1)]), (false, [.pv (.bool v.2)])]
theorem Ek {nm : List UInt8} : ∀ {rows : List (List PV)} {k : Nat}, bN (tK nm) rows k < 0 → lN nm rows = (0, false)
 | [], _, _ => rfl
 | r :: rows, k, h => by
  unfold bN at h
  unfold lN
  cases q : tK nm r with
  | true => rw [q, cond_true] at h; omega
  | false => rw [q, cond_false] at h; exact Ek h
theorem El {nm : List UInt8} : ∀ {rows : List (List PV)} {k j : Nat}, bN (tK nm) rows k = ((k + j : Nat) : Int) → ∀ hj : j < rows.length, lN nm rows = (fN rows[j], true)
 | [], _, _, _, hj => by simp at hj
 | r :: rows, k, j, h, hj => by
  unfold bN at h
  unfold lN
  cases q : tK nm r with
  | true =>
   rw [q, cond_true] at h
   obtain rfl : j = 0 := by omega
   rfl
  | false =>
   rw [q, cond_false] at h
   cases j with
   | zero =>
    rcases lZ (tK nm) rows (k + 1) with h1 | ⟨j, h1, h2⟩ <;> omega
   | succ j => exact El (k := k + 1) (j := j) (by rw [h]; congr 1; omega) (by simpa using hj)
theorem zc {r : List PV} (h : be dx r) (nm : List UInt8) : aa Ph al 241 (.agg (r.map .pv) :: [[.str nm]].map qL) = some (aj (tK nm r)) := by
 obtain ⟨a, n, rfl⟩ := vC h
 refine aH (fn := nw) rfl ?_
 simp [nw, qL, tK]
theorem sS {rows : List (List PV)} (h : bR (.lst dx) (.lst rows)) (nm : List UInt8) : aa Ph al 217 [.agg [.pv (.lst rows)], eX nm] = some (ae .i64 (bN (tK nm) rows 0)) := by
 obtain ⟨hl, hr⟩ := aD h
 have e1 : aa Ph al 240 [bJ rows, .one (.fn 241 [[.str nm]])] = some (ae .i64 (bN (tK nm) rows 0)) :=
  vT (z := 2) rfl hl (fun r m => iw (hr r m)) (fun r m => zc (hr r m) nm)
 refine aH (fn := pj) rfl ?_
 simp [pj, kT, o9, e1]
theorem kK {rows : List (List PV)} (h : bR (.lst dx) (.lst rows)) (nm : List UInt8) : aa Ph al 190 [.agg [.pv (.lst rows)], eX nm] = some (wC (lN nm rows)) := by
 have e1 := sS h nm
 refine aH (fn := lk) rfl ?_
 by_cases hn : bN (tK nm) rows 0 < 0
 ·rw [Ek hn]
  simp [lk, e1, hn, wC]
 ·obtain ⟨j, hj, hfi⟩ := mR hn
  rw [El (k := 0) (j := j) (by simpa using hfi) hj]
  rw [hfi] at e1
  have hneg : ¬ (j : Int) < 0 := by omega
  obtain ⟨a, n, hr⟩ := vC ((aD h).2 _ (List.getElem_mem hj))
  simp [lk, e1, hneg, hj, hr, wC, fN]
theorem MI {rows : List (List PV)} {nm : List UInt8} (hl : rows.length ≤ maxLen) (hr : ∀ r ∈ rows, be dx r) : ∀ (m k : Nat) (i : Int), i = k → k + m = rows.length → ∀ (x0 x3 x4 x5 x7 x8 x9 x10 x11 x12 x13 x14 x15 x16 x17 x18 x19 x20 x21 x22 x23 x24 x25 x26 x27 : V) (h : List AObj) (σ : St), σ = ⟨(x0 :: eX nm :: .one (.ptr 0 0 0) :: x3 :: x4 :: x5 :: ae .i64 i :: x7 :: x8 :: x9 :: x10 :: x11 :: x12 :: x13 :: x14 :: x15 :: x16 :: x17 :: x18 :: x19 :: x20 :: x21 :: x22 :: x23 :: x24 :: x25 :: x26 :: x27 :: []), .box [.pv (.lst rows)] :: h⟩ →
 jm (ah (aq (aa Ph al) ah fV) σ) fun e σ' => (e = .exit 0 ∧ lN nm (rows.drop k) = (0, false) ∧ ∃ (x0 x3 x4 x5 x7 x8 x9 x10 x11 x12 x13 x14 x15 x16 x17 x18 x19 x20 x21 x22 x23 x24 x25 x26 x27 : V) (h' : List AObj), σ' = ⟨(x0 :: eX nm :: .one (.ptr 0 0 0) :: x3 :: x4 :: x5 :: ae .i64 (rows.length : Nat) :: x7 :: x8 :: x9 :: x10 :: x11 :: x12 :: x13 :: x14 :: x15 :: x16 :: x17 :: x18 :: x19 :: x20 :: x21 :: x22 :: x23 :: x24 :: x25 :: x26 :: x27 :: []), .box [.pv (.lst rows)] :: h'⟩) ∨ (e = .ret ∧ σ'.t.length = 28 ∧ σ'.t[4]? = some (ae .i64 (lN nm (rows.drop k)).1) ∧ σ'.t[5]? = some (aj (lN nm (rows.drop k)).2)) := by
 generalize hF : aq (aa Ph al) ah fV = F
 intro m
 induction m with
 | zero =>
  intro k i hi hk x0 x3 x4 x5 x7 x8 x9 x10 x11 x12 x13 x14 x15 x16 x17 x18 x19 x20 x21 x22 x23 x24 x25 x26 x27 h σ hσ
  subst hi hσ
  have hk' : k = rows.length := by omega
  subst hk'
  rw [aG hF]
  simp [fV, bD, lN]
 | succ m ih =>
  intro k i hi hk x0 x3 x4 x5 x7 x8 x9 x10 x11 x12 x13 x14 x15 x16 x17 x18 x19 x20 x21 x22 x23 x24 x25 x26 x27 h σ hσ
  subst hi hσ
  have hlt : k < rows.length := by omega
  have hw := ag (k := k) (by unfold maxLen at hl; omega)
  obtain ⟨a, n, hrk⟩ := vC (hr _ (List.getElem_mem hlt))
  have key := ih (k + 1) ((k : Int) + 1) (by omega) (by omega)
  clear ih
  rw [List.drop_eq_getElem_cons hlt]
  have hg : lN nm (rows[k] :: rows.drop (k + 1)) = cond (a == nm) (n, true) (lN nm (rows.drop (k + 1))) := by rw [hrk]; rfl
  rw [hg]
  generalize lN nm (rows.drop (k + 1)) = B at key ⊢
  rw [aG hF]
  cases c : (a == nm)
  ·simp [fV, hlt, hw, hrk, c]
   exact key _ _ _ _ _ _ _ _ _ _ _ _ _ _ _ _ _ _ _ _ _ _ _ _ _ _ _ rfl
  ·simp [fV, hlt, hw, hrk, c, bD]
theorem kN {rows : List (List PV)} (h : bR (.lst dx) (.lst rows)) (nm : List UInt8) : aa Ph al 186 [.agg [.pv (.lst rows)], eX nm] = some (wC (lN nm rows)) := by
 obtain ⟨hl, hr⟩ := aD h
 refine aH (fn := oz) rfl ?_
 have LP := MI (nm := nm) hl hr rows.length 0 0 rfl (by omega)
 simp only [List.drop_zero] at LP
 generalize hF : aq (aa Ph al) ah fV = F at LP
 simp [oz, hF]
 generalize hσ : St.mk _ _ = σ0
 obtain ⟨e, σ', q1, q3⟩ := (LP _ _ _ _ _ _ _ _ _ _ _ _ _ _ _ _ _ _ _ _ _ _ _ _ _ _ σ0 hσ.symm).get
 rw [q1]
 rcases q3 with ⟨rfl, q4, x0, x3, x4, x5, x7, x8, x9, x10, x11, x12, x13, x14, x15, x16, x17, x18, x19, x20, x21, x22, x23, x24, x25, x26, x27, h', rfl⟩ | ⟨rfl, q5, q6, q7⟩
 ·simp [q4, wC]
 ·obtain ⟨_, q8⟩ := List.getElem?_eq_some_iff.1 q6
  obtain ⟨_, q9⟩ := List.getElem?_eq_some_iff.1 q7
  simp [q5, q8, q9, wC]
end Gi
namespace Gi
open Go Go.RowKit
set_option maxHeartbeats 4000000
set_option maxRecDepth 4000
attribute [local simp] bW eM aq am bg bt cF dN Opd.ev put V.cells plain bz hJ isInt isStr isBool bin bf aS aR un asList L.view aB V.view viewL done bC aC aT cj comp bq bZ a8 V.flat L.flat dX dJ bS putAt thaw thawL freezeVs freezeLs freezeL V.mut L.mut bm aZ bB
theorem sr : ∀ {ps : List PV} {p : PV}, p ∈ ps → sz p ≤ gO ps
 | q :: ps, p, h => by
  simp only [gO]
  rcases List.mem_cons.1 h with rfl | h
  ·omega
  ·have := sr h
   omega
theorem pC {rows : List (List PV)} (h : bR (.lst dx) (.lst rows)) (hn : rows.length ≤ 1048576) : aa Ph al 242 [.agg [.pv (.lst rows)]] = some (.agg [.own 2 rows]) := by
 have hall : rows.all (fun e => e.length == 2) = true := by
  rw [List.all_eq_true]
  intro r m
  have : r.length = 2 := iw ((aD h).2 r m)
  simpa using this
 have c1 : rows.length * 24 ≤ 140737488355328 := by omega
 have c2 : rows.length ≤ 9223372036854775807 := by omega
 refine aH (fn := mF) rfl ?_
 simp [mF, L.notArr, ↓hall, c1, c2]
theorem t7 {rows : List (List PV)} (h : bR (.lst dx) (.lst rows)) (hn : rows.length ≤ 1048576) : aa Ph al 239 [.agg [.pv (.lst rows)]] = some (.agg [.own 2 rows]) := by
 have hall : rows.all (fun e => e.length == 2) = true := by
  rw [List.all_eq_true]
  intro r m
  have : r.length = 2 := iw ((aD h).2 r m)
  simpa using this
 have c1 : rows.length * 24 ≤ 140737488355328 := by omega
 have c2 : rows.length ≤ 9223372036854775807 := by omega
 refine aH (fn := qA) rfl ?_
 simp [qA, L.notArr, ↓hall, c1, c2]
theorem zb {a b : Int} {s : List UInt8} {fs : List (List PV)} (h : bR (.lst dx) (.lst fs)) (hn : fs.length ≤ 1048576) : aa Ph al 218 [.agg [.pv (.int .i64 a), .pv (.int .i64 b), .pv (.str s), .pv (.lst fs)]] = some (.agg [.pv (.int .i64 a), .pv (.int .i64 b), .pv (.str s), .pv (.lst fs)]) := by
 have e1 := pC h hn
 refine aH (fn := ot) rfl ?_
 simp [ot, e1]
theorem CP {a b : Int} {s : List UInt8} {fs : List (List PV)} (h : bR (.lst dx) (.lst fs)) (hn : fs.length ≤ 1048576) : aa Ph al 214 [.agg [.pv (.int .i64 a), .pv (.int .i64 b), .pv (.str s), .pv (.lst fs)]] = some (.agg [.pv (.int .i64 a), .pv (.int .i64 b), .pv (.str s), .pv (.lst fs)]) := by
 have e1 := t7 h hn
 refine aH (fn := qC) rfl ?_
 simp [qC, e1]
end Gi
