/- Of this proof. -/
import Derived.Test.YtlohbkffhpnfgaaGreatGkr
import Derived.Test.YtlohbkffhpnfgaaGreatGxt
set_option linter.unusedSimpArgs false
set_option linter.unusedVariables false
namespace Gi
open Go Go.RowKit
set_option maxHeartbeats 8000000
set_option maxRecDepth 4000
attribute [local simp] bt sJ bf bW dV fU dU fT fZ fY uF uO uG uP uH uQ uI uR uJ uS uK uT uL uU uM uV uN uW V.cells plain bm f4 isInt isStr isBool bin cT jJ cU jK fV un asList L.view am V.view viewL aR au cX cd bO comp aJ br dv cq bH bF bG bN bi cu aW bJ aP aX bL cy bK bI bM V.flat L.flat dF di bz putAt thaw thawL thawT V.ow fX dX dY cV fW cW dW freezeVs freezeLs freezeL V.mut L.mut aI fi iV aL bd aD dh bD bh bR L.ren aT dG cf dK bS bB wp_seq wp_block bE ed cY ce cZ wp_skip wp_exit wp_ret cK cJ cP cL df dg de cj aV L.notArr aO aM aN dZ bn storeD ba fK bq cB be ny L.mov L.closed V.closed PV.bare PV.flat
theorem Qv (m : Nat) : kJ .shr .i64 (m : Int) 7 = some (aa .i64 ((m : Int) / 128)) := by
 have e : (min (Int.toNat 7) IntKind.i64.bits) = 7 := by decide
 simp only [kJ]
 rw [if_neg (by omega)]
 simp only [e]
 rw [show ((2 : Int) ^ 7) = 128 by decide, Int.fdiv_eq_ediv_of_nonneg _ (by omega)]
theorem iH {b : List UInt8} (hb : b.length ≤ 1048000) {n : Nat} (hn : n ≤ 1000000000000) : ae Ph aF 244 [bu (ak b), aa .i64 (n : Int)] = some (.one (.own 1 (ak (b ++ p8 n)))) := by
 have e1 : rg (n : Int) 0 1000000000000 = true := CE.2 ⟨by omega, by omega⟩
 have e2 := bp (n : Int) 0 1000000000000
 rw [e1] at e2
 have w1 := iy b
 have m0 : b.length ≤ 140737488355328 ∧ b.length ≤ 9223372036854775807 := by omega
 refine ab (fn := i7) rfl ?_
 simp (maxSteps := 9999999) [i7, e2, w1, m0, bo]
 refine NJ aQ Cl.fin [.f,.t,.f,.f,.f,.t,.f,.f,.f,.f,.f,.f,.f,.f,.f,.f,.f,.f,.f,.f,.f,.f,.f,.f,.f,.f,.f,.f,.f] (fun a => [(1, aa .i64 (a.2.1 : Nat)), (5, .one (.arr 0))]) (fun a => [.arr 1 (ak a.2.2)]) yF (fun a => a.2.1) (P2 b (b ++ p8 n)) (5, n, b) ⟨by show n < 128 ^ 6; omega, rfl, by simp, hn⟩ rfl (Kn.of [1] (by decide) (by simp) (by simp)) (fun a a' ia ha => ?_) (fun a ia ha => ?_)
 ·obtain ⟨f, m, o⟩ := a
  obtain ⟨hm, hi, rfl⟩ := Iy ia ha
  obtain ⟨_, _, hl, hmx⟩ := ia
  simp only at hl hmx
  have hlt : dE (m : Int) 128 = false := wg (by omega)
  have hlt2 : dE 127 (m : Int) = true := lG (by omega)
  have q := Gy (n := m % 128 + 128) (by omega)
  have m1 : o.length ≤ 140737488355327 ∧ o.length ≤ 9223372036854775806 := by omega
  have m2 := eI (m := o.length + 1) (z := 1) (by omega) (by omega)
  have r1 := OX (n := m) (by omega)
  have r2 := Qv m
  have r3 := PX (n := m % 128) (by omega)
  have e : ((m % 128 : Nat) : Int) = (m : Int) % 128 := by omega
  have e' : ((m % 128 + 128 : Nat) : Int) = (m : Int) % 128 + 128 := by omega
  rw [e] at r1 r3
  rw [e'] at r3
  have r4 : IntKind.i64.wrap ((m : Int) / 128) = (m : Int) / 128 := by rw [IntKind.wrap_i64]; omega
  have r5 : IntKind.u8.wrap ((m : Int) % 128 + 128) = (m : Int) % 128 + 128 := by have := q.1; simpa using this
  have r6 : ((m : Int) % 128 + 128) % 256 = (m : Int) % 128 + 128 := by omega
  refine ⟨by show m / 128 < m; omega, hi, ?_⟩
  simp (maxSteps := 9999999) [fD, hlt, hlt2, ↓r1, r2, ↓r3, r4, r5, m1, m2, jo, bo, -fi]
  exact Kn.of [2] (by decide) (by simp [jo, r5, r6]) (by simp [r4])
 ·obtain ⟨f, m, o⟩ := a
  obtain ⟨hm, hi⟩ := KB ia ha
  obtain ⟨_, _, hl, hmx⟩ := ia
  simp only at hl hmx
  have hlt : dE (m : Int) 128 = true := lG (by omega)
  have hlt2 : dE 127 (m : Int) = false := wg (by omega)
  have q := Gy (n := m) (by omega)
  have m1 : o.length ≤ 140737488355327 ∧ o.length ≤ 9223372036854775806 := by omega
  have m2 := eI (m := o.length + 1) (z := 1) (by omega) (by omega)
  rw [← hi]
  simp (maxSteps := 9999999) [fD, hlt, hlt2, q, m1, m2, jo, bo]
theorem yY (s u : List UInt8) : ak (s ++ u) = ak s ++ ak u := by simp [ak]
theorem sN {b s : List UInt8} (hb : b.length ≤ 1048000) (hs : s.length ≤ 1048576) : ae Ph aF 248 [bu (ak b), bu (ak s)] = some (.one (.own 1 (ak (b ++ GE s)))) := by
 have e1 := iF hb (n := s.length) (by omega)
 have w1 := iy s
 have hl := qy s.length
 have m1 : b.length + (p8 s.length).length + s.length ≤ 140737488355328 ∧ b.length + (p8 s.length).length + s.length ≤ 9223372036854775807 := by omega
 rw [show b ++ GE s = (b ++ p8 s.length) ++ s by simp [GE]]
 have e : ak ((b ++ p8 s.length) ++ s) = ak (b ++ p8 s.length) ++ ak s := yY _ _
 rw [e]
 refine ab (fn := j6) rfl ?_
 simp (maxSteps := 9999999) [j6, e1, w1, m1, bo]
theorem sX {b s : List UInt8} (hb : b.length ≤ 1048000) (hs : s.length ≤ 1048576) : ae Ph aF 245 [bu (ak b), bu (ak s)] = some (.one (.own 1 (ak (b ++ GE s)))) := by
 have e1 := iH hb (n := s.length) (by omega)
 have w1 := iy s
 have hl := qy s.length
 have m1 : b.length + (p8 s.length).length + s.length ≤ 140737488355328 ∧ b.length + (p8 s.length).length + s.length ≤ 9223372036854775807 := by omega
 rw [show b ++ GE s = (b ++ p8 s.length) ++ s by simp [GE]]
 have e : ak ((b ++ p8 s.length) ++ s) = ak (b ++ p8 s.length) ++ ak s := yY _ _
 rw [e]
 refine ab (fn := kq) rfl ?_
 simp (maxSteps := 9999999) [kq, e1, w1, m1, bo]
def yO (r : XRecord) : V := cond (m9 r.fs) (bu (ak (qF r))) (.one (.own 1 []))
theorem CH (r : XRecord) : dF (yO r) = bu (ak (qF r)) := by
 unfold yO
 cases c : m9 r.fs
 ·simp [qF, c, dF, di, ak]
 ·rfl
theorem qZ {r : XRecord} (h : r.Ok maxLen) : ae Ph aF 226 [r.v] = some (yO r) := by
 have e1 := pL h
 unfold yO
 refine ab (fn := gD) rfl ?_
 cases c1 : m9 r.fs <;> rw [c1] at e1
 ·simp (maxSteps := 9999999) [gD, e1]
 obtain ⟨hf, ho⟩ := yq (r := r) c1
 have e2 := iF (b := []) (by simp) (n := r.fs.length) (by omega)
 rw [List.nil_append, show ak [] = [] from rfl] at e2
 simp (maxSteps := 9999999) [gD, e1, e2]
 refine aA aQ Cl.fin [.f,.f,.f,.t,.f,.f,.f,.f,.f,.f,.f,.f,.f,.f,.f,.t,.t,.t,.f,.f,.f,.f,.f,.f,.f,.f,.f,.f,.f,.f,.f] (fun k => [(3, bu (ak (p8 r.fs.length ++ gY (r.fs.take k)))), (17, aa .i64 k)]) r.fs.length (fun _ => false) rfl (by simp [gY]) (fun k hk _ => ?_) (fun _ _ => ?_)
 ·have hx := XField.e.eq_1 r.fs[k]
  have hq := ho _ (List.getElem_mem hk)
  have l1 := qy r.fs.length
  have l2 := su (r.fs.take k) (fun f hf => ho f (List.mem_of_mem_take hf))
  have l3 : (r.fs.take k).length ≤ 6 := by rw [List.length_take]; omega
  have l4 := qy r.fs[k].name.length
  have e3 := sN (b := p8 r.fs.length ++ gY (r.fs.take k)) (s := r.fs[k].name) (by rw [List.length_append]; omega) (by have := hq.1; omega)
  have e4 := iF (b := p8 r.fs.length ++ gY (r.fs.take k) ++ GE r.fs[k].name) (by simp only [List.length_append, GE]; have := hq.1; omega) (n := r.fs[k].n.toNat) (by have := hq.2.2; omega)
  rw [show ((r.fs[k].n.toNat : Nat) : Int) = r.fs[k].n by have := hq.2.1; omega] at e4
  have ht : gY (r.fs.take (k + 1)) = gY (r.fs.take k) ++ (GE r.fs[k].name ++ p8 r.fs[k].n.toNat) := by
   unfold gY; rw [List.take_succ_eq_append_getElem hk, List.flatMap_append]; simp [NZ]
  have ha : p8 r.fs.length ++ gY (r.fs.take (k + 1)) = p8 r.fs.length ++ gY (r.fs.take k) ++ GE r.fs[k].name ++ p8 r.fs[k].n.toNat := by rw [ht]; simp
  rw [ha]
  generalize p8 r.fs.length ++ gY (r.fs.take k) = W at e3 e4 ⊢
  generalize W ++ GE r.fs[k].name = W2 at e3 e4 ⊢
  generalize W2 ++ p8 r.fs[k].n.toNat = W3 at e4 ⊢
  simp (maxSteps := 9999999) [fP, hk, hx, e3, e4, aE h.1 hk, aU hk]
 ·have he : qF r = p8 r.fs.length ++ gY r.fs := by simp [qF, c1]
  rw [he]
  simp (maxSteps := 9999999) [fP]
theorem rS {r : XRecord} (h : r.Ok maxLen) : ae Ph aF 222 [r.v] = some (yO r) := by
 have e1 := pV h
 unfold yO
 refine ab (fn := gE) rfl ?_
 cases c1 : m9 r.fs <;> rw [c1] at e1
 ·simp (maxSteps := 9999999) [gE, e1]
 obtain ⟨hf, ho⟩ := yq (r := r) c1
 have e2 := iH (b := []) (by simp) (n := r.fs.length) (by omega)
 rw [List.nil_append, show ak [] = [] from rfl] at e2
 simp (maxSteps := 9999999) [gE, e1, e2]
 refine aA aQ Cl.fin [.f,.t,.f,.t,.t,.f,.f,.f,.f,.f,.f,.f,.f,.f,.f,.f,.f,.f,.f,.f,.f,.f,.f,.f,.f,.f,.f,.f,.f,.f,.f,.f,.f,.f,.f,.f,.f,.f] (fun k => [(3, bu (ak (p8 r.fs.length ++ gY (r.fs.take k)))), (4, aa .i64 k)]) r.fs.length (fun _ => false) rfl (by simp [gY]) (fun k hk _ => ?_) (fun _ _ => ?_)
 ·have hx := XField.e.eq_1 r.fs[k]
  have hq := ho _ (List.getElem_mem hk)
  have l1 := qy r.fs.length
  have l2 := su (r.fs.take k) (fun f hf => ho f (List.mem_of_mem_take hf))
  have l3 : (r.fs.take k).length ≤ 6 := by rw [List.length_take]; omega
  have l4 := qy r.fs[k].name.length
  have e3 := sX (b := p8 r.fs.length ++ gY (r.fs.take k)) (s := r.fs[k].name) (by rw [List.length_append]; omega) (by have := hq.1; omega)
  have e4 := iH (b := p8 r.fs.length ++ gY (r.fs.take k) ++ GE r.fs[k].name) (by simp only [List.length_append, GE]; have := hq.1; omega) (n := r.fs[k].n.toNat) (by have := hq.2.2; omega)
  rw [show ((r.fs[k].n.toNat : Nat) : Int) = r.fs[k].n by have := hq.2.1; omega] at e4
  have ht : gY (r.fs.take (k + 1)) = gY (r.fs.take k) ++ (GE r.fs[k].name ++ p8 r.fs[k].n.toNat) := by
   unfold gY; rw [List.take_succ_eq_append_getElem hk, List.flatMap_append]; simp [NZ]
  have ha : p8 r.fs.length ++ gY (r.fs.take (k + 1)) = p8 r.fs.length ++ gY (r.fs.take k) ++ GE r.fs[k].name ++ p8 r.fs[k].n.toNat := by rw [ht]; simp
  rw [ha]
  generalize p8 r.fs.length ++ gY (r.fs.take k) = W at e3 e4 ⊢
  generalize W ++ GE r.fs[k].name = W2 at e3 e4 ⊢
  generalize W2 ++ p8 r.fs[k].n.toNat = W3 at e4 ⊢
  simp (maxSteps := 9999999) [fR, hk, hx, e3, e4, aE h.1 hk, aU hk]
 ·have he : qF r = p8 r.fs.length ++ gY r.fs := by simp [qF, c1]
  rw [he]
  simp (maxSteps := 9999999) [fR]
theorem KG {n : Int} (h1 : -9223372036854775808 ≤ n) (h2 : n ≤ 9223372036854775807) : IntKind.i64.wrap n = n := by rw [IntKind.wrap_i64]; omega
theorem wrap_u8 (n : Int) : IntKind.u8.wrap n = n % 256 := by simp [IntKind.wrap, IntKind.signed, IntKind.bits]
theorem Ap {x : Nat} {b : Int} {k : Nat} (hk : k ≤ 63) (h : b = (k : Int)) : kJ .shr .i64 (x : Int) b = some (aa .i64 ((x / 2 ^ k : Nat) : Int)) := by
 subst h
 simp only [kJ]
 rw [if_neg (by omega), show min (Int.toNat (k : Int)) IntKind.i64.bits = k by rw [Int.toNat_natCast]; exact Nat.min_eq_left (Nat.le_succ_of_le hk)]
 rw [Int.fdiv_eq_ediv_of_nonneg _ (Int.le_of_lt (Int.pow_pos (by decide)))]
 norm_cast
theorem vU {k : XKey} (h : k.Ok maxLen) : ae Ph aF 225 [k.v] = some (.one (.own 1 (ak (kN k)))) := by
 have e1 := mo h
 refine ab (fn := gK) rfl ?_
 cases c1 : pO k <;> rw [c1] at e1
 ·rw [show kN k = [] by simp [kN, c1]]
  simp (maxSteps := 9999999) [gK, e1, show ak [] = [] from rfl]
 obtain ⟨h1, h2, h3, h4, h5, h6⟩ := yh c1
 have m1 : 1 + k.text.length ≤ 140737488355328 ∧ 1 + k.text.length ≤ 9223372036854775807 ∧ 7 + k.text.length ≤ 140737488355328 ∧ 7 + k.text.length ≤ 9223372036854775807 ∧ k.text.length + 7 ≤ 140737488355328 ∧ k.text.length + 7 ≤ 9223372036854775807 := by omega
 have hk : k.kind % 256 = k.kind := by omega
 obtain ⟨x, hx⟩ : ∃ x : Nat, k.n + 1000000000000 = (x : Int) := ⟨(k.n + 1000000000000).toNat, by omega⟩
 have hw : IntKind.i64.wrap (k.n + 1000000000000) = (x : Int) := by rw [hx, IntKind.wrap_i64]; omega
 have s0 := Ap (x := x) (b := 0) (k := 0) (by decide) rfl
 have s1 := Ap (x := x) (b := 8) (k := 8) (by decide) rfl
 have s2 := Ap (x := x) (b := 16) (k := 16) (by decide) rfl
 have s3 := Ap (x := x) (b := 24) (k := 24) (by decide) rfl
 have s4 := Ap (x := x) (b := 32) (k := 32) (by decide) rfl
 have s5 := Ap (x := x) (b := 40) (k := 40) (by decide) rfl
 have lt : dE 5 0 = false ∧ dE 4 0 = false ∧ dE 3 0 = false ∧ dE 2 0 = false ∧ dE 1 0 = false ∧ dE 0 0 = false ∧ dE (-1) 0 = true := by decide
 have hkb : (UInt8.ofNat k.kind.toNat).toNat = k.kind.toNat := by simp; omega
 have hkt : ((k.kind.toNat : Nat) : Int) = k.kind := by omega
 have w1 := iy k.text
 by_cases hq : k.kind = 2
 ·have he : ak (kN k) = [.int .u8 k.kind] :: ak k.text := by
   rw [show kN k = UInt8.ofNat k.kind.toNat :: k.text by simp [kN, c1, hq]]
   simp only [ak, List.map_cons, hkb, hkt]
  rw [he]
  have hb : (k.kind == 2) = true := by simp [hq]
  simp (maxSteps := 9999999) [gK, e1, hb, hk, wrap_u8, m1, w1, bo, wL, hJ, lt]
 ·have he : ak (kN k) = [.int .u8 k.kind] :: ([.int .u8 ((x / 2 ^ 40 : Nat) % 256 : Int)] :: [.int .u8 ((x / 2 ^ 32 : Nat) % 256 : Int)] :: [.int .u8 ((x / 2 ^ 24 : Nat) % 256 : Int)] :: [.int .u8 ((x / 2 ^ 16 : Nat) % 256 : Int)] :: [.int .u8 ((x / 2 ^ 8 : Nat) % 256 : Int)] :: [.int .u8 ((x / 2 ^ 0 : Nat) % 256 : Int)] :: ak k.text) := by
   rw [show kN k = UInt8.ofNat k.kind.toNat :: (Pr x ++ k.text) by simp [kN, c1, hq, hx]]
   simp [ak, Pr, hkb, hkt]
  rw [he]
  have hb : (k.kind == 2) = false := by simp [hq]
  simp (maxSteps := 9999999) [gK, e1, hb, hk, hw, wrap_u8, KG, s0, s1, s2, s3, s4, s5, m1, w1, bo, lt, wL, hJ]
theorem OY {n : Nat} : IntKind.i64.wrap ((BitVec.ofInt IntKind.i64.bits (n : Int) &&& BitVec.ofInt IntKind.i64.bits 255).toNat : Int) = (n : Int) % 256 := by
 have e1 : (BitVec.ofInt IntKind.i64.bits (n : Int)).toNat = n % 2 ^ 64 := by
  show (BitVec.ofInt 64 (n : Int)).toNat = n % 2 ^ 64
  simp [BitVec.toNat_ofInt]
 have e2 : (BitVec.ofInt IntKind.i64.bits 255).toNat = 255 := by decide
 rw [BitVec.toNat_and, e1, e2, show (255 : Nat) = 2 ^ 8 - 1 from rfl, Nat.and_two_pow_sub_one_eq_mod]
 rw [IntKind.wrap_i64]; omega
theorem sf (y : Nat) : IntKind.i64.wrap (((((y : Int) % 2 ^ IntKind.i64.bits).toNat &&& 255 % 2 ^ IntKind.i64.bits : Nat)) : Int) % 256 = (y : Int) % 256 := by
 have h := OY (n := y)
 rw [BitVec.toNat_and, BitVec.toNat_ofInt, BitVec.toNat_ofInt] at h
 have e : (255 % ((2 ^ IntKind.i64.bits : Nat) : Int)).toNat = 255 % 2 ^ IntKind.i64.bits := by decide
 rw [e] at h
 have e3 : ((2 ^ IntKind.i64.bits : Nat) : Int) = (2 : Int) ^ IntKind.i64.bits := by decide
 rw [e3] at h
 rw [h]; omega
theorem wx {k : XKey} (h : k.Ok maxLen) : ae Ph aF 221 [k.v] = some (.one (.own 1 (ak (kN k)))) := by
 have e1 := mq h
 refine ab (fn := gO) rfl ?_
 cases c1 : pO k <;> rw [c1] at e1
 ·rw [show kN k = [] by simp [kN, c1]]
  simp (maxSteps := 9999999) [gO, e1, show ak [] = [] from rfl]
 obtain ⟨h1, h2, h3, h4, h5, h6⟩ := yh c1
 have m1 : 1 + k.text.length ≤ 140737488355328 ∧ 1 + k.text.length ≤ 9223372036854775807 ∧ 7 + k.text.length ≤ 140737488355328 ∧ 7 + k.text.length ≤ 9223372036854775807 ∧ k.text.length + 7 ≤ 140737488355328 ∧ k.text.length + 7 ≤ 9223372036854775807 := by omega
 have hk : k.kind % 256 = k.kind := by omega
 obtain ⟨x, hx⟩ : ∃ x : Nat, k.n + 1000000000000 = (x : Int) := ⟨(k.n + 1000000000000).toNat, by omega⟩
 have hw : IntKind.i64.wrap (k.n + 1000000000000) = (x : Int) := by rw [hx, IntKind.wrap_i64]; omega
 have s0 := Ap (x := x) (b := 0) (k := 0) (by decide) rfl
 have s1 := Ap (x := x) (b := 8) (k := 8) (by decide) rfl
 have s2 := Ap (x := x) (b := 16) (k := 16) (by decide) rfl
 have s3 := Ap (x := x) (b := 24) (k := 24) (by decide) rfl
 have s4 := Ap (x := x) (b := 32) (k := 32) (by decide) rfl
 have s5 := Ap (x := x) (b := 40) (k := 40) (by decide) rfl
 have lt : dE 5 0 = false ∧ dE 4 0 = false ∧ dE 3 0 = false ∧ dE 2 0 = false ∧ dE 1 0 = false ∧ dE 0 0 = false ∧ dE (-1) 0 = true := by decide
 have hkb : (UInt8.ofNat k.kind.toNat).toNat = k.kind.toNat := by simp; omega
 have hkt : ((k.kind.toNat : Nat) : Int) = k.kind := by omega
 have w1 := iy k.text
 by_cases hq : k.kind = 2
 ·have he : ak (kN k) = [.int .u8 k.kind] :: ak k.text := by
   rw [show kN k = UInt8.ofNat k.kind.toNat :: k.text by simp [kN, c1, hq]]
   simp only [ak, List.map_cons, hkb, hkt]
  rw [he]
  have hb : (k.kind == 2) = true := by simp [hq]
  simp (maxSteps := 9999999) [gO, e1, hb, hk, wrap_u8, m1, w1, bo, wL, hZ, lt]
 ·have he : ak (kN k) = [.int .u8 k.kind] :: ([.int .u8 ((x / 2 ^ 40 : Nat) % 256 : Int)] :: [.int .u8 ((x / 2 ^ 32 : Nat) % 256 : Int)] :: [.int .u8 ((x / 2 ^ 24 : Nat) % 256 : Int)] :: [.int .u8 ((x / 2 ^ 16 : Nat) % 256 : Int)] :: [.int .u8 ((x / 2 ^ 8 : Nat) % 256 : Int)] :: [.int .u8 ((x / 2 ^ 0 : Nat) % 256 : Int)] :: ak k.text) := by
   rw [show kN k = UInt8.ofNat k.kind.toNat :: (Pr x ++ k.text) by simp [kN, c1, hq, hx]]
   simp [ak, Pr, hkb, hkt]
  rw [he]
  have hb : (k.kind == 2) = false := by simp [hq]
  simp (maxSteps := 9999999) [gO, e1, hb, hk, hw, wrap_u8, KG, s0, s1, s2, s3, s4, s5, m1, w1, bo, lt, wL, hZ]
  have k5 := sf (x / 1099511627776)
  have k4 := sf (x / 4294967296)
  have k3 := sf (x / 16777216)
  have k2 := sf (x / 65536)
  have k1 := sf (x / 256)
  simp only [Int.natCast_ediv, Int.cast_ofNat_Int] at k5 k4 k3 k2 k1
  have k0 := sf x
  rw [show (x : Int) % 2 ^ IntKind.i64.bits = ((x % 2 ^ IntKind.i64.bits : Nat) : Int) by norm_cast, Int.toNat_natCast] at k0
  exact ⟨k5, k4, k3, k2, k1, k0⟩
end Gi
namespace Gi
open Go Go.RowKit
theorem XKey.Ok.mono {A B : Nat} (hAB : A ≤ B) {x : XKey} (h : x.Ok A) : x.Ok B := by
 obtain ⟨h0, h1, h2⟩ := h
 exact ⟨h0, h1, Nat.le_trans h2 hAB⟩
theorem XField.Ok.mono {A B : Nat} (hAB : A ≤ B) {x : XField} (h : x.Ok A) : x.Ok B := by
 obtain ⟨h0, h1⟩ := h
 exact ⟨Nat.le_trans h0 hAB, h1⟩
theorem XRecord.Ok.mono {A B : Nat} (hAB : A ≤ B) {x : XRecord} (h : x.Ok A) : x.Ok B := by
 have h0 := h
 exact ⟨Nat.le_trans h0.1 hAB, fun y m => XField.Ok.mono hAB (h0.2 y m)⟩
theorem XItem.Ok.mono {A B : Nat} (hAB : A ≤ B) {x : XItem} (h : x.Ok A) : x.Ok B := by
 obtain ⟨h0, h1⟩ := h
 exact ⟨XKey.Ok.mono hAB h0, XRecord.Ok.mono hAB h1⟩
theorem XStore.Ok.mono {A B : Nat} (hAB : A ≤ B) {x : XStore} (h : x.Ok A) : x.Ok B := by
 obtain ⟨h0, h1, h2⟩ := h
 exact ⟨Nat.le_trans h0 hAB, ⟨Nat.le_trans h1.1 hAB, fun y m => XItem.Ok.mono hAB (h1.2 y m)⟩, h2⟩
theorem XWrite.Ok.mono {A B : Nat} (hAB : A ≤ B) {x : XWrite} (h : x.Ok A) : x.Ok B := by
 obtain ⟨h0, h1, h2, h3, h4⟩ := h
 exact ⟨h0, h1, XKey.Ok.mono hAB h2, Nat.le_trans h3 hAB, h4⟩
theorem XApplied.Ok.mono {A B : Nat} (hAB : A ≤ B) {x : XApplied} (h : x.Ok A) : x.Ok B := by
 obtain ⟨h0, h1⟩ := h
 exact ⟨h0, h1⟩
theorem XServer.Ok.mono {A B : Nat} (hAB : A ≤ B) {x : XServer} (h : x.Ok A) : x.Ok B := by
 obtain ⟨h0, h1, h2⟩ := h
 exact ⟨XStore.Ok.mono hAB h0, ⟨Nat.le_trans h1.1 hAB, fun y m => XApplied.Ok.mono hAB (h1.2 y m)⟩, ⟨Nat.le_trans h2.1 hAB, fun y m => XWrite.Ok.mono hAB (h2.2 y m)⟩⟩
theorem XOutbox.Ok.mono {A B : Nat} (hAB : A ≤ B) {x : XOutbox} (h : x.Ok A) : x.Ok B := by
 obtain ⟨h0, h1, h2⟩ := h
 exact ⟨h0, h1, ⟨Nat.le_trans h2.1 hAB, fun y m => XWrite.Ok.mono hAB (h2.2 y m)⟩⟩
theorem XSync.Ok.mono {A B : Nat} (hAB : A ≤ B) {x : XSync} (h : x.Ok A) : x.Ok B := by
 obtain ⟨h0, h1, h2⟩ := h
 exact ⟨XOutbox.Ok.mono hAB h0, h1, h2⟩
theorem XReplica.Ok.mono {A B : Nat} (hAB : A ≤ B) {x : XReplica} (h : x.Ok A) : x.Ok B := by
 obtain ⟨h0, h1, h2⟩ := h
 exact ⟨XStore.Ok.mono hAB h0, h1, XSync.Ok.mono hAB h2⟩
theorem XResponse.Ok.mono {A B : Nat} (hAB : A ≤ B) {x : XResponse} (h : x.Ok A) : x.Ok B := by
 obtain ⟨h0, h1, h2, h3⟩ := h
 exact ⟨h0, h1, h2, Nat.le_trans h3 hAB⟩
theorem XCached.Ok.mono {A B : Nat} (hAB : A ≤ B) {x : XCached} (h : x.Ok A) : x.Ok B := by
 obtain ⟨h0, h1, h2⟩ := h
 exact ⟨Nat.le_trans h0 hAB, Nat.le_trans h1 hAB, XResponse.Ok.mono hAB h2⟩
theorem XCache.Ok.mono {A B : Nat} (hAB : A ≤ B) {x : XCache} (h : x.Ok A) : x.Ok B := by
 obtain ⟨h0, h1⟩ := h
 exact ⟨h0, ⟨Nat.le_trans h1.1 hAB, fun y m => XCached.Ok.mono hAB (h1.2 y m)⟩⟩
theorem XCacheSet.Ok.mono {A B : Nat} (hAB : A ≤ B) {x : XCacheSet} (h : x.Ok A) : x.Ok B := by
 have h0 := h
 exact ⟨Nat.le_trans h0.1 hAB, fun y m => XCache.Ok.mono hAB (h0.2 y m)⟩
theorem XRegistration.Ok.mono {A B : Nat} (hAB : A ≤ B) {x : XRegistration} (h : x.Ok A) : x.Ok B := by
 obtain ⟨h0, h1, h2, h3⟩ := h
 exact ⟨Nat.le_trans h0 hAB, h1, h2, h3⟩
theorem XLoaded.Ok.mono {A B : Nat} (hAB : A ≤ B) {x : XLoaded} (h : x.Ok A) : x.Ok B := by
 obtain ⟨h0, h1⟩ := h
 exact ⟨Nat.le_trans h0 hAB, h1⟩
theorem XInstr.Ok.mono {A B : Nat} (hAB : A ≤ B) {x : XInstr} (h : x.Ok A) : x.Ok B := by
 obtain ⟨h0, h1, h2, h3⟩ := h
 exact ⟨h0, h1, h2, Nat.le_trans h3 hAB⟩
theorem XMachine.Ok.mono {A B : Nat} (hAB : A ≤ B) {x : XMachine} (h : x.Ok A) : x.Ok B := by
 obtain ⟨h0, h1, h2, h3⟩ := h
 exact ⟨⟨Nat.le_trans h0.1 hAB, fun y m => XInstr.Ok.mono hAB (h0.2 y m)⟩, h1, ⟨Nat.le_trans h2.1 hAB, h2.2⟩, h3⟩
theorem XPage.Ok.mono {A B : Nat} (hAB : A ≤ B) {x : XPage} (h : x.Ok A) : x.Ok B := by
 obtain ⟨h0, h1, h2, h3, h4, h5⟩ := h
 exact ⟨h0, Nat.le_trans h1 hAB, Nat.le_trans h2 hAB, h3, ⟨Nat.le_trans h4.1 hAB, fun y m => XLoaded.Ok.mono hAB (h4.2 y m)⟩, XMachine.Ok.mono hAB h5⟩
theorem XIndexDef.Ok.mono {A B : Nat} (hAB : A ≤ B) {x : XIndexDef} (h : x.Ok A) : x.Ok B := by
 obtain ⟨h0, h1⟩ := h
 exact ⟨Nat.le_trans h0 hAB, Nat.le_trans h1 hAB⟩
theorem XDatabase.Ok.mono {A B : Nat} (hAB : A ≤ B) {x : XDatabase} (h : x.Ok A) : x.Ok B := by
 obtain ⟨h0, h1, h2, h3⟩ := h
 exact ⟨Nat.le_trans h0 hAB, h1, ⟨Nat.le_trans h2.1 hAB, fun y m => XStore.Ok.mono hAB (h2.2 y m)⟩, ⟨Nat.le_trans h3.1 hAB, fun y m => XIndexDef.Ok.mono hAB (h3.2 y m)⟩⟩
theorem XDisk.Ok.mono {A B : Nat} (hAB : A ≤ B) {x : XDisk} (h : x.Ok A) : x.Ok B := by
 obtain ⟨h0, h1, h2⟩ := h
 exact ⟨XDatabase.Ok.mono hAB h0, Nat.le_trans h1 hAB, h2⟩
theorem XBucket.Ok.mono {A B : Nat} (hAB : A ≤ B) {x : XBucket} (h : x.Ok A) : x.Ok B := by
 obtain ⟨h0, h1, h2, h3, h4, h5, h6⟩ := h
 exact ⟨Nat.le_trans h0 hAB, Nat.le_trans h1 hAB, XRegistration.Ok.mono hAB h2, XCacheSet.Ok.mono hAB h3, XDisk.Ok.mono hAB h4, XReplica.Ok.mono hAB h5, h6⟩
theorem XStorage.Ok.mono {A B : Nat} (hAB : A ≤ B) {x : XStorage} (h : x.Ok A) : x.Ok B := by
 have h0 := h
 exact ⟨Nat.le_trans h0.1 hAB, fun y m => XBucket.Ok.mono hAB (h0.2 y m)⟩
theorem XLock.Ok.mono {A B : Nat} (hAB : A ≤ B) {x : XLock} (h : x.Ok A) : x.Ok B := by
 obtain ⟨h0, h1⟩ := h
 exact ⟨Nat.le_trans h0 hAB, h1⟩
theorem XLockTable.Ok.mono {A B : Nat} (hAB : A ≤ B) {x : XLockTable} (h : x.Ok A) : x.Ok B := by
 have h0 := h
 exact ⟨Nat.le_trans h0.1 hAB, fun y m => XLock.Ok.mono hAB (h0.2 y m)⟩
theorem XMail.Ok.mono {A B : Nat} (hAB : A ≤ B) {x : XMail} (h : x.Ok A) : x.Ok B := by
 obtain ⟨h0, h1, h2⟩ := h
 exact ⟨h0, h1, h2⟩
theorem XChannel.Ok.mono {A B : Nat} (hAB : A ≤ B) {x : XChannel} (h : x.Ok A) : x.Ok B := by
 have h0 := h
 exact ⟨Nat.le_trans h0.1 hAB, fun y m => XMail.Ok.mono hAB (h0.2 y m)⟩
theorem XSite.Ok.mono {A B : Nat} (hAB : A ≤ B) {x : XSite} (h : x.Ok A) : x.Ok B := by
 obtain ⟨h0, h1, h2⟩ := h
 exact ⟨Nat.le_trans h0 hAB, h1, ⟨Nat.le_trans h2.1 hAB, fun y m => Nat.le_trans (h2.2 y m) hAB⟩⟩
theorem XWorld.Ok.mono {A B : Nat} (hAB : A ≤ B) {x : XWorld} (h : x.Ok A) : x.Ok B := by
 obtain ⟨h0, h2, h3, h4, h5, h6, h7, h8, h9⟩ := h
 exact ⟨h0, h2, XStorage.Ok.mono hAB h3, ⟨Nat.le_trans h4.1 hAB, fun y m => XPage.Ok.mono hAB (h4.2 y m)⟩, h5, XLockTable.Ok.mono hAB h6, XChannel.Ok.mono hAB h7, ⟨Nat.le_trans h8.1 hAB, fun y m => XSite.Ok.mono hAB (h8.2 y m)⟩, ⟨Nat.le_trans h9.1 hAB, fun y m => XServer.Ok.mono hAB (h9.2 y m)⟩⟩
end Gi
namespace Gi
open Go Go.RowKit
set_option maxHeartbeats 8000000
set_option maxRecDepth 4000
attribute [local simp] bt sJ bf bW dV fU dU fT fZ fY uF uO uG uP uH uQ uI uR uJ uS uK uT uL uU uM uV uN uW V.cells plain bm f4 isInt isStr isBool bin cT jJ cU jK fV un asList L.view am V.view viewL aR au cX cd bO comp aJ br dv cq bH bF bG bN bi cu aW bJ aP aX bL cy bK bI bM V.flat L.flat dF di bz putAt thaw thawL thawT V.ow fX dX dY cV fW cW dW freezeVs freezeLs freezeL V.mut L.mut aI fi iV aL bd aD dh bD bh bR L.ren aT dG cf dK bS bB wp_seq wp_block bE ed cY ce cZ wp_skip wp_exit wp_ret cK cJ cP cL df dg de cj aV L.notArr aO aM aN dZ bn storeD ba fK bq cB be ny L.mov L.closed V.closed PV.bare PV.flat
theorem EM {z : Nat} {r : List (List PV)} : dF (.one (.own z r)) = bu r := rfl
def gV {α : Type} (f : α → Nat) (xs : List α) : Nat := (xs.map f).sum
theorem mC {α : Type} {f : α → Nat} {xs : List α} {k : Nat} (hk : k < xs.length) : gV f (xs.take (k + 1)) = gV f (xs.take k) + f xs[k] := by
 unfold gV; rw [List.take_succ_eq_append_getElem hk, List.map_append, List.sum_append]; simp
theorem pz {α : Type} {f : α → Nat} {c : Nat} (h : ∀ x, f x ≤ c) : ∀ (xs : List α), gV f xs ≤ c * xs.length
 | [] => by simp [gV]
 | x :: xs => by
  have := pz h xs
  have := h x
  simp only [gV, List.map_cons, List.sum_cons, List.length_cons, Nat.mul_add] at *
  omega
def rJ (x : XItem) : Nat := (kN x.key).length + (qF x.rcd).length
theorem lw (x : XItem) : rJ x ≤ 110 := by have := Bf x.key; have := Bg x.rcd; unfold rJ; omega
def kG (s : XStore) : Nat := gV rJ s.items
theorem oW {s : XStore} (h : s.Ok 1048576) : ae Ph aF 197 [s.v] = some (aa .i64 (kG s : Nat)) := by
 refine ab (fn := lQ) rfl ?_
 simp +contextual (maxSteps := 9999999) [lQ]
 refine aA aQ Cl.fin [.f,.f,.f,.t,.f,.f,.f,.t,.t,.t,.f,.f,.f,.f,.f,.f,.f,.f,.f,.f,.f,.f,.f,.f,.f,.f] (fun k => [(3, aa .i64 (gV rJ (s.items.take k) : Nat)), (9, aa .i64 k)]) s.items.length (fun _ => false) rfl (by simp [gV]) (fun k hk _ => ?_) (fun _ _ => ?_)
 ·have hx := XItem.e.eq_1 s.items[k]
  have hi := XItem.Ok.mono (B := maxLen) (by unfold maxLen; omega) (h.2.1.2 _ (List.getElem_mem hk))
  have e1 := vU hi.1
  have e2 := qZ hi.2
  have l1 := Bf s.items[k].key
  have l2 := Bg s.items[k].rcd
  have l3 := pz lw (s.items.take k)
  have l4 : (s.items.take k).length ≤ 1048576 := by rw [List.length_take]; have := h.2.1.1; omega
  have ht : gV rJ (s.items.take (k + 1)) = gV rJ (s.items.take k) + ((kN s.items[k].key).length + (qF s.items[k].rcd).length) := mC hk
  rw [ht]
  generalize gV rJ (s.items.take k) = A at l3 ⊢
  have g := CH s.items[k].rcd
  generalize yO s.items[k].rcd = W at e2 g
  have q1 : (ak (kN s.items[k].key)).length = (kN s.items[k].key).length := bo
  have q2 : (ak (qF s.items[k].rcd)).length = (qF s.items[k].rcd).length := bo
  generalize (kN s.items[k].key).length = a at l1 q1 ⊢
  generalize (qF s.items[k].rcd).length = b at l2 q2 ⊢
  have w1 : IntKind.i64.wrap ((a : Int) + (b : Int)) = (a : Int) + (b : Int) := by rw [IntKind.wrap_i64]; omega
  have w2 : IntKind.i64.wrap ((A : Int) + ((a : Int) + (b : Int))) = (A : Int) + ((a : Int) + (b : Int)) := by rw [IntKind.wrap_i64]; omega
  have w3 : IntKind.i64.wrap ((A : Int) + (a : Int)) = (A : Int) + (a : Int) := by rw [IntKind.wrap_i64]; omega
  have w4 : IntKind.i64.wrap ((A : Int) + (a : Int) + (b : Int)) = (A : Int) + ((a : Int) + (b : Int)) := by rw [IntKind.wrap_i64]; omega
  simp (maxSteps := 9999999) [hX, hk, hx, e1, e2, EM, ↓g, q1, q2, w1, w2, w3, w4, aE (n := s.items.length) (by have := h.2.1.1; unfold maxLen; omega) hk, aU hk, -dF]
 ·rw [List.take_length]
  simp (maxSteps := 9999999) [hX, kG]
theorem oY {s : XStore} (h : s.Ok 1048576) : ae Ph aF 194 [s.v] = some (aa .i64 (kG s : Nat)) := by
 refine ab (fn := me) rfl ?_
 simp +contextual (maxSteps := 9999999) [me]
 refine aA aQ Cl.fin [.f,.t,.f,.t,.t,.f,.f,.f,.f,.f,.f,.f,.f,.f,.f,.f,.f,.f,.f,.f,.f,.f,.f,.f,.f,.f,.f,.f,.f,.f,.f,.f] (fun k => [(3, aa .i64 (gV rJ (s.items.take k) : Nat)), (4, aa .i64 k)]) s.items.length (fun _ => false) rfl (by simp [gV]) (fun k hk _ => ?_) (fun _ _ => ?_)
 ·have hx := XItem.e.eq_1 s.items[k]
  have hi := XItem.Ok.mono (B := maxLen) (by unfold maxLen; omega) (h.2.1.2 _ (List.getElem_mem hk))
  have e1 := wx hi.1
  have e2 := rS hi.2
  have l1 := Bf s.items[k].key
  have l2 := Bg s.items[k].rcd
  have l3 := pz lw (s.items.take k)
  have l4 : (s.items.take k).length ≤ 1048576 := by rw [List.length_take]; have := h.2.1.1; omega
  have ht : gV rJ (s.items.take (k + 1)) = gV rJ (s.items.take k) + ((kN s.items[k].key).length + (qF s.items[k].rcd).length) := mC hk
  rw [ht]
  generalize gV rJ (s.items.take k) = A at l3 ⊢
  have g := CH s.items[k].rcd
  generalize yO s.items[k].rcd = W at e2 g
  have q1 : (ak (kN s.items[k].key)).length = (kN s.items[k].key).length := bo
  have q2 : (ak (qF s.items[k].rcd)).length = (qF s.items[k].rcd).length := bo
  generalize (kN s.items[k].key).length = a at l1 q1 ⊢
  generalize (qF s.items[k].rcd).length = b at l2 q2 ⊢
  have w1 : IntKind.i64.wrap ((a : Int) + (b : Int)) = (a : Int) + (b : Int) := by rw [IntKind.wrap_i64]; omega
  have w2 : IntKind.i64.wrap ((A : Int) + ((a : Int) + (b : Int))) = (A : Int) + ((a : Int) + (b : Int)) := by rw [IntKind.wrap_i64]; omega
  have w3 : IntKind.i64.wrap ((A : Int) + (a : Int)) = (A : Int) + (a : Int) := by rw [IntKind.wrap_i64]; omega
  have w4 : IntKind.i64.wrap ((A : Int) + (a : Int) + (b : Int)) = (A : Int) + ((a : Int) + (b : Int)) := by rw [IntKind.wrap_i64]; omega
  simp (maxSteps := 9999999) [ic, hk, hx, e1, e2, EM, ↓g, q1, q2, w1, w2, w3, w4, aE (n := s.items.length) (by have := h.2.1.1; unfold maxLen; omega) hk, aU hk, -dF]
 ·rw [List.take_length]
  simp (maxSteps := 9999999) [ic, kG]
end Gi
