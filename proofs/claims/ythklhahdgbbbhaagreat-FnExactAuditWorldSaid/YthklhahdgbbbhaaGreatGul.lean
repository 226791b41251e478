/- Of this proof. -/
import Derived.Test.YthklhahdgbbbhaaGreatGua1
set_option linter.unusedSimpArgs false
namespace Gi
open Go Go.RowKit
set_option maxHeartbeats 4000000
set_option maxRecDepth 4000
attribute [local simp] bW eM aq am bg bt cF dN Opd.ev put V.cells plain bz hJ isInt isStr isBool bin bf aS aR un asList L.view aB V.view viewL done bC aC aT cj comp bq bZ a8 V.flat L.flat dX dJ bS putAt thaw thawL freezeVs freezeLs freezeL V.mut L.mut bm aZ
def ones (es : List (List PV)) : Bool := es.all fun e => e.length == 1
def Gk : Nat → Int → Nat
 | 0, _ => 1
 | m + 1, n => if n < 128 then 1 else Gk m (n / 128) + 1
theorem G2 {α : Type} (g : List α) (a : α) (t : List α) : (g ++ a :: t)[g.length]? = some a := by simp
theorem G3 {α : Type} (g : List α) (a b : α) (t : List α) : (g ++ a :: b :: t)[g.length + 1]? = some b := by
 rw [List.getElem?_append_right (by omega)]
 simp
theorem Hu {α : Type} (g : List α) (a y : α) (t : List α) : (g ++ a :: t).set g.length y = g ++ y :: t := by simp
theorem L1 : ∀ (m : Nat) (n : Int), 0 ≤ n → n ≤ 1000000000000 → n < 128 ^ (m + 1) → ∀ (g : List AObj) (es : List (List PV)), es.length + m ≤ 1000000000 → ∀ (x0 x2 x3 x4 x6 x7 x8 x9 x10 x11 x12 x13 x14 x15 x16 x17 x18 x19 x20 x21 x22 x23 x24 x25 x26 x27 : V) (σ : St), σ = ⟨(x0 :: ae .i64 n :: x2 :: x3 :: x4 :: .one (.arr g.length) :: x6 :: x7 :: x8 :: x9 :: x10 :: x11 :: x12 :: x13 :: x14 :: x15 :: x16 :: x17 :: x18 :: x19 :: x20 :: x21 :: x22 :: x23 :: x24 :: x25 :: x26 :: x27 :: []), g ++ [.arr 1 es]⟩ →
 jm (ah (aq (aa Ph al) ah dA) σ) fun e σ' => e = .exit 0 ∧ ∃ (n' : Int) (g' : List AObj) (es' : List (List PV)), (es'.length + 1 = es.length + Gk m n ∧ (ones es = true → ones es' = true)) ∧ ∃ (x0 x2 x3 x4 x6 x7 x8 x9 x10 x11 x12 x13 x14 x15 x16 x17 x18 x19 x20 x21 x22 x23 x24 x25 x26 x27 : V), σ' = ⟨(x0 :: ae .i64 n' :: x2 :: x3 :: x4 :: .one (.arr g'.length) :: x6 :: x7 :: x8 :: x9 :: x10 :: x11 :: x12 :: x13 :: x14 :: x15 :: x16 :: x17 :: x18 :: x19 :: x20 :: x21 :: x22 :: x23 :: x24 :: x25 :: x26 :: x27 :: []), g' ++ [.arr 1 es']⟩ := by
 generalize hF : aq (aa Ph al) ah dA = F
 intro m
 induction m with
 | zero =>
  intro n h0 h2 h1 g es he x0 x2 x3 x4 x6 x7 x8 x9 x10 x11 x12 x13 x14 x15 x16 x17 x18 x19 x20 x21 x22 x23 x24 x25 x26 x27 σ hσ
  subst hσ
  have hn : ¬ (128 : Int) ≤ n := by simp at h1; omega
  have hn' : ¬ (127 : Int) < n := by omega
  rw [aG hF]
  simp [dA, hn, hn', bD]
  refine ⟨n, g, es, ⟨by simp [Gk], fun h => h⟩, ?_⟩
  simp
 | succ m ih =>
  intro n h0 h2 h1 g es he x0 x2 x3 x4 x6 x7 x8 x9 x10 x11 x12 x13 x14 x15 x16 x17 x18 x19 x20 x21 x22 x23 x24 x25 x26 x27 σ hσ
  subst hσ
  by_cases hn : (128 : Int) ≤ n
  ·have hn' : (127 : Int) < n := by omega
   have hq : n.tdiv 128 = n / 128 := Int.tdiv_eq_ediv_of_nonneg h0
   have hq2 : n.fdiv 128 = n / 128 := Int.fdiv_eq_ediv_of_nonneg n (by omega)
   have hw : IntKind.i64.wrap (n / 128) = n / 128 := by rw [IntKind.wrap_i64]; omega
   have h3 : n / 128 < 128 ^ (m + 1) := Int.ediv_lt_of_lt_mul (by omega) (by rw [← Int.pow_succ]; exact h1)
   have b1 : es.length + 1 ≤ 140737488355328 := by omega
   have b2 : es.length + 1 ≤ 9223372036854775807 := by omega
   have hu : Gk (m + 1) n = Gk m (n / 128) + 1 := by
    have : ¬ n < 128 := by omega
    simp [Gk, this]
   have hsh : ie .shr .i64 n 7 = some (ae .i64 (n / 128)) := by
    have e : (min (Int.toNat 7) IntKind.i64.bits) = 7 := by decide
    simp only [ie]
    rw [if_neg (by omega)]
    simp only [e]
    rw [show ((2 : Int) ^ 7) = 128 by decide, hq2]
   have key := fun B : Int => ih (n / 128) (by omega) (by omega) h3 (g ++ [.dead, .arr 1 [[.int .u8 B]]]) (es ++ [[.int .u8 B]]) (by simp; omega)
   clear ih
   simp only [List.length_append, List.length_cons, List.length_nil, Nat.zero_add, List.append_assoc, List.cons_append, List.nil_append] at key
   rw [aG hF]
   simp [dA, hn, hn', hq, hq2, hw, hsh, G2, G3, Hu, L.notArr, b1, b2]
   obtain ⟨e, σ', k1, k2, n', g', es', ⟨k3, k4⟩, k5⟩ := (key _ _ _ _ _ _ _ _ _ _ _ _ _ _ _ _ _ _ _ _ _ _ _ _ _ _ _ _ rfl).get
   rw [k1]
   refine ⟨k2, n', g', es', ⟨by rw [k3, hu]; omega, fun h => k4 ?_⟩, k5⟩
   simp only [ones, List.all_append, List.all_cons, List.all_nil] at h ⊢
   simp [h]
  ·have hn' : ¬ (127 : Int) < n := by omega
   have hu : Gk (m + 1) n = 1 := by
    have : n < 128 := by omega
    simp [Gk, this]
   rw [aG hF]
   simp [dA, hn, hn', bD]
   refine ⟨n, g, es, ⟨by rw [hu], fun h => h⟩, ?_⟩
   simp
theorem MD : ∀ (m : Nat) (n : Int), 0 ≤ n → n ≤ 1000000000000 → n < 128 ^ (m + 1) → ∀ (g : List AObj) (es : List (List PV)), es.length + m ≤ 1000000000 → ∀ (x0 x2 x3 x4 x6 x7 x8 x9 x10 x11 x12 x13 x14 x15 x16 x17 x18 x19 x20 x21 x22 x23 x24 x25 x26 x27 x28 : V) (σ : St), σ = ⟨(x0 :: ae .i64 n :: x2 :: x3 :: x4 :: .one (.arr g.length) :: x6 :: x7 :: x8 :: x9 :: x10 :: x11 :: x12 :: x13 :: x14 :: x15 :: x16 :: x17 :: x18 :: x19 :: x20 :: x21 :: x22 :: x23 :: x24 :: x25 :: x26 :: x27 :: x28 :: []), g ++ [.arr 1 es]⟩ →
 jm (ah (aq (aa Ph al) ah dE) σ) fun e σ' => e = .exit 0 ∧ ∃ (n' : Int) (g' : List AObj) (es' : List (List PV)), (es'.length + 1 = es.length + Gk m n ∧ (ones es = true → ones es' = true)) ∧ ∃ (x0 x2 x3 x4 x6 x7 x8 x9 x10 x11 x12 x13 x14 x15 x16 x17 x18 x19 x20 x21 x22 x23 x24 x25 x26 x27 x28 : V), σ' = ⟨(x0 :: ae .i64 n' :: x2 :: x3 :: x4 :: .one (.arr g'.length) :: x6 :: x7 :: x8 :: x9 :: x10 :: x11 :: x12 :: x13 :: x14 :: x15 :: x16 :: x17 :: x18 :: x19 :: x20 :: x21 :: x22 :: x23 :: x24 :: x25 :: x26 :: x27 :: x28 :: []), g' ++ [.arr 1 es']⟩ := by
 generalize hF : aq (aa Ph al) ah dE = F
 intro m
 induction m with
 | zero =>
  intro n h0 h2 h1 g es he x0 x2 x3 x4 x6 x7 x8 x9 x10 x11 x12 x13 x14 x15 x16 x17 x18 x19 x20 x21 x22 x23 x24 x25 x26 x27 x28 σ hσ
  subst hσ
  have hn : ¬ (128 : Int) ≤ n := by simp at h1; omega
  have hn' : ¬ (127 : Int) < n := by omega
  rw [aG hF]
  simp [dE, hn, hn', bD]
  refine ⟨n, g, es, ⟨by simp [Gk], fun h => h⟩, ?_⟩
  simp
 | succ m ih =>
  intro n h0 h2 h1 g es he x0 x2 x3 x4 x6 x7 x8 x9 x10 x11 x12 x13 x14 x15 x16 x17 x18 x19 x20 x21 x22 x23 x24 x25 x26 x27 x28 σ hσ
  subst hσ
  by_cases hn : (128 : Int) ≤ n
  ·have hn' : (127 : Int) < n := by omega
   have hq : n.tdiv 128 = n / 128 := Int.tdiv_eq_ediv_of_nonneg h0
   have hq2 : n.fdiv 128 = n / 128 := Int.fdiv_eq_ediv_of_nonneg n (by omega)
   have hw : IntKind.i64.wrap (n / 128) = n / 128 := by rw [IntKind.wrap_i64]; omega
   have h3 : n / 128 < 128 ^ (m + 1) := Int.ediv_lt_of_lt_mul (by omega) (by rw [← Int.pow_succ]; exact h1)
   have b1 : es.length + 1 ≤ 140737488355328 := by omega
   have b2 : es.length + 1 ≤ 9223372036854775807 := by omega
   have hu : Gk (m + 1) n = Gk m (n / 128) + 1 := by
    have : ¬ n < 128 := by omega
    simp [Gk, this]
   obtain ⟨A, hA⟩ : ∃ A, bf .and .i64 n 127 = some (ae .i64 A) := ⟨_, rfl⟩
   obtain ⟨O, hO⟩ : ∃ O, bf .or .i64 A 128 = some (ae .i64 O) := ⟨_, rfl⟩
   have hsh : ie .shr .i64 n 7 = some (ae .i64 (n / 128)) := by
    have e : (min (Int.toNat 7) IntKind.i64.bits) = 7 := by decide
    simp only [ie]
    rw [if_neg (by omega)]
    simp only [e]
    rw [show ((2 : Int) ^ 7) = 128 by decide, hq2]
   have key := fun B : Int => ih (n / 128) (by omega) (by omega) h3 (g ++ [.dead, .arr 1 [[.int .u8 B]]]) (es ++ [[.int .u8 B]]) (by simp; omega)
   clear ih
   simp only [List.length_append, List.length_cons, List.length_nil, Nat.zero_add, List.append_assoc, List.cons_append, List.nil_append] at key
   rw [aG hF]
   simp [dE, ↓hA, ↓hO, hn, hn', hq, hq2, hw, hsh, G2, G3, Hu, L.notArr, b1, b2]
   obtain ⟨e, σ', k1, k2, n', g', es', ⟨k3, k4⟩, k5⟩ := (key _ _ _ _ _ _ _ _ _ _ _ _ _ _ _ _ _ _ _ _ _ _ _ _ _ _ _ _ _ rfl).get
   rw [k1]
   refine ⟨k2, n', g', es', ⟨by rw [k3, hu]; omega, fun h => k4 ?_⟩, k5⟩
   simp only [ones, List.all_append, List.all_cons, List.all_nil] at h ⊢
   simp [h]
  ·have hn' : ¬ (127 : Int) < n := by omega
   have hu : Gk (m + 1) n = 1 := by
    have : n < 128 := by omega
    simp [Gk, this]
   rw [aG hF]
   simp [dE, hn, hn', bD]
   refine ⟨n, g, es, ⟨by rw [hu], fun h => h⟩, ?_⟩
   simp
def OR (n : Int) : Bool := decide (0 ≤ n) && decide (n ≤ 1000000000000)
def JO (n : Int) : Nat := cond (OR n) (Gk 5 n) 0
theorem Gl : ∀ (m : Nat) (n : Int), Gk m n ≤ m + 1
 | 0, n => by simp [Gk]
 | m + 1, n => by
  unfold Gk
  split
  ·omega
  ·have := Gl m (n / 128); omega
theorem pR (n : Int) : JO n ≤ 6 := by
 unfold JO
 cases OR n
 ·simp
 ·exact Gl 5 n
theorem xg {bs : List (List PV)} (ho : ones bs = true) (hl : bs.length ≤ 900000000) : aa Ph al 261 [bJ bs] = some (.one (.own 1 bs)) := by
 have b1 : bs.length ≤ 140737488355328 := by omega
 have b2 : bs.length ≤ 9223372036854775807 := by omega
 have ho' : (bs.all fun e => e.length == 1) = true := ho
 refine aH (fn := jq) rfl ?_
 simp [jq, L.notArr, b1, b2, ↓ho']
theorem jY {bs : List (List PV)} (ho : ones bs = true) (hl : bs.length ≤ 900000000) (n : Int) : ∃ es, aa Ph al 247 [bJ bs, ae .i64 n] = some (.one (.own 1 es)) ∧ ones es = true ∧ es.length = bs.length + JO n := by
 have e1 := xg ho hl
 have e2 := dz n 0 1000000000000
 by_cases hn : 0 ≤ n ∧ n ≤ 1000000000000
 ·have hb : (decide ((0 : Int) ≤ n) && decide (n ≤ 1000000000000)) = true := by simp; omega
  rw [hb] at e2
  have LP := L1 5 n hn.1 hn.2 (by simp; omega) [] bs (by omega)
  generalize hF : aq (aa Ph al) ah dA = F at LP
  obtain ⟨e, σ', k1, k2, n', g', es', ⟨k3, k4⟩, x0, x2, x3, x4, x6, x7, x8, x9, x10, x11, x12, x13, x14, x15, x16, x17, x18, x19, x20, x21, x22, x23, x24, x25, x26, x27, rfl⟩ := (LP (bJ bs) (.tup []) (.tup []) (.one .nil) (bJ bs) (.one (.arr 0)) (ae .i64 n) (aj true) (aj false) (.tup []) (.tup []) (.tup []) (.tup []) (.tup []) (.tup []) (.tup []) (.tup []) (.tup []) (.tup []) (.tup []) (.tup []) (.tup []) (.tup []) (.tup []) (.tup []) (.tup []) _ rfl).get
  subst k2
  have b1 : es'.length + 1 ≤ 140737488355328 := by have := Gl 5 n; omega
  have b2 : es'.length + 1 ≤ 9223372036854775807 := by omega
  refine ⟨es' ++ [[.int .u8 (IntKind.u8.wrap n')]], aH (fn := ig) rfl ?_, ?_, ?_⟩
  ·simp at k1
   simp [ig, e1, e2, hF, k1, G2, G3, Hu, L.notArr, b1, b2]
  ·have := k4 ho
   simp only [ones, List.all_append, List.all_cons, List.all_nil] at this ⊢
   simp [this]
  ·simp only [List.length_append, List.length_cons, List.length_nil, JO, OR, hb, cond_true]
   omega
 ·have hb : (decide ((0 : Int) ≤ n) && decide (n ≤ 1000000000000)) = false := by
   by_cases a1 : (0 : Int) ≤ n <;> by_cases a2 : n ≤ 1000000000000 <;> simp [a1, a2]
   exact hn ⟨a1, a2⟩
  rw [hb] at e2
  refine ⟨bs, aH (fn := ig) rfl ?_, ho, by simp [JO, OR, hb]⟩
  simp [ig, e1, e2]
end Gi
namespace Gi
open Go Go.RowKit
set_option maxHeartbeats 4000000
set_option maxRecDepth 4000
attribute [local simp] bW eM aq am bg bt cF dN Opd.ev put V.cells plain bz hJ isInt isStr isBool bin bf aS aR un asList L.view aB V.view viewL done bC aC aT cj comp bq bZ a8 V.flat L.flat dX dJ bS putAt thaw thawL freezeVs freezeLs freezeL V.mut L.mut bm aZ L.notArr
theorem j3 {bs : List (List PV)} (ho : ones bs = true) (hl : bs.length ≤ 900000000) (n : Int) : ∃ es, aa Ph al 244 [bJ bs, ae .i64 n] = some (.one (.own 1 es)) ∧ ones es = true ∧ es.length = bs.length + JO n := by
 have c1 : bs.length ≤ 140737488355328 := by omega
 have c2 : bs.length ≤ 9223372036854775807 := by omega
 have ho' : (bs.all fun e => e.length == 1) = true := ho
 have e2 := fv n 0 1000000000000
 by_cases hn : 0 ≤ n ∧ n ≤ 1000000000000
 ·have hb : (decide ((0 : Int) ≤ n) && decide (n ≤ 1000000000000)) = true := by simp; omega
  rw [hb] at e2
  have LP := MD 5 n hn.1 hn.2 (by simp; omega) [.dead] bs (by omega)
  generalize hF : aq (aa Ph al) ah dE = F at LP
  obtain ⟨e, σ', k1, k2, n', g', es', ⟨k3, k4⟩, x0, x2, x3, x4, x6, x7, x8, x9, x10, x11, x12, x13, x14, x15, x16, x17, x18, x19, x20, x21, x22, x23, x24, x25, x26, x27, x28, rfl⟩ := (LP (bJ bs) (.tup []) (.tup []) (.one .nil) (.one (.arr 0)) (bJ bs) (.one (.arr 1)) (ae .i64 n) (aj true) (aj false) (.tup []) (.tup []) (.tup []) (.tup []) (.tup []) (.tup []) (.tup []) (.tup []) (.tup []) (.tup []) (.tup []) (.tup []) (.tup []) (.tup []) (.tup []) (.tup []) (.tup []) _ rfl).get
  subst k2
  have b1 : es'.length + 1 ≤ 140737488355328 := by have := Gl 5 n; omega
  have b2 : es'.length + 1 ≤ 9223372036854775807 := by omega
  refine ⟨es' ++ [[.int .u8 (IntKind.u8.wrap n')]], aH (fn := ii) rfl ?_, ?_, ?_⟩
  ·simp at k1
   simp [ii, e2, hF, c1, c2, ↓ho', k1, G2, G3, Hu, b1, b2]
  ·have := k4 ho
   simp only [ones, List.all_append, List.all_cons, List.all_nil] at this ⊢
   simp [this]
  ·simp only [List.length_append, List.length_cons, List.length_nil, JO, OR, hb, cond_true]
   omega
 ·have hb : (decide ((0 : Int) ≤ n) && decide (n ≤ 1000000000000)) = false := by
   by_cases a1 : (0 : Int) ≤ n <;> by_cases a2 : n ≤ 1000000000000 <;> simp [a1, a2]
   exact hn ⟨a1, a2⟩
  rw [hb] at e2
  refine ⟨bs, aH (fn := ii) rfl ?_, ho, by simp [JO, OR, hb]⟩
  simp [ii, e2, c1, c2, ↓ho']
theorem mb {a b : List (List PV)} (h : ones a = true) (k : ones b = true) : ones (a ++ b) = true := by
 simp only [ones, List.all_append] at *
 simp [h, k]
theorem uJ {bs ds : List (List PV)} (ho : ones bs = true) (hd : ones ds = true) (hl : bs.length ≤ 800000000) (hl2 : ds.length ≤ 50000000) : ∃ es, aa Ph al 248 [bJ bs, bJ ds] = some (.one (.own 1 es)) ∧ ones es = true ∧ es.length = bs.length + JO ds.length + ds.length := by
 obtain ⟨es, e1, e2, e3⟩ := jY ho (by omega) ds.length
 have hu := pR ds.length
 have b1 : es.length + ds.length ≤ 140737488355328 := by omega
 have b2 : es.length + ds.length ≤ 9223372036854775807 := by omega
 have hd' : (ds.all fun e => e.length == 1) = true := hd
 refine ⟨es ++ ds, aH (fn := lB) rfl ?_, mb e2 hd, by rw [List.length_append, e3]⟩
 simp [lB, e1, ↓hd', b1, b2]
theorem uQ {bs ds : List (List PV)} (ho : ones bs = true) (hd : ones ds = true) (hl : bs.length ≤ 800000000) (hl2 : ds.length ≤ 50000000) : ∃ es, aa Ph al 245 [bJ bs, bJ ds] = some (.one (.own 1 es)) ∧ ones es = true ∧ es.length = bs.length + JO ds.length + ds.length := by
 obtain ⟨es, e1, e2, e3⟩ := j3 ho (by omega) ds.length
 have hu := pR ds.length
 have b1 : es.length + ds.length ≤ 140737488355328 := by omega
 have b2 : es.length + ds.length ≤ 9223372036854775807 := by omega
 have hd' : (ds.all fun e => e.length == 1) = true := hd
 refine ⟨es ++ ds, aH (fn := lI) rfl ?_, mb e2 hd, by rw [List.length_append, e3]⟩
 simp [lI, e1, ↓hd', b1, b2]
end Gi
namespace Gi
open Go Go.RowKit
set_option maxHeartbeats 4000000
set_option maxRecDepth 4000
attribute [local simp] bW eM aq am bg bt cF dN Opd.ev put V.cells plain bz hJ isInt isStr isBool bin bf aS aR un asList L.view aB V.view viewL done bC aC aT cj comp bq bZ a8 V.flat L.flat dX dJ bS putAt thaw thawL freezeVs freezeLs freezeL V.mut L.mut bm aZ
theorem L2 {a b : Int} {s : List UInt8} : ∀ (m : Nat) (i : Int), m ≤ 6 → i = (m : Int) - 1 → ∀ (g : List AObj) (es : List (List PV)), es.length + m ≤ 1000000000 → ∀ (x0 x2 x5 x6 x7 x8 x9 x10 x11 x12 x13 x14 x15 x16 x17 x18 x19 x20 x21 x22 x23 x24 x25 x26 x27 x28 x29 x30 x31 x32 x33 : V) (σ : St), σ = ⟨(x0 :: .one (.ptr 0 0 0) :: x2 :: .one (.arr (g.length + 1)) :: ae .i64 i :: x5 :: x6 :: x7 :: x8 :: x9 :: x10 :: x11 :: x12 :: x13 :: x14 :: x15 :: x16 :: x17 :: x18 :: x19 :: x20 :: x21 :: x22 :: x23 :: x24 :: x25 :: x26 :: x27 :: x28 :: x29 :: x30 :: x31 :: x32 :: x33 :: []), .box [.pv (.int .i64 a), .pv (.int .i64 b), .pv (.str s)] :: (g ++ [.arr 1 es])⟩ →
 jm (ah (aq (aa Ph al) ah f0) σ) fun e σ' => e = .exit 0 ∧ ∃ (g' : List AObj) (es' : List (List PV)), (es'.length = es.length + m ∧ (ones es = true → ones es' = true)) ∧ ∃ (x0 x2 x5 x6 x7 x8 x9 x10 x11 x12 x13 x14 x15 x16 x17 x18 x19 x20 x21 x22 x23 x24 x25 x26 x27 x28 x29 x30 x31 x32 x33 y : V), σ' = ⟨(x0 :: .one (.ptr 0 0 0) :: x2 :: .one (.arr (g'.length + 1)) :: y :: x5 :: x6 :: x7 :: x8 :: x9 :: x10 :: x11 :: x12 :: x13 :: x14 :: x15 :: x16 :: x17 :: x18 :: x19 :: x20 :: x21 :: x22 :: x23 :: x24 :: x25 :: x26 :: x27 :: x28 :: x29 :: x30 :: x31 :: x32 :: x33 :: []), .box [.pv (.int .i64 a), .pv (.int .i64 b), .pv (.str s)] :: (g' ++ [.arr 1 es'])⟩ := by
 generalize hF : aq (aa Ph al) ah f0 = F
 intro m
 induction m with
 | zero =>
  intro i hm hi g es he x0 x2 x5 x6 x7 x8 x9 x10 x11 x12 x13 x14 x15 x16 x17 x18 x19 x20 x21 x22 x23 x24 x25 x26 x27 x28 x29 x30 x31 x32 x33 σ hσ
  subst hσ
  have hn : ¬ (0 : Int) ≤ i := by omega
  rw [aG hF]
  simp [f0, hn, bD]
  refine ⟨g, es, ⟨rfl, fun h => h⟩, ?_⟩
  simp
 | succ m ih =>
  intro i hm hi g es he x0 x2 x5 x6 x7 x8 x9 x10 x11 x12 x13 x14 x15 x16 x17 x18 x19 x20 x21 x22 x23 x24 x25 x26 x27 x28 x29 x30 x31 x32 x33 σ hσ
  subst hσ
  have hn : (0 : Int) ≤ i := by omega
  have hw8 : IntKind.i64.wrap (8 * i) = 8 * i := by rw [IntKind.wrap_i64]; omega
  have hw1 : IntKind.i64.wrap (i - 1) = i - 1 := by rw [IntKind.wrap_i64]; omega
  have b1 : es.length + 1 ≤ 140737488355328 := by omega
  have b2 : es.length + 1 ≤ 9223372036854775807 := by omega
  obtain ⟨Z, hZ⟩ : ∃ Z, ie .shr .i64 (IntKind.i64.wrap (b + 1000000000000)) (8 * i) = some (ae .i64 Z) := by
   unfold ie
   rw [if_neg (by omega)]
   exact ⟨_, rfl⟩
  have key := fun B : Int => ih (i - 1) (by omega) (by omega) (g ++ [.dead, .arr 1 [[.int .u8 B]]]) (es ++ [[.int .u8 B]]) (by simp; omega)
  clear ih
  simp only [List.length_append, List.length_cons, List.length_nil, Nat.zero_add, List.append_assoc, List.cons_append, List.nil_append] at key
  rw [aG hF]
  simp [f0, hn, hw8, hw1, hZ, G2, G3, Hu, L.notArr, b1, b2]
  obtain ⟨e, σ', k1, k2, g', es', ⟨k3, k4⟩, k5⟩ := (key _ _ _ _ _ _ _ _ _ _ _ _ _ _ _ _ _ _ _ _ _ _ _ _ _ _ _ _ _ _ _ _ _ rfl).get
  rw [k1]
  refine ⟨k2, g', es', ⟨by rw [k3]; omega, fun h => k4 ?_⟩, k5⟩
  simp only [ones, List.all_append, List.all_cons, List.all_nil] at h ⊢
  simp [h]
theorem ME {a b : Int} {s : List UInt8} (ha : (a != 2) = true) : ∀ (m : Nat) (i : Int), m ≤ 6 → i = (m : Int) - 1 → ∀ (g : List AObj) (es : List (List PV)), es.length + m ≤ 1000000000 → ∀ (x0 x2 x5 x6 x7 x8 x9 x10 x11 x12 x13 x14 x15 x16 x17 x18 x19 x20 x21 x22 x23 x24 x25 x26 x27 x28 x29 x30 x31 x32 x33 x34 x35 x36 x37 : V) (σ : St), σ = ⟨(x0 :: .one (.ptr 0 0 0) :: x2 :: .one (.arr (g.length + 1)) :: ae .i64 i :: x5 :: x6 :: x7 :: x8 :: x9 :: x10 :: x11 :: x12 :: x13 :: x14 :: x15 :: x16 :: x17 :: x18 :: x19 :: x20 :: x21 :: x22 :: x23 :: x24 :: x25 :: x26 :: x27 :: x28 :: x29 :: x30 :: x31 :: x32 :: x33 :: x34 :: x35 :: x36 :: x37 :: []), .box [.pv (.int .i64 a), .pv (.int .i64 b), .pv (.str s)] :: (g ++ [.arr 1 es])⟩ →
 jm (ah (aq (aa Ph al) ah eE) σ) fun e σ' => e = .exit 0 ∧ ∃ (g' : List AObj) (es' : List (List PV)), (es'.length = es.length + m ∧ (ones es = true → ones es' = true)) ∧ ∃ (x0 x2 x5 x6 x7 x8 x9 x10 x11 x12 x13 x14 x15 x16 x17 x18 x19 x20 x21 x22 x23 x24 x25 x26 x27 x28 x29 x30 x31 x32 x33 x34 x35 x36 x37 y : V), σ' = ⟨(x0 :: .one (.ptr 0 0 0) :: x2 :: .one (.arr (g'.length + 1)) :: y :: x5 :: x6 :: x7 :: x8 :: x9 :: x10 :: x11 :: x12 :: x13 :: x14 :: x15 :: x16 :: x17 :: x18 :: x19 :: x20 :: x21 :: x22 :: x23 :: x24 :: x25 :: x26 :: x27 :: x28 :: x29 :: x30 :: x31 :: x32 :: x33 :: x34 :: x35 :: x36 :: x37 :: []), .box [.pv (.int .i64 a), .pv (.int .i64 b), .pv (.str s)] :: (g' ++ [.arr 1 es'])⟩ := by
 generalize hF : aq (aa Ph al) ah eE = F
 intro m
 induction m with
 | zero =>
  intro i hm hi g es he x0 x2 x5 x6 x7 x8 x9 x10 x11 x12 x13 x14 x15 x16 x17 x18 x19 x20 x21 x22 x23 x24 x25 x26 x27 x28 x29 x30 x31 x32 x33 x34 x35 x36 x37 σ hσ
  subst hσ
  have hn : ¬ (0 : Int) ≤ i := by omega
  rw [aG hF]
  simp [eE, hn, ha, bD]
  refine ⟨g, es, ⟨rfl, fun h => h⟩, ?_⟩
  simp
 | succ m ih =>
  intro i hm hi g es he x0 x2 x5 x6 x7 x8 x9 x10 x11 x12 x13 x14 x15 x16 x17 x18 x19 x20 x21 x22 x23 x24 x25 x26 x27 x28 x29 x30 x31 x32 x33 x34 x35 x36 x37 σ hσ
  subst hσ
  have hn : (0 : Int) ≤ i := by omega
  have hw8 : IntKind.i64.wrap (8 * i) = 8 * i := by rw [IntKind.wrap_i64]; omega
  have hw1 : IntKind.i64.wrap (i - 1) = i - 1 := by rw [IntKind.wrap_i64]; omega
  have b1 : es.length + 1 ≤ 140737488355328 := by omega
  have b2 : es.length + 1 ≤ 9223372036854775807 := by omega
  obtain ⟨Z, hZ⟩ : ∃ Z, ie .shr .i64 (IntKind.i64.wrap (b + 1000000000000)) (8 * i) = some (ae .i64 Z) := by
   unfold ie
   rw [if_neg (by omega)]
   exact ⟨_, rfl⟩
  obtain ⟨A, hA⟩ : ∃ A, bf .and .i64 Z 255 = some (ae .i64 A) := ⟨_, rfl⟩
  have key := fun B : Int => ih (i - 1) (by omega) (by omega) (g ++ [.dead, .arr 1 [[.int .u8 B]]]) (es ++ [[.int .u8 B]]) (by simp; omega)
  clear ih
  simp only [List.length_append, List.length_cons, List.length_nil, Nat.zero_add, List.append_assoc, List.cons_append, List.nil_append] at key
  rw [aG hF]
  simp [eE, hn, hw8, hw1, hZ, ha, ↓hA, G2, G3, Hu, L.notArr, b1, b2]
  obtain ⟨e, σ', k1, k2, g', es', ⟨k3, k4⟩, k5⟩ := (key _ _ _ _ _ _ _ _ _ _ _ _ _ _ _ _ _ _ _ _ _ _ _ _ _ _ _ _ _ _ _ _ _ _ _ _ _ rfl).get
  rw [k1]
  refine ⟨k2, g', es', ⟨by rw [k3]; omega, fun h => k4 ?_⟩, k5⟩
  simp only [ones, List.all_append, List.all_cons, List.all_nil] at h ⊢
  simp [h]
def tP (a b : Int) (s : List UInt8) : Nat := cond (pE a b s) (1 + cond (a != 2) 6 0 + s.length) 0
theorem jE (s : List UInt8) : ones (aU s) = true := by simp [ones, aU]
theorem i9 (s : List UInt8) : (aU s).length = s.length := by simp [aU]
theorem tL {a b : Int} {s : List UInt8} (h : pE a b s = true) : s.length ≤ 12 := by
 unfold pE p7 at h
 simp only [Bool.and_eq_true, decide_eq_true_eq] at h
 exact h.1.2.2
theorem w9 {a b : Int} {s : List UInt8} (hl0 : s.length ≤ maxLen) : ∃ es, aa Ph al 225 [.agg [.pv (.int .i64 a), .pv (.int .i64 b), .pv (.str s)]] = some (.one (.own 1 es)) ∧ ones es = true ∧ es.length = tP a b s := by
 have e1 := vd (a := a) (b := b) (s := s) hl0
 unfold tP
 cases hk : pE a b s
 ·rw [hk] at e1
  refine ⟨[], aH (fn := gT) rfl ?_, rfl, rfl⟩
  simp [gT, e1]
 ·have hl := tL hk
  rw [hk] at e1
  have b1 : 1 + s.length ≤ 140737488355328 := by omega
  have b2 : 1 + s.length ≤ 9223372036854775807 := by omega
  cases ha : (a != 2)
  ·refine ⟨[[.int .u8 (IntKind.u8.wrap a)]] ++ aU s, aH (fn := gT) rfl ?_, mb rfl (jE s), by simp [i9]; omega⟩
   simp [gT, e1, ha, b1, b2]
  ·have LP := L2 (a := a) (b := b) (s := s) 6 5 (by omega) (by omega) [] [[.int .u8 (IntKind.u8.wrap a)]] (by simp)
   generalize hF : aq (aa Ph al) ah f0 = F at LP
   obtain ⟨e, σ', k1, k2, g', es', ⟨k3, k4⟩, x0, x2, x5, x6, x7, x8, x9, x10, x11, x12, x13, x14, x15, x16, x17, x18, x19, x20, x21, x22, x23, x24, x25, x26, x27, x28, x29, x30, x31, x32, x33, y, rfl⟩ := (LP (.agg [.pv (.int .i64 a), .pv (.int .i64 b), .pv (.str s)]) (.one .nil) (.agg [.pv (.int .i64 a), .pv (.int .i64 b), .pv (.str s)]) (aj true) (aj false) (.tup []) (.one (.ptr 0 0 0)) (ae .i64 a) (ae .u8 (IntKind.u8.wrap a)) (.one (.arr 1)) (.one (.ptr 0 0 0)) (ae .i64 a) (aj true) (.tup []) (.tup []) (.tup []) (.tup []) (.tup []) (.tup []) (.tup []) (.tup []) (.tup []) (.tup []) (.tup []) (.tup []) (.tup []) (.tup []) (.tup []) (.tup []) (.tup []) (.tup []) _ rfl).get
   subst k2
   simp at k3
   have c1 : es'.length + s.length ≤ 140737488355328 := by omega
   have c2 : es'.length + s.length ≤ 9223372036854775807 := by omega
   refine ⟨es' ++ aU s, aH (fn := gT) rfl ?_, mb (k4 rfl) (jE s), by rw [List.length_append, i9, k3]; simp⟩
   simp at k1
   simp [gT, e1, ha, hF, k1, G2, G3, Hu, c1, c2]
theorem xE {a b : Int} {s : List UInt8} (hl0 : s.length ≤ maxLen) : ∃ es, aa Ph al 221 [.agg [.pv (.int .i64 a), .pv (.int .i64 b), .pv (.str s)]] = some (.one (.own 1 es)) ∧ ones es = true ∧ es.length = tP a b s := by
 have e1 := vj (a := a) (b := b) (s := s) hl0
 have hob : ((aU s).all fun e => e.length == 1) = true := jE s
 have hol := i9 s
 unfold tP
 cases hk : pE a b s
 ·rw [hk] at e1
  refine ⟨[], aH (fn := gW) rfl ?_, rfl, rfl⟩
  simp [gW, e1]
 ·have hl := tL hk
  rw [hk] at e1
  cases ha : (a != 2)
  ·refine ⟨[[.int .u8 (IntKind.u8.wrap a)]] ++ aU s, aH (fn := gW) rfl ?_, mb rfl (jE s), by simp [i9]; omega⟩
   generalize hF : aq (aa Ph al) ah eE = F
   have b1 : 1 + s.length ≤ 140737488355328 := by omega
   have b2 : 1 + s.length ≤ 9223372036854775807 := by omega
   simp [-List.all_eq_true, gW, e1, hF]
   rw [aG hF]
   simp [eE, ha, hol, ↓hob, b1, b2, L.notArr]
  ·have LP := ME (a := a) (b := b) (s := s) ha 6 5 (by omega) (by omega) [] [[.int .u8 (IntKind.u8.wrap a)]] (by simp)
   generalize hF : aq (aa Ph al) ah eE = F at LP
   simp only [ones, List.all_cons, List.all_nil] at LP
   obtain ⟨e, σ', k1, k2, g', es', ⟨k3, k4⟩, x0, x2, x5, x6, x7, x8, x9, x10, x11, x12, x13, x14, x15, x16, x17, x18, x19, x20, x21, x22, x23, x24, x25, x26, x27, x28, x29, x30, x31, x32, x33, x34, x35, x36, x37, y, rfl⟩ := (LP (.agg [.pv (.int .i64 a), .pv (.int .i64 b), .pv (.str s)]) (.one .nil) (.agg [.pv (.int .i64 a), .pv (.int .i64 b), .pv (.str s)]) (aj true) (aj false) (.tup []) (.one (.ptr 0 0 0)) (ae .i64 a) (ae .u8 (IntKind.u8.wrap a)) (.one (.arr 1)) (.tup []) (.tup []) (.tup []) (.tup []) (.tup []) (.tup []) (.tup []) (.tup []) (.tup []) (.tup []) (.tup []) (.tup []) (.tup []) (.tup []) (.tup []) (.tup []) (.tup []) (.tup []) (.tup []) (.tup []) (.tup []) (.tup []) (.tup []) (.tup []) (.tup []) _ rfl).get
   subst k2
   simp at k3
   have k4' : ones es' = true := k4 rfl
   have c1 : es'.length + s.length ≤ 140737488355328 := by omega
   have c2 : es'.length + s.length ≤ 9223372036854775807 := by omega
   refine ⟨es' ++ aU s, aH (fn := gW) rfl ?_, mb k4' (jE s), by rw [List.length_append, i9, k3]; simp⟩
   simp at k1
   simp [gW, e1, hF, k1, G2, G3, Hu, hol, ↓hob, c1, c2, L.notArr]
end Gi
