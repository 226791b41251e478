/- Of this proof. -/
import Derived.Test.YtlohbkffhpnfgaaGreatGsp
set_option linter.unusedSimpArgs false
set_option linter.unusedVariables false
namespace Gi
open Go
section
variable {call : Nat → List V → Option V} {Q : Ex → St → Prop} {ks : List Fr} {σ τ : St}
theorem CT {id : Nat} {σ : St} (h : wp call Q ks (some (.exit id, σ))) : wp call Q (.sq ly :: ks) (some (.exit id, σ)) := by rw [cL]; exact h
theorem wL {c : ACode} : wp call Q ks (ai call aq (.loop c) σ) = wp call Q (.sq (.loop c) :: ks) (ai call aq c σ) := by
 simp only [ai]
 rw [rq]
 cases h : ai call aq c σ with
 | none => simp only [lC]
 | some x =>
  obtain ⟨e, σ'⟩ := x
  cases e with
  | normal => simp only [cJ, ai]
  | exit i => simp only [cL]
  | ret => simp only [cP]
theorem KD (hc : kH call) (hQ : Cl Q) {c : ACode} {t : List V} {h : List AObj} (n : Nat) (m : List Mk) (U : Nat → List (Nat × V)) (H : Nat → List AObj) (id : Nat) (hz : (c.zOk && kz ks) = true) (kn : Kn ⟨fh (cM m t) (U 0), H 0⟩ ⟨t, h⟩)
 (st : ∀ k, k < n → wp call (fun e τ => e = .normal ∧ Kn ⟨fh (cM m t) (U (k + 1)), H (k + 1)⟩ τ) [] (ai call aq c ⟨fh (cM m t) (U k), H k⟩))
 (en : wp call (fun e τ => e = .exit id ∧ Kn ⟨fh (cM m t) (U n), H n⟩ τ) [] (ai call aq c ⟨fh (cM m t) (U n), H n⟩))
 (rest : wp call Q ks (some (.exit id, ⟨fh (cM m t) (U n), H n⟩))) : wp call Q ks (ai call aq (.loop c) ⟨t, h⟩) := by
 refine cI hc hQ n m U H hz kn st ?_
 obtain ⟨τ, h1, k1⟩ := Dk en
 rw [h1]
 refine CT (IA hc hQ ?_ k1 rest)
 simp only [Bool.and_eq_true] at hz
 exact hz.2
theorem P5 (hc : kH call) (hQ : Cl Q) {c : ACode} {t : List V} {h : List AObj} (m : List Mk) (U : Nat → List (Nat × V)) (n : Nat) (p : Nat → Bool) (id : Nat) (hz : (c.zOk && kz ks) = true) (kn : Kn ⟨fh (cM m t) (U 0), h⟩ ⟨t, h⟩)
 (st : ∀ k, k < n → p k = false → wp call (fun e τ => e = .normal ∧ Kn ⟨fh (cM m t) (U (k + 1)), h⟩ τ) [] (ai call aq c ⟨fh (cM m t) (U k), h⟩))
 (le : ∀ k, k < n → p k = true → (∀ j, j < k → p j = false) → wp call Q (.sq ly :: ks) (ai call aq c ⟨fh (cM m t) (U k), h⟩))
 (en : wp call (fun e τ => e = .exit id ∧ Kn ⟨fh (cM m t) (U n), h⟩ τ) [] (ai call aq c ⟨fh (cM m t) (U n), h⟩))
 (rest : (∀ k, k < n → p k = false) → wp call Q ks (some (.exit id, ⟨fh (cM m t) (U n), h⟩))) : wp call Q ks (ai call aq (.loop c) ⟨t, h⟩) := by
 refine IB hc hQ m U n p hz kn st le (fun hp => ?_)
 obtain ⟨τ, h1, k1⟩ := Dk en
 rw [h1]
 refine CT (IA hc hQ ?_ k1 (rest hp))
 simp only [Bool.and_eq_true] at hz
 exact hz.2
end
def qM : List V → Nat → V
 | [], _ => .tup []
 | v :: _, 0 => v
 | _ :: r, n + 1 => qM r n
def wK : List V → Nat → V → List V
 | [], _, _ => []
 | _ :: r, 0, x => x :: r
 | v :: r, n + 1, x => v :: wK r n x
theorem wH : ∀ (t : List V) (n : Nat), t.getD n (.tup []) = qM t n
 | [], _ => by simp [qM]
 | v :: r, 0 => by simp [qM]
 | v :: r, n + 1 => by rw [List.getD_cons_succ, wH r n]; rfl
theorem Gx : ∀ (t : List V) (n : Nat) (x : V), t.set n x = wK t n x
 | [], _, _ => rfl
 | v :: r, 0, _ => rfl
 | v :: r, n + 1, x => by rw [List.set_cons_succ, Gx r n x]; rfl
theorem dV {σ : St} {n : Nat} : (Opd.tmp n).ev σ = qM σ.t n := wH _ _
theorem fU {σ : St} {p : PV} : (Opd.pv p).ev σ = .one (.pv p) := rfl
theorem dU {σ : St} : Opd.nil.ev σ = .one .nil := rfl
theorem fT {σ : St} {k : Nat} : (Opd.fn k).ev σ = .one (.fn k []) := rfl
theorem fZ {t : List V} {d : Nat} {v : V} : put t (some d) v = wK t d v := Gx _ _ _
theorem fY {t : List V} {v : V} : put t none v = t := rfl
theorem cX {σ : St} {n : Nat} : bw σ (.tmp n) = some (qM σ.t n) := by simp only [bw, wH]
theorem cd {σ : St} {t n : Nat} : bw σ (.cell t n) = bm σ.h true n (qM σ.t t) := by simp only [bw, wH]
theorem dZ {t : List V} {i : Nat} {v : V} {r : List (Nat × V)} : fh t ((i, v) :: r) = fh (wK t i v) r := by rw [dL, Gx]
section
variable {a b c d e f g h v : V} {r : List V} {n : Nat}
theorem uF : qM (v :: r) 0 = v := rfl
theorem uO {x : V} : wK (v :: r) 0 x = x :: r := rfl
theorem uG : qM (a :: v :: r) 1 = v := rfl
theorem uP {x : V} : wK (a :: v :: r) 1 x = a :: x :: r := rfl
theorem uH : qM (a :: b :: v :: r) 2 = v := rfl
theorem uQ {x : V} : wK (a :: b :: v :: r) 2 x = a :: b :: x :: r := rfl
theorem uI : qM (a :: b :: c :: v :: r) 3 = v := rfl
theorem uR {x : V} : wK (a :: b :: c :: v :: r) 3 x = a :: b :: c :: x :: r := rfl
theorem uJ : qM (a :: b :: c :: d :: v :: r) 4 = v := rfl
theorem uS {x : V} : wK (a :: b :: c :: d :: v :: r) 4 x = a :: b :: c :: d :: x :: r := rfl
theorem uK : qM (a :: b :: c :: d :: e :: v :: r) 5 = v := rfl
theorem uT {x : V} : wK (a :: b :: c :: d :: e :: v :: r) 5 x = a :: b :: c :: d :: e :: x :: r := rfl
theorem uL : qM (a :: b :: c :: d :: e :: f :: v :: r) 6 = v := rfl
theorem uU {x : V} : wK (a :: b :: c :: d :: e :: f :: v :: r) 6 x = a :: b :: c :: d :: e :: f :: x :: r := rfl
theorem uM : qM (a :: b :: c :: d :: e :: f :: g :: v :: r) 7 = v := rfl
theorem uV {x : V} : wK (a :: b :: c :: d :: e :: f :: g :: v :: r) 7 x = a :: b :: c :: d :: e :: f :: g :: x :: r := rfl
theorem uN : qM (a :: b :: c :: d :: e :: f :: g :: h :: r) (n + 8) = qM r n := rfl
theorem uW {x : V} : wK (a :: b :: c :: d :: e :: f :: g :: h :: r) (n + 8) x = a :: b :: c :: d :: e :: f :: g :: h :: wK r n x := rfl
end
section
variable {call : Nat → List V → Option V} {Q : Ex → St → Prop} {ks : List Fr} {σ τ : St}
variable (call Q ks) in
def wo (ops : List AOper) (σ : St) : Prop := wp call Q ks (match ag call ops σ with
 | some σ' => some (.normal, σ')
 | none => none)
variable (call Q ks) in
def sJ (r : List AOper) (d : Option Nat) (σ : St) : AOp → Prop
 | .pick c a b => match isBool (c.ev σ) with
  | some t => if _ : t = true then wo call Q ks r ⟨put σ.t d (a.ev σ), σ.h⟩ else wo call Q ks r ⟨put σ.t d (b.ev σ), σ.h⟩
  | none => False
 | op => match bf call σ op with
  | some v => wo call Q ks r ⟨put σ.t d v, σ.h⟩
  | none => match bW call σ op with
   | some x => wo call Q ks r ⟨put σ.t d x.1, x.2⟩
   | none => False
theorem bE {ops : List AOper} : wp call Q ks (ai call aq (.region ops) σ) = wo call Q ks ops σ := nw
theorem ed : wo call Q ks [] σ = wp call Q ks (some (.normal, σ)) := rfl
theorem P4 {o : AOper} {r : List AOper} : wo call Q ks (o :: r) σ = match aw call o σ with
 | some σ' => wo call Q ks r σ'
 | none => False := by
 unfold wo
 simp only [ag]
 cases aw call o σ with
 | some x => rfl
 | none => simp only [lC]
theorem NL {r : List AOper} {d : Option Nat} {op : AOp} : sJ call Q ks r d σ op = match (match bf call σ op with
 | some v => some (⟨put σ.t d v, σ.h⟩ : St)
 | none => match bW call σ op with
  | some (v, h) => some ⟨put σ.t d v, h⟩
  | none => none) with
 | some σ' => wo call Q ks r σ'
 | none => False := by
 have key : ∀ (f : Option V) (e : Option (V × List AObj)), (match f with
  | some v => wo call Q ks r ⟨put σ.t d v, σ.h⟩
  | none => match e with
   | some x => wo call Q ks r ⟨put σ.t d x.1, x.2⟩
   | none => False) = match (match f with
  | some v => some (⟨put σ.t d v, σ.h⟩ : St)
  | none => match e with
   | some (v, h) => some ⟨put σ.t d v, h⟩
   | none => none) with
  | some σ' => wo call Q ks r σ'
  | none => False := fun f e => by
  cases f with
  | some v => rfl
  | none => cases e <;> rfl
 unfold sJ
 split
 ·simp only [bf, bW]
  cases isBool (Opd.ev σ _) with
  | none => rfl
  | some t => cases t <;> simp
 ·exact key _ _
theorem cY {r : List AOper} {d : Option Nat} {op : AOp} : wo call Q ks (⟨d, op, none⟩ :: r) σ = sJ call Q ks r d σ op := by
 rw [P4, NL]; rfl
theorem ce {r : List AOper} {d : Option Nat} {op : AOp} {g : Nat} {w : Bool} : wo call Q ks (⟨d, op, some (g, w)⟩ :: r) σ = match qM σ.t g with
 | .one (.pv (.bool b)) => if _ : b = w then sJ call Q ks r d σ op else wo call Q ks r ⟨put σ.t d (.tup []), σ.h⟩
 | .tup [] => wo call Q ks r ⟨put σ.t d (.tup []), σ.h⟩
 | _ => False := by
 rw [P4, ← wH]
 unfold aw
 simp only [aH]
 cases σ.t.getD g (.tup []) with
 | one l =>
  cases l with
  | pv p =>
   cases p with
   | bool b =>
    have e := NL (call := call) (Q := Q) (ks := ks) (σ := σ) (r := r) (d := d) (op := op)
    cases b <;> cases w <;> simp only [e] <;> simp <;> rfl
   | _ => rfl
  | _ => rfl
 | agg ls => rfl
 | tup xs => cases xs <;> rfl
theorem cZ {c : Opd} {a b : ACode} : wp call Q ks (ai call aq (.cond c a b) σ) = match isBool (c.ev σ) with
 | some t => if _ : t = true then wp call Q ks (ai call aq a σ) else wp call Q ks (ai call aq b σ)
 | none => False := by
 rw [wp_cond]
 cases isBool (c.ev σ) with
 | none => simp only [lC]
 | some t => cases t <;> simp
theorem KE {P : Ex → St → Prop} {x : Option (Ex × St)} (h : wp call P [] x) : ∃ e τ, x = some (e, τ) ∧ P e τ := by
 cases x with
 | none => rw [lC] at h; exact h.elim
 | some x => exact ⟨_, _, rfl, h⟩
theorem Mh (hc : kH call) (hQ : Cl Q) {c : ACode} (S : Nat → St) (n : Nat) (p : Nat → Bool) (hz : (c.zOk && kz ks) = true) (kn : Kn (S 0) σ)
 (st : ∀ k, k < n → (∀ j, j < k → p j = false) → wp call (fun e τ => (p k = true → wp call Q (.sq ly :: ks) (some (e, τ))) ∧ (p k = false → e = .normal ∧ Kn (S (k + 1)) τ)) [] (ai call aq c (S k)))
 (en : (∀ k, k < n → p k = false) → wp call Q (.sq ly :: ks) (ai call aq c (S n))) : wp call Q ks (ai call aq (.loop c) σ) := by
 have key : ∀ m k, k + m = n → (∀ j, j < k → p j = false) → wp call Q ks (ai call aq (.loop c) (S k)) := by
  intro m
  induction m with
  | zero =>
   intro k hk hp
   obtain rfl : k = n := by omega
   exact pQ (en hp)
  | succ m ih =>
   intro k hk hp
   obtain ⟨e, τ, h1, h2, h3⟩ := KE (st k (by omega) hp)
   cases hpk : p k with
   | true => exact pQ (by rw [h1]; exact h2 hpk)
   | false =>
    obtain ⟨rfl, h4⟩ := h3 hpk
    refine yk hc hQ hz (by rw [h1, cK]; exact ⟨rfl, h4⟩) (ih (k + 1) (by omega) fun j hj => ?_)
    by_cases q : j = k
    ·rw [q]; exact hpk
    ·exact hp j (by omega)
 have hz' : kz (.sq (.loop c) :: ks) = true := by simpa only [kz, ACode.zOk] using hz
 exact GA hc hQ (S 0) hz' kn (key n 0 (by omega) (fun j h => by omega))
def fE (n : Nat) (p : Nat → Bool) : Bool := (List.range n).any p
theorem Mx {n k : Nat} {p : Nat → Bool} (hk : k < n) (h : p k = true) : fE n p = true := by
 unfold fE; rw [List.any_eq_true]; exact ⟨k, by simpa using hk, h⟩
theorem Mv {n : Nat} {p : Nat → Bool} (h : ∀ k, k < n → p k = false) : fE n p = false := by
 unfold fE; rw [List.any_eq_false]; intro k hk; simp [h k (by simpa using hk)]
theorem Mw {n : Nat} {p : Nat → Bool} (h : fE n p = false) {k : Nat} (hk : k < n) : p k = false := by
 unfold fE at h; rw [List.any_eq_false] at h; exact Bool.eq_false_iff.2 (h k (by simpa using hk))
theorem aA (hc : kH call) (hQ : Cl Q) {c : ACode} {t : List V} {h : List AObj} (m : List Mk) (U : Nat → List (Nat × V)) (n : Nat) (p : Nat → Bool) (hz : (c.zOk && kz ks) = true) (kn : Kn ⟨fh (cM m t) (U 0), h⟩ ⟨t, h⟩)
 (st : ∀ k, k < n → (∀ j, j < k → p j = false) → wp call (fun e τ => if _ : p k = true then fE n p = true → wp call Q (.sq ly :: ks) (some (e, τ)) else e = .normal ∧ Kn ⟨fh (cM m t) (U (k + 1)), h⟩ τ) [] (ai call aq c ⟨fh (cM m t) (U k), h⟩))
 (en : (∀ k, k < n → p k = false) → fE n p = false → wp call Q (.sq ly :: ks) (ai call aq c ⟨fh (cM m t) (U n), h⟩)) : wp call Q ks (ai call aq (.loop c) ⟨t, h⟩) := by
 refine Mh hc hQ (fun k => ⟨fh (cM m t) (U k), h⟩) n p hz kn (fun k hk hp => ?_) fun hp => en hp (Mv hp)
 obtain ⟨e, τ, h1, h2⟩ := KE (st k hk hp)
 rw [h1, cK]
 split at h2
 ·rename_i q; exact ⟨fun _ => h2 (Mx hk q), fun q' => by rw [q] at q'; cases q'⟩
 ·rename_i q; exact ⟨fun q' => absurd q' q, fun _ => h2⟩
end
end Gi
