/- Of this proof. -/
import Derived.Test.YthaajpjcibaopaaGreatGsn
namespace Gi
open Go
set_option linter.unusedVariables false
set_option linter.unusedSimpArgs false
section
variable {f g : List Nat} {h h' : List AObj} {σ τ υ : St} {call : Nat → List V → Option V}
theorem giveL_rel (k : HRel f h h') {l l' x : L} (r : relL f l l') (e : giveL h l = some x) : giveL h' l' = some x ∧ l.ren f = some l' := by
 rcases r with rfl | r
 ·cases e
 refine ⟨?_, r⟩
 cases l with
 | arr o =>
  obtain ⟨o', h1, rfl⟩ := ren_arr r
  obtain ⟨ob, ob', h2, h3, h4⟩ := k.get h1
  simp only [giveL, h2] at e
  simp only [giveL, h3]
  cases ob with
  | arr z es => rw [relOb_same h4 (by simp) (by simp)]; exact e
  | froz z es => rw [relOb_same h4 (by simp) (by simp)]; exact e
  | darr z es => rw [relOb_same h4 (by simp) (by simp)]; exact e
  | _ => cases e
 | pv p => simp only [L.ren] at r; cases r; exact e
 | nil => simp only [L.ren] at r; cases r; exact e
 | _ => cases e
theorem giveLs_rel (k : HRel f h h') : ∀ {ls ls' xs : List L}, relLs f ls ls' → giveLs h ls = some xs → giveLs h' ls' = some xs ∧ strLs f ls ls'
 | [], [], _, _, e => ⟨e, trivial⟩
 | l :: ls, l' :: ls', xs, r, e => by
  simp only [giveLs] at e ⊢
  split at e
  ·rename_i x ys h1 h2
   cases e
   obtain ⟨a1, a2⟩ := giveL_rel k r.1 h1
   obtain ⟨b1, b2⟩ := giveLs_rel k r.2 h2
   rw [a1, b1]
   exact ⟨rfl, a2, b2⟩
  ·cases e
 | [], _ :: _, _, e, _ => e.elim
 | _ :: _, [], _, e, _ => e.elim
theorem comp_rel (k : HRel f h h') {v v' : V} {x : Bool × List L} (r : relV f v v') (e : comp h v = some x) : comp h' v' = some x ∧ strLs f v.cells v'.cells := by
 cases v with
 | one l =>
  rcases r with rfl | ⟨l', rfl, r⟩
  ·cases e
  simp only [comp] at e ⊢
  split at e
  ·rename_i xs h1
   obtain ⟨a1, a2⟩ := giveLs_rel k (show relLs f [l] [l'] from ⟨.inr r, trivial⟩) h1
   rw [a1]
   exact ⟨e, a2⟩
  ·cases e
 | agg ls =>
  obtain ⟨ls', rfl, r⟩ := r
  simp only [comp] at e ⊢
  split at e
  ·rename_i xs h1
   obtain ⟨a1, a2⟩ := giveLs_rel k r h1
   rw [a1]
   exact ⟨e, a2⟩
  ·cases e
 | tup xs => cases e
theorem comps_rel (k : HRel f h h') : ∀ {vs vs' : List V} {xs : List (Bool × List L)}, relVs f vs vs' → comps h vs = some xs → comps h' vs' = some xs ∧ strLs f (vs.flatMap V.cells) (vs'.flatMap V.cells)
 | [], [], _, _, e => ⟨e, trivial⟩
 | v :: vs, v' :: vs', xs, r, e => by
  simp only [comps] at e ⊢
  split at e
  ·rename_i x ys h1 h2
   cases e
   obtain ⟨a1, a2⟩ := comp_rel k r.1 h1
   obtain ⟨b1, b2⟩ := comps_rel k r.2 h2
   rw [a1, b1]
   exact ⟨rfl, by simpa only [List.flatMap_cons] using a2.append b2⟩
  ·cases e
 | [], _ :: _, _, e, _ => e.elim
 | _ :: _, [], _, e, _ => e.elim
theorem arrs_rel (k : HRel f h h') : ∀ {ls ls' : List L}, strLs f ls ls' → (∀ o', o' ∈ arrsOf ls' → ∃ o, o ∈ arrsOf ls ∧ f[o]? = some o') ∧ ((arrsOf ls).Nodup → (arrsOf ls').Nodup)
 | [], [], _ => ⟨fun o' h => by simp [arrsOf] at h, fun h => h⟩
 | l :: ls, l' :: ls', r => by
  obtain ⟨i1, i2⟩ := arrs_rel k r.2
  have r1 := r.1
  have other : (∀ o, l ≠ .arr o) → (∀ o, l' ≠ .arr o) → arrsOf (l :: ls) = arrsOf ls ∧ arrsOf (l' :: ls') = arrsOf ls' := fun a b => by
   constructor
   ·cases l with
    | arr o => exact absurd rfl (a o)
    | _ => rfl
   ·cases l' with
    | arr o => exact absurd rfl (b o)
    | _ => rfl
  cases l with
  | arr o =>
   obtain ⟨o', h1, rfl⟩ := ren_arr r1
   have ea : arrsOf (.arr o :: ls) = o :: arrsOf ls := rfl
   have eb : arrsOf (.arr o' :: ls') = o' :: arrsOf ls' := rfl
   rw [ea, eb]
   refine ⟨fun p hp => ?_, fun nd => ?_⟩
   ·rcases List.mem_cons.1 hp with rfl | hp
    ·exact ⟨o, List.mem_cons_self, h1⟩
    ·obtain ⟨q, h2, h3⟩ := i1 p hp
     exact ⟨q, List.mem_cons_of_mem _ h2, h3⟩
   ·obtain ⟨n1, n2⟩ := List.nodup_cons.1 nd
    refine List.nodup_cons.2 ⟨fun hp => ?_, i2 n2⟩
    obtain ⟨q, h2, h3⟩ := i1 o' hp
    rw [k.inj h3 h1] at h2
    exact n1 h2
  | ptr o i j =>
   obtain ⟨o', _, rfl⟩ := ren_ptr r1
   obtain ⟨ea, eb⟩ := other (by simp) (by simp)
   rw [ea, eb]; exact ⟨i1, i2⟩
  | mp o =>
   obtain ⟨o', _, rfl⟩ := ren_mp r1
   obtain ⟨ea, eb⟩ := other (by simp) (by simp)
   rw [ea, eb]; exact ⟨i1, i2⟩
  | sub o c =>
   obtain ⟨o', _, rfl⟩ := ren_sub r1
   obtain ⟨ea, eb⟩ := other (by simp) (by simp)
   rw [ea, eb]; exact ⟨i1, i2⟩
  | _ =>
   simp only [L.ren] at r1
   cases r1
   obtain ⟨ea, eb⟩ := other (by simp) (by simp)
   rw [ea, eb]; exact ⟨i1, i2⟩
 | [], _ :: _, e => e.elim
 | _ :: _, [], e => e.elim
theorem resultsOf_rel (s : Cln f σ τ) : ∀ {rs : List ARes} {vs : List V}, resultsOf σ rs = some vs → ∃ vs', resultsOf τ rs = some vs' ∧ relVs f vs vs'
 | [], vs, e => by simp only [resultsOf] at e ⊢; cases e; exact ⟨_, rfl, trivial⟩
 | r :: rs, vs, e => by
  simp only [resultsOf] at e ⊢
  split at e
  ·rename_i x xs h1 h2
   cases e
   obtain ⟨xs', h3, h4⟩ := resultsOf_rel s h2
   have : ∃ x', resultOf τ r = some x' ∧ relV f x x' := by
    cases r with
    | tmp t => simp only [resultOf] at h1 ⊢; cases h1; exact ⟨_, rfl, s.tmps.getD t⟩
    | cell t n => exact fop_rel (call := fun _ _ => none) (op := .load true n (.tmp t)) s (fun _ _ _ h => by cases h) rfl h1
   obtain ⟨x', h5, h6⟩ := this
   rw [h5, h3]
   exact ⟨_, rfl, h6, h4⟩
  ·cases e
theorem finish_kn (k : Kn σ τ) {rs : List ARes} {r : V} (e : finish σ rs = some r) : finish τ rs = some r := by
 obtain ⟨f, s⟩ := k
 unfold finish at e ⊢
 cases hr : resultsOf σ rs with
 | none => simp [hr] at e
 | some vs =>
  obtain ⟨vs', h1, h2⟩ := resultsOf_rel s hr
  rw [h1]
  simp only [hr] at e ⊢
  split at e
  ·rename_i nd
   cases hcs : comps σ.h vs with
   | none => simp [hcs] at e
   | some xs =>
    obtain ⟨a1, a2⟩ := comps_rel s.heap h2 hcs
    rw [if_pos ((arrs_rel s.heap a2).2 nd), a1]
    rw [hcs] at e
    exact e
  ·cases e
def comp2 (g f : List Nat) : List Nat := f.map fun o => g.getD o 0
theorem ren_comp2 (k : HRel f h h') (hg : g.length = h'.length) {l l' l'' : L} (e1 : l.ren f = some l') (e2 : l'.ren g = some l'') : l.ren (comp2 g f) = some l'' := by
 have key : ∀ {o o' o'' : Nat}, f[o]? = some o' → g[o']? = some o'' → (comp2 g f)[o]? = some o'' := fun {o o' o''} a b => by
  simp only [comp2, List.getElem?_map, a, Option.map_some, List.getD, b, Option.getD_some]
 cases l with
 | ptr o i j =>
  obtain ⟨o', a, rfl⟩ := ren_ptr e1
  obtain ⟨o'', b, rfl⟩ := ren_ptr e2
  simp only [L.ren, key a b]
 | arr o =>
  obtain ⟨o', a, rfl⟩ := ren_arr e1
  obtain ⟨o'', b, rfl⟩ := ren_arr e2
  simp only [L.ren, key a b]
 | mp o =>
  obtain ⟨o', a, rfl⟩ := ren_mp e1
  obtain ⟨o'', b, rfl⟩ := ren_mp e2
  simp only [L.ren, key a b]
 | sub o c =>
  obtain ⟨o', a, rfl⟩ := ren_sub e1
  obtain ⟨o'', b, rfl⟩ := ren_sub e2
  simp only [L.ren, key a b]
 | _ =>
  simp only [L.ren] at e1
  cases e1
  exact e2
theorem ren_junk {l : L} (e : l.ren f = some .junk) : l = .junk := by
 cases l with
 | ptr o i j => obtain ⟨o', a, h⟩ := ren_ptr e; cases h
 | arr o => obtain ⟨o', a, h⟩ := ren_arr e; cases h
 | mp o => obtain ⟨o', a, h⟩ := ren_mp e; cases h
 | sub o c => obtain ⟨o', a, h⟩ := ren_sub e; cases h
 | junk => rfl
 | _ => simp only [L.ren] at e; cases e
theorem relL.trans (k : HRel f h h') (hg : g.length = h'.length) {l l' l'' : L} (e1 : relL f l l') (e2 : relL g l' l'') : relL (comp2 g f) l l'' := by
 rcases e1 with e1 | e1
 ·exact .inl e1
 rcases e2 with rfl | e2
 ·exact .inl (ren_junk e1)
 ·exact .inr (ren_comp2 k hg e1 e2)
theorem relLs.trans (k : HRel f h h') (hg : g.length = h'.length) : ∀ {a b c : List L}, relLs f a b → relLs g b c → relLs (comp2 g f) a c
 | [], [], [], _, _ => trivial
 | _ :: _, _ :: _, _ :: _, e1, e2 => ⟨e1.1.trans k hg e2.1, relLs.trans k hg e1.2 e2.2⟩
 | [], _ :: _, _, e, _ => e.elim
 | _ :: _, [], _, e, _ => e.elim
 | _, [], _ :: _, _, e => e.elim
 | _, _ :: _, [], _, e => e.elim
theorem relTs.trans (k : HRel f h h') (hg : g.length = h'.length) : ∀ {a b c : List (Bool × List L)}, relTs f a b → relTs g b c → relTs (comp2 g f) a c
 | [], [], [], _, _ => trivial
 | _ :: _, _ :: _, _ :: _, e1, e2 => ⟨e1.1.trans e2.1, e1.2.1.trans k hg e2.2.1, relTs.trans k hg e1.2.2 e2.2.2⟩
 | [], _ :: _, _, e, _ => e.elim
 | _ :: _, [], _, e, _ => e.elim
 | _, [], _ :: _, _, e => e.elim
 | _, _ :: _, [], _, e => e.elim
theorem relV.trans (k : HRel f h h') (hg : g.length = h'.length) {a b c : V} (e1 : relV f a b) (e2 : relV g b c) : relV (comp2 g f) a c := by
 cases a with
 | one l =>
  rcases e1 with e1 | ⟨l', rfl, e1⟩
  ·exact .inl e1
  rcases e2 with rfl | ⟨l'', rfl, e2⟩
  ·exact .inl (ren_junk e1)
  ·exact .inr ⟨l'', rfl, ren_comp2 k hg e1 e2⟩
 | agg ls =>
  obtain ⟨ls', rfl, e1⟩ := e1
  obtain ⟨ls'', rfl, e2⟩ := e2
  exact ⟨_, rfl, e1.trans k hg e2⟩
 | tup xs =>
  obtain ⟨ls', rfl, e1⟩ := e1
  obtain ⟨ls'', rfl, e2⟩ := e2
  exact ⟨_, rfl, e1.trans k hg e2⟩
theorem relVs.trans (k : HRel f h h') (hg : g.length = h'.length) : ∀ {a b c : List V}, relVs f a b → relVs g b c → relVs (comp2 g f) a c
 | [], [], [], _, _ => trivial
 | _ :: _, _ :: _, _ :: _, e1, e2 => ⟨e1.1.trans k hg e2.1, relVs.trans k hg e1.2 e2.2⟩
 | [], _ :: _, _, e, _ => e.elim
 | _ :: _, [], _, e, _ => e.elim
 | _, [], _ :: _, _, e => e.elim
 | _, _ :: _, [], _, e => e.elim
theorem Kn.trans (a : Kn σ τ) (b : Kn τ υ) : Kn σ υ := by
 obtain ⟨f, a⟩ := a
 obtain ⟨g, b⟩ := b
 have hg := b.heap.len
 have at2 : ∀ {i : Nat} {o'' : Nat}, (comp2 g f)[i]? = some o'' → ∃ o', f[i]? = some o' ∧ g[o']? = some o'' := fun {i o''} e => by
  simp only [comp2, List.getElem?_map, Option.map_eq_some_iff] at e
  obtain ⟨o', h1, h2⟩ := e
  refine ⟨o', h1, ?_⟩
  have : o' < g.length := by rw [hg]; exact a.heap.lt h1
  simp only [List.getD, List.getElem?_eq_getElem this, Option.getD_some] at h2
  rw [List.getElem?_eq_getElem this, h2]
 refine ⟨comp2 g f, ⟨?_, by simp [comp2, a.heap.len], fun i o ob e1 e2 => ?_⟩, a.tmps.trans a.heap hg b.tmps⟩
 ·refine List.pairwise_iff_getElem.2 fun i j hi hj hij e => ?_
  obtain ⟨o1, h1, h2⟩ := at2 (List.getElem?_eq_getElem hi)
  obtain ⟨o2, h3, h4⟩ := at2 (List.getElem?_eq_getElem hj)
  rw [e] at h2
  have := b.heap.inj h2 h4
  subst this
  exact absurd (a.heap.inj h1 h3) (by omega)
 ·obtain ⟨o', h1, h2⟩ := at2 e1
  obtain ⟨ob', h3, h4⟩ := a.heap.obs i o' ob h1 e2
  obtain ⟨ob'', h5, h6⟩ := b.heap.obs o' o ob' h2 h3
  refine ⟨ob'', h5, ?_⟩
  cases ob with
  | box cs =>
   obtain ⟨cs', rfl, h4⟩ := h4
   obtain ⟨cs'', rfl, h6⟩ := h6
   exact ⟨_, rfl, h4.trans a.heap hg h6⟩
  | dead => trivial
  | arr z es => rw [relOb_same h4 (by simp) (by simp)] at h6; exact h6
  | froz z es => rw [relOb_same h4 (by simp) (by simp)] at h6; exact h6
  | darr z es => rw [relOb_same h4 (by simp) (by simp)] at h6; exact h6
  | zarr z es => rw [relOb_same h4 (by simp) (by simp)] at h6; exact h6
  | fbox ps => rw [relOb_same h4 (by simp) (by simp)] at h6; exact h6
  | imap kvs => rw [relOb_same h4 (by simp) (by simp)] at h6; exact h6
  | tbox n => rw [relOb_same h4 (by simp) (by simp)] at h6; exact h6
  | res => rw [relOb_same h4 (by simp) (by simp)] at h6; exact h6
theorem Kn.of (f : List Nat) {t t' : List V} {h h' : List AObj} (nd : f.Nodup) (ho : relObs f h' f h) (ht : relVs f t t') : Kn ⟨t, h⟩ ⟨t', h'⟩ := ⟨f, Cln.of f nd ho ht⟩
end
inductive Fr where
 | sq (c : ACode)
 | bk (id : Nat)
def kz : List Fr → Bool
 | [] => true
 | .sq c :: ks => c.zOk && kz ks
 | .bk _ :: ks => kz ks
section
variable (call : Nat → List V → Option V)
def wp (Q : Ex → St → Prop) : List Fr → Option (Ex × St) → Prop
 | [], some (e, σ) => Q e σ
 | .sq c :: ks, some (.normal, σ) => wp Q ks (exec call loopL c σ)
 | .sq _ :: ks, some (e, σ) => wp Q ks (some (e, σ))
 | .bk id :: ks, some (.exit i, σ) => if i = id then wp Q ks (some (.normal, σ)) else wp Q ks (some (.exit i, σ))
 | .bk _ :: ks, some (e, σ) => wp Q ks (some (e, σ))
 | _, none => False
end
section
variable {call : Nat → List V → Option V} {Q : Ex → St → Prop} {ks : List Fr} {σ τ : St}
theorem wp_end {e : Ex} : wp call Q [] (some (e, σ)) = Q e σ := by simp only [wp]
theorem wp_sqN {c : ACode} : wp call Q (.sq c :: ks) (some (.normal, σ)) = wp call Q ks (exec call loopL c σ) := by simp only [wp]
theorem wp_sqR {c : ACode} : wp call Q (.sq c :: ks) (some (.ret, σ)) = wp call Q ks (some (.ret, σ)) := by simp only [wp]
theorem wp_sqE {c : ACode} {i : Nat} : wp call Q (.sq c :: ks) (some (.exit i, σ)) = wp call Q ks (some (.exit i, σ)) := by simp only [wp]
theorem wp_bkN {id : Nat} : wp call Q (.bk id :: ks) (some (.normal, σ)) = wp call Q ks (some (.normal, σ)) := by simp only [wp]
theorem wp_bkR {id : Nat} : wp call Q (.bk id :: ks) (some (.ret, σ)) = wp call Q ks (some (.ret, σ)) := by simp only [wp]
theorem wp_bkE {id i : Nat} : wp call Q (.bk id :: ks) (some (.exit i, σ)) = if i = id then wp call Q ks (some (.normal, σ)) else wp call Q ks (some (.exit i, σ)) := by simp only [wp]
theorem wp_none : wp call Q ks none = False := by
 cases ks with
 | nil => simp only [wp]
 | cons k ks => cases k <;> simp only [wp]
theorem wp_seq {a b : ACode} : wp call Q ks (exec call loopL (.seq a b) σ) = wp call Q (.sq b :: ks) (exec call loopL a σ) := by
 simp only [exec]
 cases exec call loopL a σ with
 | none => simp only [wp_none]
 | some x =>
  obtain ⟨e, σ'⟩ := x
  cases e <;> simp only [wp_sqN, wp_sqR, wp_sqE]
theorem wp_block {id : Nat} {c : ACode} : wp call Q ks (exec call loopL (.block id c) σ) = wp call Q (.bk id :: ks) (exec call loopL c σ) := by
 simp only [exec]
 cases exec call loopL c σ with
 | none => simp only [wp_none]
 | some x =>
  obtain ⟨e, σ'⟩ := x
  cases e with
  | exit i =>
   simp only [wp_bkE]
   split <;> rfl
  | _ => simp only [wp_bkN, wp_bkR]
theorem wp_region {ops : List AOper} : wp call Q ks (exec call loopL (.region ops) σ) = wp call Q ks (match execOps call ops σ with
 | some σ' => some (.normal, σ')
 | none => none) := by simp only [exec]; rfl
theorem wp_cond {c : Opd} {a b : ACode} : wp call Q ks (exec call loopL (.cond c a b) σ) = wp call Q ks (match isBool (c.ev σ) with
 | some t => if t then exec call loopL a σ else exec call loopL b σ
 | none => none) := by simp only [exec]; rfl
theorem wp_skip : wp call Q ks (exec call loopL .skip σ) = wp call Q ks (some (.normal, σ)) := by simp only [exec]
theorem wp_exit {id : Nat} : wp call Q ks (exec call loopL (.exit id) σ) = wp call Q ks (some (.exit id, σ)) := by simp only [exec]
theorem wp_ret : wp call Q ks (exec call loopL .ret σ) = wp call Q ks (some (.ret, σ)) := by simp only [exec]
def Cl (Q : Ex → St → Prop) : Prop := ∀ e σ τ, Kn σ τ → Q e σ → Q e τ
theorem wp_kn (hc : Tidy call) (hQ : Cl Q) : ∀ {ks : List Fr}, kz ks = true → ∀ {e : Ex} {σ τ : St}, Kn σ τ → wp call Q ks (some (e, σ)) → wp call Q ks (some (e, τ)) := by
 intro ks
 induction ks with
 | nil => intro _ e σ τ k h; simp only [wp_end] at h ⊢; exact hQ e σ τ k h
 | cons fr ks ih =>
  intro hz e σ τ k h
  cases fr with
  | sq c =>
   simp only [kz, Bool.and_eq_true] at hz
   cases e with
   | normal =>
    simp only [wp_sqN] at h ⊢
    cases hx : exec call loopL c σ with
    | none => rw [hx, wp_none] at h; exact h.elim
    | some x =>
     obtain ⟨e, σ'⟩ := x
     obtain ⟨τ', h1, k1⟩ := exec_kn hc hz.1 k hx
     rw [hx] at h
     rw [h1]
     exact ih hz.2 k1 h
   | exit i => simp only [wp_sqE] at h ⊢; exact ih hz.2 k h
   | ret => simp only [wp_sqR] at h ⊢; exact ih hz.2 k h
  | bk id =>
   simp only [kz] at hz
   cases e with
   | normal => simp only [wp_bkN] at h ⊢; exact ih hz k h
   | ret => simp only [wp_bkR] at h ⊢; exact ih hz k h
   | exit i =>
    simp only [wp_bkE] at h ⊢
    split at h
    ·rename_i hi; rw [if_pos hi]; exact ih hz k h
    ·rename_i hi; rw [if_neg hi]; exact ih hz k h
theorem wp_cut (hc : Tidy call) (hQ : Cl Q) {c : ACode} (σ0 : St) (hz : kz (.sq c :: ks) = true) (k : Kn σ0 σ) (h : wp call Q ks (exec call loopL c σ0)) : wp call Q ks (exec call loopL c σ) := by
 have := wp_kn (e := .normal) hc hQ hz k (by rw [wp_sqN]; exact h)
 rwa [wp_sqN] at this
variable (call) in
def Ends (c : ACode) (σ : St) (e : Ex) (σe : St) : Prop := ∃ τ, loopL (exec call loopL c) σ = some (e, τ) ∧ Kn σe τ
variable (call) in
def Steps (c : ACode) (σ σ' : St) : Prop := ∃ τ, exec call loopL c σ = some (.normal, τ) ∧ Kn σ' τ
theorem loop_kn (hc : Tidy call) {c : ACode} (hz : c.zOk = true) {e : Ex} {σ' : St} (k : Kn σ τ) (h : loopL (exec call loopL c) σ = some (e, σ')) : ∃ τ', loopL (exec call loopL c) τ = some (e, τ') ∧ Kn σ' τ' := by
 have := exec_kn (c := .loop c) hc hz k (by simp only [exec]; exact h)
 simpa only [exec] using this
theorem wp_loop (hc : Tidy call) (hQ : Cl Q) {c : ACode} {σ0 σe : St} {e : Ex} (hz : (c.zOk && kz ks) = true) (E : Ends call c σ0 e σe) (k : Kn σ0 σ) (h : wp call Q ks (some (e, σe))) : wp call Q ks (exec call loopL (.loop c) σ) := by
 simp only [Bool.and_eq_true] at hz
 obtain ⟨τ, h1, k1⟩ := E
 obtain ⟨τ', h2, k2⟩ := loop_kn hc hz.1 k h1
 simp only [exec, h2]
 exact wp_kn hc hQ hz.2 (k1.trans k2) h
theorem Ends.step (hc : Tidy call) {c : ACode} (hz : c.zOk = true) {σ' σe : St} {e : Ex} (s : Steps call c σ σ') (E : Ends call c σ' e σe) : Ends call c σ e σe := by
 obtain ⟨τ, h1, k1⟩ := s
 obtain ⟨τ2, h2, k2⟩ := E
 obtain ⟨τ3, h3, k3⟩ := loop_kn hc hz k1 h2
 exact ⟨τ3, by rw [loopL_next h1]; exact h3, k2.trans k3⟩
theorem wp_get {e : Ex} {σe : St} {x : Option (Ex × St)} (h : wp call (fun e' τ => e' = e ∧ Kn σe τ) [] x) : ∃ τ, x = some (e, τ) ∧ Kn σe τ := by
 cases x with
 | none => rw [wp_none] at h; exact h.elim
 | some x =>
  obtain ⟨e', τ⟩ := x
  rw [wp_end] at h
  obtain ⟨rfl, h⟩ := h
  exact ⟨τ, rfl, h⟩
theorem Steps.of {c : ACode} {σ' : St} (h : wp call (fun e' τ => e' = .normal ∧ Kn σ' τ) [] (exec call loopL c σ)) : Steps call c σ σ' := wp_get h
theorem Ends.stop {c : ACode} {e : Ex} {σe : St} (he : e ≠ .normal) (h : wp call (fun e' τ => e' = e ∧ Kn σe τ) [] (exec call loopL c σ)) : Ends call c σ e σe := by
 obtain ⟨τ, h1, k1⟩ := wp_get h
 exact ⟨τ, loopL_end h1 he, k1⟩
theorem Cl.kn {e : Ex} {σe : St} : Cl (fun e' τ => e' = e ∧ Kn σe τ) := fun _ _ _ k h => ⟨h.1, h.2.trans k⟩
theorem ends_count (hc : Tidy call) {c : ACode} (hz : c.zOk = true) {S : Nat → St} {n : Nat} {e : Ex} {σe : St} (st : ∀ k, k < n → Steps call c (S k) (S (k + 1))) (E : Ends call c (S n) e σe) : Ends call c (S 0) e σe := by
 have key : ∀ m k, k + m = n → Ends call c (S k) e σe := by
  intro m
  induction m with
  | zero => intro k hk; have : k = n := by omega
            subst this; exact E
  | succ m ih => intro k hk; exact (st k (by omega)) |>.elim fun τ h => Ends.step hc hz ⟨τ, h⟩ (ih (k + 1) (by omega))
 exact key n 0 (by omega)
theorem ends_scan (hc : Tidy call) {c : ACode} (hz : c.zOk = true) {S R : Nat → St} {n : Nat} {e er : Ex} {σe : St} (p : Nat → Bool) (st : ∀ k, k < n → p k = false → Steps call c (S k) (S (k + 1))) (le : ∀ k, k < n → p k = true → Ends call c (S k) er (R k)) (E : Ends call c (S n) e σe) :
 ((∀ k, k < n → p k = false) ∧ Ends call c (S 0) e σe) ∨ ∃ k, k < n ∧ p k = true ∧ (∀ j, j < k → p j = false) ∧ Ends call c (S 0) er (R k) := by
 have key : ∀ m k, k + m = n → ((∀ j, k ≤ j → j < n → p j = false) ∧ Ends call c (S k) e σe) ∨ ∃ j, k ≤ j ∧ j < n ∧ p j = true ∧ (∀ i, k ≤ i → i < j → p i = false) ∧ Ends call c (S k) er (R j) := by
  intro m
  induction m with
  | zero =>
   intro k hk
   have : k = n := by omega
   subst this
   exact .inl ⟨fun j h1 h2 => by omega, E⟩
  | succ m ih =>
   intro k hk
   cases hp : p k with
   | true => exact .inr ⟨k, Nat.le_refl _, by omega, hp, fun i h1 h2 => by omega, le k (by omega) hp⟩
   | false =>
    have s := st k (by omega) hp
    rcases ih (k + 1) (by omega) with ⟨h1, h2⟩ | ⟨j, h1, h2, h3, h4, h5⟩
    ·refine .inl ⟨fun j h3 h4 => ?_, Ends.step hc hz s h2⟩
     by_cases q : j = k
     ·subst q; exact hp
     ·exact h1 j (by omega) h4
    ·refine .inr ⟨j, by omega, h2, h3, fun i h6 h7 => ?_, Ends.step hc hz s h5⟩
     by_cases q : i = k
     ·subst q; exact hp
     ·exact h4 i (by omega) h7
 rcases key n 0 (by omega) with ⟨h1, h2⟩ | ⟨j, h1, h2, h3, h4, h5⟩
 ·exact .inl ⟨fun k hk => h1 k (by omega) hk, h2⟩
 ·exact .inr ⟨j, h2, h3, fun i hi => h4 i (by omega) hi, h5⟩
theorem ends_any (hc : Tidy call) {c : ACode} (hz : c.zOk = true) {α : Type} {rows : List α} {p : α → Bool} {S : Nat → St} {R σe : St} {e er : Ex} (st : ∀ k (hk : k < rows.length), p rows[k] = false → Steps call c (S k) (S (k + 1))) (le : ∀ k (hk : k < rows.length), p rows[k] = true → Ends call c (S k) er R) (E : Ends call c (S rows.length) e σe) :
 Ends call c (S 0) (cond (rows.any p) er e) (cond (rows.any p) R σe) := by
 have at' : ∀ k (hk : k < rows.length), (match rows[k]? with | some r => p r | none => false) = p rows[k] := fun k hk => by simp [hk]
 rcases ends_scan hc hz (R := fun _ => R) (fun k => match rows[k]? with | some r => p r | none => false) (fun k hk h => st k hk (by rw [← at' k hk]; exact h)) (fun k hk h => le k hk (by rw [← at' k hk]; exact h)) E with ⟨h1, h2⟩ | ⟨k, h1, h2, _, h3⟩
 ·have : rows.any p = false := by
   rw [List.any_eq_false]
   intro x hx
   obtain ⟨k, hk, rfl⟩ := List.mem_iff_getElem.1 hx
   have := h1 k hk
   rw [at' k hk] at this
   simp [this]
  rw [this]; exact h2
 ·have : rows.any p = true := by
   rw [List.any_eq_true]
   exact ⟨rows[k], List.getElem_mem h1, by rw [← at' k h1]; exact h2⟩
  rw [this]; exact h3
end
section
variable {Φ : Nat → Option AFn} {ext : Nat → List V → Option V}
def Fin (rs : List ARes) (r : V) (e : Ex) (σ : St) : Prop := (e = .normal ∨ e = .ret) ∧ finish σ rs = some r
theorem Cl.fin {fn : List ARes} {r : V} : Cl (Fin fn r) := fun _ _ _ k h => ⟨h.1, finish_kn k h.2⟩
theorem Fin_ret {fn : List ARes} {r : V} {σ : St} : Fin fn r .ret σ = (finish σ fn = some r) := by simp [Fin]
theorem Fin_normal {fn : List ARes} {r : V} {σ : St} : Fin fn r .normal σ = (finish σ fn = some r) := by simp [Fin]
theorem callL_wp {k : Nat} {fn : AFn} {xz : List V} {r : V} (hk : Φ k = some fn) (h : wp (callL Φ ext) (Fin fn.results r) [] (exec (callL Φ ext) loopL fn.body (start fn xz))) : callL Φ ext k xz = some r := by
 refine callL_fn hk ?_
 unfold execL
 cases hx : exec (callL Φ ext) loopL fn.body (start fn xz) with
 | none => rw [hx, wp_none] at h; exact h.elim
 | some x =>
  obtain ⟨e, σ⟩ := x
  rw [hx, wp_end] at h
  obtain ⟨h1 | h1, h2⟩ := h <;> subst h1 <;> exact h2
theorem finish_clean2 {σ : St} {rs : List ARes} {r : V} (e : finish σ rs = some r) : r.clean = true := by
 unfold finish at e
 split at e
 ·cases e
 ·rename_i vs h1
  split at e
  ·cases hcs : comps σ.h vs with
   | none => simp [hcs] at e
   | some xs =>
    have hc := (comps_thaw vs xs [] hcs).1
    rw [hcs] at e
    split at e
    ·rename_i ls h2
     cases h2; cases e
     simpa [V.clean] using hc
    ·rename_i l h2
     cases h2; cases e
     simpa [V.clean] using hc
    ·rename_i ys h2 h3 h4
     cases h4
     split at e
     ·cases e
     ·cases e
      simpa [V.clean] using hc
    ·cases e
  ·cases e
theorem outsOf_clean : ∀ {h : List AObj} {os : List (Bool × List L)}, outsOf h = some os → (os.all fun x => x.2.all L.clean) = true
 | [], os, e => by simp only [outsOf] at e; cases e; rfl
 | ob :: h, os, e => by
  cases ob with
  | zarr z es =>
   simp only [outsOf] at e
   split at e
   ·rename_i xs h1
    cases e
    simp [outsOf_clean h1, L.clean]
   ·cases e
  | _ => simp [outsOf] at e
theorem finM_clean {m : Nat} {fn : AFn} {σ : St} {r : V} (e : finM m fn σ = some r) : r.clean = true := by
 unfold finM at e
 split at e
 ·rename_i l os h1 h2
  split at e
  ·rename_i hl
   cases e
   have hc := finish_clean2 h1
   simp only [V.clean, List.all_cons, List.all_nil, Bool.and_true, Bool.and_eq_true] at hc ⊢
   exact ⟨hc, outsOf_clean h2⟩
  ·cases e
 ·cases e
theorem tidy_callL (he : Tidy ext) : Tidy (callL Φ ext) := by
 intro k xz r h
 obtain ⟨n, hn⟩ := callL_spec.1 h
 cases n with
 | zero => simp [run] at hn
 | succ n =>
  simp only [run] at hn
  split at hn
  ·split at hn
   ·split at hn
    ·split at hn
     ·unfold doneM at hn
      split at hn
      ·exact finM_clean hn
      ·exact finM_clean hn
      ·cases hn
     ·cases hn
    ·cases hn
   ·exact he k xz r hn
  ·unfold done at hn
   split at hn
   ·exact finish_clean2 hn
   ·exact finish_clean2 hn
   ·cases hn
end
end Gi
