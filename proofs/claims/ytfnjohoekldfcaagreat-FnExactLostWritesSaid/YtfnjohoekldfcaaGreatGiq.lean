/- Regions, code, functions: what the pure machine gives is what the Go function returns. -/
import Derived.Test.YtfnjohoekldfcaaGreatGip
import Derived.Deep.LoopGhost
namespace Gi
open Go Go.RowKit
set_option linter.unusedVariables false
set_option linter.unusedSimpArgs false
variable {KI : KF}

section
variable {Γ : Ctx} {P : Program} {M0 : Nat → Prop} {base : Nat} {σ : St} {a : Act} {w : World} {ρ : List (Option Nat)} {call : Nat → List V → Option V}

theorem ops_sound (ok : CallOK Γ P kf call) {ops : Array Oper} {d : Md} {Q : Exit → Act → World → Prop} : ∀ {l : List Oper} {oos : List AOper} {σ σ' : St} {a : Act} {w : World} {ρ : List (Option Nat)}, SR Γ M0 base σ a w ρ →
    optM (cOper P kf d ops) l = some oos → execOps call oos σ = some σ' → (∀ a' w' ρ', SR Γ M0 base σ' a' w' ρ' → Below base w w' → Q .normal a' w') → wpList P ops Q l a w
  | [], oos, σ, σ', a, w, ρ, s, hc, he, hQ => by
    simp [optM] at hc; subst hc
    simp [execOps] at he; subst he
    exact wpList_nil (hQ a w ρ s (Below.refl _ _))
  | o :: l, oos, σ, σ', a, w, ρ, s, hc, he, hQ => by
    unfold optM at hc
    split at hc
    · rename_i oo oos' h1 h2
      cases hc
      unfold execOps at he
      split at he
      · rename_i σ1 he1
        exact wpList_step fun K hK => stepO_sound ok s h1 he1 fun a' w' ρ' s' hb => hK _ _ (ops_sound ok s' h2 he fun a2 w2 ρ2 s2 hb2 => hQ a2 w2 ρ2 s2 (hb.trans hb2))
      · cases he
    · cases hc

/-! ### Any order -/
theorem Opd.ev_set {x : Opd} {t : List V} {h h' : List AObj} {d : Nat} {v : V} (hd : d ∉ x.tmps) : x.ev ⟨t.set d v, h⟩ = x.ev ⟨t, h'⟩ := by
  cases x with
  | tmp n =>
    simp only [Opd.tmps, List.mem_singleton] at hd
    simp only [Opd.ev, List.getD]
    rw [List.getElem?_set_ne hd]
  | _ => rfl

theorem fop_congr {σ σ' : St} (hh : σ.h = σ'.h) {ao : AOp} (hx : ∀ x ∈ ao.opds, x.ev σ = x.ev σ') : fop call σ ao = fop call σ' ao := by
  cases ao with
  | build zero parts =>
    have : (parts.map fun x => (x.1, x.2.1, x.2.2.ev σ)) = (parts.map fun x => (x.1, x.2.1, x.2.2.ev σ')) := by
      apply List.map_congr_left
      intro x hxm
      rw [hx x.2.2 (by simp only [AOp.opds]; exact List.mem_map.2 ⟨x, hxm, rfl⟩)]
    simp only [fop, this]
  | call f as fl fz =>
    have : as.map (Opd.ev σ) = as.map (Opd.ev σ') := List.map_congr_left (fun x hxm => hx x hxm)
    simp only [fop, this, hh]
  | callV x as =>
    have h1 := hx x (by simp [AOp.opds])
    have : as.map (Opd.ev σ) = as.map (Opd.ev σ') := List.map_congr_left (fun y hy => hx y (by simp [AOp.opds, hy]))
    simp only [fop, this, hh, h1]
  | slcL z x lo hi => rfl
  | mkfn k cs => rfl
  | callD k cs => rfl
  | slcS x lo hi =>
    have h1 := hx x (by simp [AOp.opds])
    have h2 : ∀ d, bound σ d lo = bound σ' d lo := by
      intro d
      cases lo with
      | none => rfl
      | some o => simp only [bound, hx o (by simp [AOp.opds])]
    have h3 : ∀ d, bound σ d hi = bound σ' d hi := by
      intro d
      cases hi with
      | none => rfl
      | some o => simp only [bound, hx o (by simp [AOp.opds])]
    simp only [fop, h1, h2, h3]
  | _ => simp_all [fop, AOp.opds]

/-- what an operation that leaves the variables alone yields -/
def fstep (call : Nat → List V → Option V) (oo : AOper) (σ : St) : Option V :=
  match wants σ oo.guard with
  | some true => fop call σ oo.op
  | some false => some (.tup [])
  | none => none

theorem eop_isF {ao : AOp} (h : ao.isF = true) : eop call σ ao = none := by
  cases ao with
  | call f as fl fz => cases fl <;> cases fz <;> first | rfl | simp [AOp.isF] at h
  | _ => first | rfl | simp [AOp.isF] at h

theorem stepO_isF {oo : AOper} (h : oo.op.isF = true) (σ : St) : stepO call oo σ = (fstep call oo σ).map fun v => ⟨put σ.t oo.dst v, σ.h⟩ := by
  unfold stepO fstep
  cases hw : wants σ oo.guard with
  | none => rfl
  | some b =>
    cases b with
    | false => rfl
    | true =>
      simp only
      cases hf : fop call σ oo.op with
      | some v => rfl
      | none => simp only [eop_isF h]; rfl

theorem fstep_put {x y : AOper} (hap : apartA x y = true) {σ : St} {v : V} : fstep call y ⟨put σ.t x.dst v, σ.h⟩ = fstep call y σ := by
  cases hd : x.dst with
  | none => rfl
  | some d =>
    have hno : d ∉ y.reads := by
      simp only [apartA, hd, Bool.and_eq_true, Bool.not_eq_true'] at hap
      have := hap.1.1
      simpa using this
    have hop : ∀ z ∈ y.op.opds, z.ev (⟨put σ.t (some d) v, σ.h⟩ : St) = z.ev σ := fun z hz => Opd.ev_set (h' := σ.h) (fun hm => hno (List.mem_append_left _ (List.mem_flatMap.2 ⟨z, hz, hm⟩)))
    have hw : wants (⟨put σ.t (some d) v, σ.h⟩ : St) y.guard = wants σ y.guard := by
      cases hg : y.guard with
      | none => rfl
      | some gw =>
        obtain ⟨g, b⟩ := gw
        have hne : d ≠ g := fun e => hno (List.mem_append_right _ (by simp [hg, e]))
        simp only [wants, put, List.getD]
        rw [List.getElem?_set_ne hne]
    unfold fstep
    rw [hw, fop_congr (σ := ⟨put σ.t (some d) v, σ.h⟩) (σ' := σ) rfl hop]

theorem put_comm {x y : AOper} (hap : apartA x y = true) (t : List V) (v u : V) : put (put t x.dst v) y.dst u = put (put t y.dst u) x.dst v := by
  cases hd : x.dst with
  | none => rfl
  | some d =>
    cases he : y.dst with
    | none => rfl
    | some e =>
      have hne : d ≠ e := by
        simp only [apartA, hd, he, Bool.and_eq_true, bne_iff_ne, ne_eq] at hap
        intro e'
        exact hap.1.2 (by rw [e'])
      simp only [put]
      exact List.set_comm v u hne

theorem apartA_symm {x y : AOper} (h : apartA x y = true) : apartA y x = true := by
  unfold apartA at *
  cases hx : x.dst <;> cases hy : y.dst <;> simp_all
  exact fun e => h.1.2 e.symm

/-- the run of one operation by its number -/
def stepN (call : Nat → List V → Option V) (oos : List AOper) (i : Nat) (σ : St) : Option St :=
  match oos[i]? with
  | none => some σ
  | some oo => stepO call oo σ
def runN' (call : Nat → List V → Option V) (oos : List AOper) : List Nat → St → Option St
  | [], σ => some σ
  | i :: l, σ => match stepN call oos i σ with
    | some σ' => runN' call oos l σ'
    | none => none

/-- whatever order is picked from here on ends in σ₁ -/
def aAny (call : Nat → List V → Option V) (ops : Array Oper) (oos : List AOper) (σ₁ : St) : Nat → Array Bool → St → Prop
  | 0, listed, σ => Region.ready .any ops listed = [] ∧ σ = σ₁
  | fuel + 1, listed, σ => (Region.ready .any ops listed = [] → σ = σ₁) ∧ ∀ i ∈ Region.ready .any ops listed, ∃ σ', stepN call oos i σ = some σ' ∧ aAny call ops oos σ₁ fuel (listed.setIfInBounds i true) σ'

theorem aAny_sound {ops : Array Oper} {oos : List AOper} {σ₁ : St} : ∀ (fuel t : Nat) (listed : Array Bool) (σ : St), aAny call ops oos σ₁ fuel listed σ → runN' call oos (Region.linearise.go .any ops fuel t listed []) σ = some σ₁ := by
  intro fuel
  induction fuel with
  | zero => intro t listed σ h; simpa [Region.linearise.go, runN'] using h.2
  | succ fuel ih =>
    intro t listed σ h
    obtain ⟨h₀, h₁⟩ := h
    simp only [Region.linearise.go]
    change runN' call oos (match (Region.ready .any ops listed)[t % (Region.ready .any ops listed).length]? with
      | some i => Region.linearise.go .any ops fuel (t / (Region.ready .any ops listed).length) (listed.setIfInBounds i true) [i]
      | none => [].reverse) σ = some σ₁
    cases hi : (Region.ready .any ops listed)[t % (Region.ready .any ops listed).length]? with
    | none =>
      have hnil : Region.ready .any ops listed = [] := by
        cases hr : Region.ready .any ops listed with
        | nil => rfl
        | cons x xs =>
          rw [hr] at hi
          have hlt : t % (x :: xs).length < (x :: xs).length := Nat.mod_lt _ (by simp)
          simp at hi
          simp at hlt
          omega
      simp [runN', h₀ hnil]
    | some i =>
      simp only []
      rw [linearise_go_acc, List.reverse_singleton, List.singleton_append]
      obtain ⟨σ', e1, e2⟩ := h₁ i (List.mem_of_getElem? hi)
      simp only [runN', e1]
      exact ih _ _ _ e2

theorem aAny_first {ops : Array Oper} {oos : List AOper} {σ₁ : St} (hlen : oos.length = ops.size) (hF : ∀ oo ∈ oos, oo.op.isF = true) {i : Nat} {oi : AOper} {v : V} (hi : oos[i]? = some oi) :
    ∀ (fuel : Nat) (listed : Array Bool) (σ : St), (∀ j oj, oos[j]? = some oj → j ≠ i → listed.getD j true = false → waitsA ops j i = false → apartA oi oj = true) →
      i ∈ Region.ready .any ops listed → fstep call oi σ = some v → aAny call ops oos σ₁ fuel (listed.setIfInBounds i true) ⟨put σ.t oi.dst v, σ.h⟩ → aAny call ops oos σ₁ (fuel + 1) listed σ := by
  have stepi : ∀ {σ : St}, fstep call oi σ = some v → stepN call oos i σ = some ⟨put σ.t oi.dst v, σ.h⟩ := fun {σ} h => by
    simp only [stepN, hi, stepO_isF (hF oi (List.mem_of_getElem? hi)), h, Option.map_some]
  intro fuel
  induction fuel with
  | zero =>
    intro listed σ _ hr hy H
    refine ⟨fun h => (by rw [h] at hr; cases hr), fun j hj => ?_⟩
    by_cases hji : j = i
    · subst hji; exact ⟨_, stepi hy, H⟩
    · have := ready_mono (md := .any) hj hji
      rw [H.1] at this
      cases this
  | succ fuel ih =>
    intro listed σ hfree hr hy H
    refine ⟨fun h => (by rw [h] at hr; cases hr), fun j hj => ?_⟩
    by_cases hji : j = i
    · subst hji; exact ⟨_, stepi hy, H⟩
    · obtain ⟨σj, e1, e2⟩ := H.2 j (ready_mono hj hji)
      obtain ⟨hjun, o, ho, hall⟩ := mem_ready.1 hj
      have hjl : j < oos.length := by rw [hlen]; exact (Array.getElem?_eq_some_iff.1 ho).1
      have hoj : oos[j]? = some oos[j] := by simp [hjl]
      have hnot : waitsA ops j i = false := by
        cases hq : waitsA ops j i with
        | false => rfl
        | true =>
          simp only [waitsA, ho, Array.any_eq_true] at hq
          obtain ⟨x, hx, hq⟩ := hq
          simp only [Bool.and_eq_true, beq_iff_eq] at hq
          have h1 := hall _ (Array.getElem_mem hx) hq.1
          rw [hq.2] at h1
          have h0 := (mem_ready.1 hr).1
          rcases Nat.lt_or_ge i listed.size with h' | h'
          · simp [h'] at h0 h1; rw [h0] at h1; cases h1
          · simp [Array.getElem?_eq_none h'] at h1
      have hap := hfree j _ hoj hji hjun hnot
      have hFj := hF _ (List.getElem_mem hjl)
      simp only [stepN, hoj, stepO_isF hFj, fstep_put hap, Option.map_eq_some_iff] at e1
      obtain ⟨u, hu, rfl⟩ := e1
      refine ⟨⟨put σ.t (oos[j]).dst u, σ.h⟩, by simp only [stepN, hoj, stepO_isF hFj, hu, Option.map_some], ?_⟩
      refine ih (listed.setIfInBounds j true) _ (fun k ok hk hki hun hno => ?_) (ready_mono hr (Ne.symm hji)) (by rw [fstep_put (apartA_symm hap)]; exact hy) ?_
      · refine hfree k ok hk hki ?_ hno
        by_cases hjk : j = k
        · subst hjk; exact hjun
        · rw [getD_set_ne true hjk] at hun; exact hun
      · rw [Array.setIfInBounds_comm _ _ hji]
        simp only at e2 ⊢
        rw [← put_comm hap]
        exact e2

theorem free_spec {ops : Array Oper} {oos : List AOper} {listed : Array Bool} {k : Nat} {ok : AOper} (hk : oos[k]? = some ok) (h : freeA ops oos listed k = true) :
    ∀ j oj, oos[j]? = some oj → j ≠ k → listed.getD j true = false → waitsA ops j k = false → apartA ok oj = true := by
  intro j oj hj hne hun hw
  have hjl : j < oos.length := (List.getElem?_eq_some_iff.1 hj).1
  simp only [freeA, List.all_eq_true, List.mem_range] at h
  have := h j hjl
  simp only [hk, hj, hun, hw, Bool.or_false, Bool.or_eq_true, beq_iff_eq, hne, false_or] at this
  exact this

theorem aAny_lex {ops : Array Oper} {oos : List AOper} {σ₁ : St} (hlen : oos.length = ops.size) (hF : ∀ oo ∈ oos, oo.op.isF = true) : ∀ (l : List AOper) (k : Nat) (listed : Array Bool) (σ : St), (∀ j, l[j]? = oos[k + j]?) →
    lexFromA ops oos l.length k listed = true → execOps call l σ = some σ₁ → aAny call ops oos σ₁ l.length listed σ
  | [], _, _, _, _, hB, h => ⟨by simpa [lexFromA] using hB, by simpa [execOps] using h⟩
  | o :: l, k, listed, σ, hl, hB, h => by
    have h0 : oos[k]? = some o := by simpa using (hl 0).symm
    simp only [List.length_cons, lexFromA, Bool.and_eq_true] at hB
    obtain ⟨⟨hr, hf⟩, hB'⟩ := hB
    unfold execOps at h
    split at h
    · rename_i σ' he
      rw [stepO_isF (hF o (List.mem_of_getElem? h0)), Option.map_eq_some_iff] at he
      obtain ⟨v, hv, rfl⟩ := he
      exact aAny_first hlen hF h0 l.length listed σ (free_spec h0 hf) (by simpa using hr) hv
        (aAny_lex hlen hF l (k + 1) _ _ (fun j => by have := hl (j + 1); simpa [Nat.add_assoc, Nat.add_comm 1 j] using this) hB' h)
    · cases h

theorem wpOps_sound (ok : CallOK Γ P kf call) {ops : Array Oper} {d : Md} {oos : List AOper} (hc : optM (cOper P kf d ops) ops.toList = some oos) {Q : Exit → Act → World → Prop} : ∀ {l : List Nat} {σ σ' : St} {a : Act} {w : World} {ρ : List (Option Nat)}, SR Γ M0 base σ a w ρ →
    runN' call oos l σ = some σ' → (∀ a' w' ρ', SR Γ M0 base σ' a' w' ρ' → Below base w w' → Q .normal a' w') → wpOps P ops Q l a w
  | [], σ, σ', a, w, ρ, s, he, hQ => by
    simp [runN'] at he; subst he
    exact hQ a w ρ s (Below.refl _ _)
  | i :: l, σ, σ', a, w, ρ, s, he, hQ => by
    simp only [runN'] at he
    split at he
    · rename_i σ1 he1
      rw [wpOps_cons]
      unfold wpOp
      cases ho : ops[i]? with
      | none =>
        have : oos[i]? = none := by
          have hl := optM_len hc
          have : ¬ i < ops.size := by intro hlt; simp [hlt] at ho
          exact List.getElem?_eq_none (by rw [hl]; simp; omega)
        simp only [stepN, this] at he1
        cases he1
        exact wpOps_sound ok hc s he hQ
      | some o =>
        obtain ⟨oo, hoo, hco⟩ := optM_at hc i o (by simpa using ho)
        simp only [stepN, hoo] at he1
        have key := stepO_sound (Q := Q) ok s hco he1 (K := wpOps P ops Q l) (fun a' w' ρ' s' hb => wpOps_sound ok hc s' he fun a2 w2 ρ2 s2 hb2 => hQ a2 w2 ρ2 s2 (hb.trans hb2))
        simp only
        split
        · rename_i hw; rw [if_pos hw] at key; exact .inl key
        · rename_i hw; rw [if_neg hw] at key; exact key
    · cases he

theorem drawn_SR (s : SR Γ M0 base σ a w ρ) : SR Γ M0 base σ a { w with drawn := w.drawn + 1 } ρ := by
  obtain ⟨k1, c1⟩ := s.hr.world (w' := { w with drawn := w.drawn + 1 }) (Nat.le_refl _) (fun _ _ => rfl)
  exact ⟨k1, s.fr.ch c1, Γ.keep _ _ s.inv ⟨rfl, rfl, rfl, Nat.le_refl _, fun _ _ => rfl⟩, s.b0⟩

/-! ### Code -/
/-- What the end of a piece of code must give. -/
def QE [KF] (Γ : Ctx) (M0 : Nat → Prop) (base : Nat) (w0 : World) (e : Ex) (σ' : St) (Q : Exit → Act → World → Prop) : Prop :=
  ∀ a' w' ρ', SR Γ M0 base σ' a' w' ρ' → Below base w0 w' → Q (match e with | .normal => .normal | .exit id => .exit id | .ret => .ret) a' w'

theorem code_sound (ok : CallOK Γ P kf call) (hm : P.follows .mixedOrders = true) (n : Nat) {dt : Bool} : ∀ (c : Code) {ac : ACode} {σ σ' : St} {e : Ex} {a : Act} {w : World} {ρ : List (Option Nat)} {Q : Exit → Act → World → Prop}, cCode P kf dt c = some ac →
    exec call (loopN n) ac σ = some (e, σ') → SR Γ M0 base σ a w ρ → QE Γ M0 base w e σ' Q → c.wp P Q a w := by
  intro c
  induction c with
  | skip =>
    intro ac σ σ' e a w ρ Q hc he s hQ
    cases hc
    simp only [exec] at he; cases he
    exact wp_skip (hQ a w ρ s (Below.refl _ _))
  | region id ops draw =>
    intro ac σ σ' e a w ρ Q hc he s hQ
    simp only [cCode] at hc
    split at hc
    · rename_i oos hoos
      have hrun : ∀ {σ2}, exec call (loopN n) (.region oos) σ = some (e, σ2) → execOps call oos σ = some σ2 ∧ e = .normal := by
        intro σ2 h
        simp only [exec] at h
        split at h
        · rename_i σ3 h3; cases h; exact ⟨h3, rfl⟩
        · cases h
      split at hc
      · rename_i hd
        subst hd
        split at hc
        · rename_i hchk
          cases hc
          obtain ⟨hx, rfl⟩ := hrun he
          simp only [Bool.and_eq_true, List.all_eq_true] at hchk
          have hlen : oos.length = ops.size := by rw [optM_len hoos]; simp
          refine wp_region_draw fun t => ?_
          simp only [Region.schedule, hm, Bool.true_or, if_true]
          have hany := aAny_lex hlen hchk.2 oos 0 (Array.replicate ops.size false) σ (by simp) (by rw [hlen]; exact hchk.1) hx
          rw [hlen] at hany
          have hr := aAny_sound ops.size t _ σ hany
          exact wpOps_sound ok hoos (drawn_SR s) hr (fun a' w' ρ' s' hb => hQ a' w' ρ' s' ⟨hb.os, hb.tape, hb.output, hb.size, hb.block⟩)
        · cases hc
      · rename_i hd
        cases hc
        obtain ⟨hx, rfl⟩ := hrun he
        have : draw = false := by simpa using hd
        subst this
        exact wp_region_list (ops_sound ok s hoos hx hQ)
    · cases hc
  | seq x y ihx ihy =>
    intro ac σ σ' e a w ρ Q hc he s hQ
    simp only [cCode] at hc
    split at hc
    · rename_i ax ay hx hy
      cases hc
      simp only [exec] at he
      refine wp_seq ?_
      split at he
      · rename_i σ1 he1
        exact ihx hx he1 s (fun a' w' ρ' s' hb => ihy hy he s' (fun a2 w2 ρ2 s2 hb2 => hQ a2 w2 ρ2 s2 (hb.trans hb2)))
      · rename_i hne
        refine ihx hx he s (fun a' w' ρ' s' hb => ?_)
        cases e with
        | normal => exact absurd he (hne σ')
        | exit id => exact hQ a' w' ρ' s' hb
        | ret => exact hQ a' w' ρ' s' hb
    · cases hc
  | cond c x y ihx ihy =>
    intro ac σ σ' e a w ρ Q hc he s hQ
    simp only [cCode] at hc
    split at hc
    · rename_i oc ax ay h1 hx hy
      cases hc
      simp only [exec] at he
      split at he
      · rename_i t ht
        have hb := (opd_sound s h1).bool ht
        refine wp_cond hb ?_
        cases t with
        | true => exact ihx hx he s hQ
        | false => exact ihy hy he s hQ
      · cases he
    · cases hc
  | block id c ih =>
    intro ac σ σ' e a w ρ Q hc he s hQ
    simp only [cCode, Option.map_eq_some_iff] at hc
    obtain ⟨ax, hx, rfl⟩ := hc
    simp only [exec] at he
    refine wp_block ?_
    split at he
    · rename_i i σ1 he1
      refine ih hx he1 s (fun a' w' ρ' s' hb => ?_)
      simp only [Exit.inBlock]
      split at he
      · rename_i e1; cases he; rw [if_pos e1]; exact hQ a' w' ρ' s' hb
      · rename_i e1; cases he; rw [if_neg e1]; exact hQ a' w' ρ' s' hb
    · rename_i hne
      refine ih hx he s (fun a' w' ρ' s' hb => ?_)
      cases e with
      | normal => exact hQ a' w' ρ' s' hb
      | exit i => exact absurd he (hne i σ')
      | ret => exact hQ a' w' ρ' s' hb
  | loop c ih =>
    intro ac σ σ' e a w ρ Q hc he s hQ
    simp only [cCode, Option.map_eq_some_iff] at hc
    obtain ⟨ax, hx, rfl⟩ := hc
    simp only [exec] at he
    refine wp_loop_ghost (fun k a1 w1 => ∃ σ1 ρ1, SR Γ M0 base σ1 a1 w1 ρ1 ∧ Below base w w1 ∧ loopN k (exec call (loopN n) ax) σ1 = some (e, σ')) n ⟨σ, ρ, s, Below.refl _ _, he⟩ ?_
    intro k a1 w1 ⟨σ1, ρ1, s1, hb1, he1⟩
    cases k with
    | zero => simp [loopN] at he1
    | succ k =>
      simp only [loopN] at he1
      split at he1
      · rename_i σ2 he2
        refine ih hx he2 s1 (fun a' w' ρ' s' hb => ?_)
        exact ⟨k, Nat.lt_succ_self k, σ2, ρ', s', hb1.trans hb, he1⟩
      · rename_i hne
        refine ih hx he1 s1 (fun a' w' ρ' s' hb => ?_)
        cases e with
        | normal => exact absurd he1 (hne σ')
        | exit id => exact hQ a' w' ρ' s' (hb1.trans hb)
        | ret => exact hQ a' w' ρ' s' (hb1.trans hb)
  | exit id =>
    intro ac σ σ' e a w ρ Q hc he s hQ
    cases hc
    simp only [exec] at he; cases he
    exact wp_exit (hQ a w ρ s (Below.refl _ _))
  | ret =>
    intro ac σ σ' e a w ρ Q hc he s hQ
    cases hc
    simp only [exec] at he; cases he
    exact wp_ret (hQ a w ρ s (Below.refl _ _))
  | _ =>
    intro ac σ σ' e a w ρ Q hc
    cases hc

/-- The program's functions are the table's; of those that stand beside it the contract is known. -/
structure Impl [KF] (Γ : Ctx) (P : Program) (kf : FuncId → Option Nat) (Φ : Nat → Option AFn) (ext : Nat → List V → Option V) : Prop where
  mixed : P.follows .mixedOrders = true
  fns : ∀ f k, kf f = some k → (∃ fn af, P.funcs[f]? = some fn ∧ cFn P kf fn = some af ∧ Φ k = some af) ∨
    (Φ k = none ∧ (∃ fn, P.funcs[f]? = some fn ∧ fn.body.isNone = false ∧ (fn.name == "runtime.NumGoroutine") = false) ∧ ∀ as r, ext k as = some r → Sound Γ P f as r)

theorem Impl.there {Φ : Nat → Option AFn} {ext : Nat → List V → Option V} (im : Impl Γ P kf Φ ext) : ∀ f k, kf f = some k → ∃ fn, P.funcs[f]? = some fn ∧ fn.body.isNone = false ∧ (fn.name == "runtime.NumGoroutine") = false := by
  intro f k hk
  rcases im.fns f k hk with ⟨fn, af, h1, h2, h3⟩ | ⟨_, h, _⟩
  · refine ⟨fn, h1, ?_, ?_⟩
    · unfold cFn at h2
      split at h2
      · rename_i c hb; rw [hb]; rfl
      · cases h2
    · unfold cFn at h2
      split at h2
      · split at h2
        · split at h2
          · cases h2
          · rename_i hn; simpa using hn
        · cases h2
      · cases h2
  · exact h

/-- **What the pure machine gives, the Go function returns.** -/
theorem run_sound {Φ : Nat → Option AFn} {ext : Nat → List V → Option V} (im : Impl Γ P kf Φ ext) : ∀ (n : Nat) (f k : Nat) (as : List V) (r : V), kf f = some k → run Φ ext n k as = some r → Sound Γ P f as r := by
  intro n
  induction n with
  | zero => intro f k as r _ h; simp [run] at h
  | succ n ih =>
    intro f k as r hk h
    rcases im.fns f k hk with ⟨fn, af, h1, h2, h3⟩ | ⟨h1, _, h2⟩
    case inr => simp only [run, h1] at h; exact h2 as r h
    simp only [run, h3] at h
    have ok : CallOK Γ P kf (run Φ ext n) := ⟨im.there, fun f k as r hk hr => ih f k as r hk hr⟩
    unfold cFn at h2
    split at h2
    · rename_i c hb
      split at h2
      · rename_i ac rs hc hrs
        split at h2
        · cases h2
        · cases h2
          have key : ∀ {e : Ex} {σ' : St}, exec (run Φ ext n) (loopN n) ac (start ⟨fn.ntmps, rs, ac⟩ as) = some (e, σ') → (e = .normal ∨ e = .ret) → finish σ' rs = some r → Sound Γ P f as r := by
            intro e σ' he hee hfin
            have clean : r.clean = true := by
              unfold finish at hfin
              split at hfin
              · cases hfin
              · split at hfin
                · rename_i xs _ _
                  have cl : ∀ {ys}, comps σ'.h xs = some ys → (ys.all fun x => x.2.all L.clean) = true := fun h => (comps_thaw xs _ [] h).1
                  split at hfin
                  · rename_i ls hys; cases hfin; simpa [V.clean] using cl hys
                  · rename_i l hys; cases hfin; simpa [V.clean] using cl hys
                  · rename_i ys _ _ hys
                    split at hfin
                    · cases hfin
                    · cases hfin; simpa [V.clean] using cl hys
                  · cases hfin
                · cases hfin
            refine ⟨clean, fun M0 w vals hG hM ha => calls_of_wp h1 hb ?_⟩
            refine code_sound ok im.mixed n c hc he (start_sound (fn := ⟨fn.ntmps, rs, ac⟩) hG hM ha) (fun a' w' ρ' s' hbl => ?_)
            obtain ⟨_, v, hv, hrr⟩ := finish_sound s' hrs hfin
            rcases hee with rfl | rfl
            · exact bodyPost_end hv s'.fr.defers ⟨v, rfl, hbl, hrr⟩
            · exact bodyPost_ret hv s'.fr.defers ⟨v, rfl, hbl, hrr⟩
          unfold done at h
          split at h
          · rename_i σ' he; exact key he (.inl rfl) h
          · rename_i σ' he; exact key he (.inr rfl) h
          · cases h
      · cases h2
    · cases h2

end
end Gi
