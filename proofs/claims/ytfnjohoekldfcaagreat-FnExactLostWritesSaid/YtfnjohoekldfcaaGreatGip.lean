/- One operation, a region's operations in the text's order, and in whatever order the tape picks. -/
import Derived.Test.YtfnjohoekldfcaaGreatGio
namespace Gi
open Go Go.RowKit
set_option linter.unusedVariables false
set_option linter.unusedSimpArgs false
variable {KI : KF}

section
variable {Γ : Ctx} {P : Program} {M0 : Nat → Prop} {base : Nat} {σ : St} {a : Act} {w : World} {ρ : List (Option Nat)} {call : Nat → List V → Option V}

/-- The functions that may be called are there, and do what 'call' says. -/
structure CallOK [KF] (Γ : Ctx) (P : Program) (kf : FuncId → Option Nat) (call : Nat → List V → Option V) : Prop where
  there : ∀ f k, kf f = some k → ∃ fn, P.funcs[f]? = some fn ∧ fn.body.isNone = false ∧ (fn.name == "runtime.NumGoroutine") = false
  sound : ∀ f k as r, kf f = some k → call k as = some r → Sound Γ P f as r

theorem wants_sound (s : SR Γ M0 base σ a w ρ) {ops : Array Oper} {o : Oper} {g : Option (Nat × Bool)} {b : Bool} (hg : cGuard ops o.guard = some g) (hw : wants σ g = some b) : Region.wanted o (yielded ops a.tmps) = b := by
  unfold Region.wanted
  cases hgd : o.guard with
  | none =>
    rw [hgd] at hg
    simp only [cGuard] at hg; cases hg
    simp only [wants] at hw; cases hw
    rfl
  | some jw =>
    obtain ⟨j, want⟩ := jw
    rw [hgd] at hg
    simp only [cGuard] at hg
    split at hg
    · rename_i oj hoj
      split at hg
      · rename_i t ht
        cases hg
        simp only [wants] at hw
        have hy : ∀ {x : Option Bool}, (match a.tmps[t]? with | some (.bool b) => some b | _ => none) = x → yielded ops a.tmps j = x := by
          intro x hx
          unfold yielded
          simp only [hoj, Option.bind_some, ht]
          exact hx
        have r := s.fr.eval t
        by_cases hlt : t < a.tmps.size
        · have hev : a.tmps[t]? = some (a.eval (.tmp t)) := by simp [Act.eval, hlt]
          split at hw
          · rename_i b' hb'
            cases hw
            rw [hb'] at r
            have e : a.eval (.tmp t) = .bool b' := by simpa [VR, LR, Reads] using r
            simp only [hy (show _ = some b' by rw [hev, e])]
            cases b' <;> cases want <;> rfl
          · rename_i hb'
            cases hw
            rw [hb'] at r
            obtain ⟨vs, e, hl, _⟩ := r
            simp only [hy (show _ = none by rw [hev, e])]
            rfl
          · cases hw
        · have hev : a.tmps[t]? = none := Array.getElem?_eq_none (Nat.le_of_not_lt hlt)
          have ht0 : σ.t.getD t (.tup []) = .tup [] := by
            have : ¬ t < σ.t.length := by rw [← s.fr.size]; exact hlt
            simp [List.getD, List.getElem?_eq_none (Nat.le_of_not_lt this)]
          rw [ht0] at hw
          cases hw
          simp only [hy (show _ = none by rw [hev])]
          rfl
      · cases hg
    · cases hg

theorem exec_call {o : Oper} {c : Call} {f : FuncId} (hop : o.op = .call c) (hcal : c.callee = .value (.func f)) (ok : CallOK Γ P kf call) {k : Nat} (hk : kf f = some k) :
    (execOp a.eval o).run P w = .ok (.enter f (c.args.map a.eval)) w := by
  obtain ⟨fn, h1, h2, h3⟩ := ok.there f k hk
  simp only [execOp, hop, resolve, hcal, Act.eval, Deferred.ofValue, Sem.run_bind, Sem.run_pure, Result.andThen_ok, invoke, callFunc, run_program, h1, h3, h2]
  simp

theorem execV_call {o : Oper} {c : Call} {f : FuncId} {x : Operand} {cs : Array Value} (hop : o.op = .call c) (hcal : c.callee = .value x) (hf : a.eval x = .func (.func f) #[] cs) (ok : CallOK Γ P kf call) {k : Nat} (hk : kf f = some k) :
    (execOp a.eval o).run P w = .ok (.enter f (c.args.map a.eval ++ cs)) w := by
  obtain ⟨fn, h1, h2, h3⟩ := ok.there f k hk
  simp only [execOp, hop, resolve, hcal, hf, Deferred.ofValue, Sem.run_bind, Sem.run_pure, Result.andThen_ok, invoke, callFunc, run_program, h1, h3, h2]
  simp

theorem flat_res {M M' : Nat → Prop} {b : Nat} {h : List AObj} {r : V} {v : Value} (hf : r.flat = true) (rr : ResR M b w r v) : VR M' w ρ h (setV r) v := by
  obtain ⟨ρr, _, vr⟩ := rr
  have leaf : ∀ {l : L} {u : Value} {M1 : Nat → Prop} {ρ1 : List (Option Nat)} {h1 : List AObj}, l.flat = true → LR M1 w ρ1 h1 l u → LR M' w ρ h (setL l) u := by
    intro l u M1 ρ1 h1 hl hr
    cases l with
    | pv p => cases p <;> first | (simp [L.flat] at hl; done) | (simpa [setL, LR, Reads] using hr)
    | _ => simp [L.flat] at hl
  have same : ∀ (ls : List L) (g : List AObj), ls.all L.flat = true → thawL g ls = (ls, g) := by
    intro ls
    induction ls with
    | nil => intro g _; rfl
    | cons l ls ih =>
      intro g hl
      simp only [List.all_cons, Bool.and_eq_true] at hl
      cases l with
      | pv p => simp only [thawL, ih g hl.2]
      | _ => simp [L.flat] at hl
  have leaves : ∀ {ls : List L} {us : List Value} {M1 : Nat → Prop} {ρ1 : List (Option Nat)} {h1 : List AObj}, ls.all L.flat = true → LRs M1 w ρ1 h1 ls us → LRs M' w ρ h (ls.map setL) us := by
    intro ls us M1 ρ1 h1 hl hr
    refine ⟨by simpa using hr.1, fun i l u hi hu => ?_⟩
    simp only [List.getElem?_map, Option.map_eq_some_iff] at hi
    obtain ⟨l0, h0, rfl⟩ := hi
    exact leaf ((List.all_eq_true.1 hl) l0 (List.mem_of_getElem? h0)) (hr.2 i l0 u h0 hu)
  cases r with
  | one l =>
    have e := same [l] [] (by simpa [V.flat] using hf)
    simp only [thaw, e] at vr
    exact leaf (by simpa [V.flat] using hf) vr
  | agg ls =>
    have e := same ls [] (by simpa [V.flat] using hf)
    simp only [thaw, e] at vr
    obtain ⟨cs, rfl, hl⟩ := vr
    exact ⟨cs, rfl, leaves (by simpa [V.flat] using hf) hl⟩
  | tup xs =>
    have sameT : ∀ (xs : List (Bool × List L)) (g : List AObj), (xs.all fun x => x.2.all L.flat) = true → thawT g xs = (xs, g) := by
      intro xs
      induction xs with
      | nil => intro g _; rfl
      | cons x xs ih =>
        intro g hx
        simp only [List.all_cons, Bool.and_eq_true] at hx
        obtain ⟨b, ls⟩ := x
        simp only [thawT, same ls g hx.1, ih g hx.2]
    have hfx : (xs.all fun x => x.2.all L.flat) = true := by simpa [V.flat] using hf
    simp only [thaw, sameT xs [] hfx] at vr
    obtain ⟨vs, rfl, h1, h2⟩ := vr
    refine ⟨vs, rfl, by simpa [setV] using h1, fun i x u hx hu => ?_⟩
    simp only [List.getElem?_map, Option.map_eq_some_iff] at hx
    obtain ⟨x0, h0, rfl⟩ := hx
    have hx0 := (List.all_eq_true.1 hfx) x0 (List.mem_of_getElem? h0)
    have := h2 i x0 u h0 hu
    obtain ⟨b, ls⟩ := x0
    cases b with
    | true => obtain ⟨cs, rfl, hl⟩ := this; exact ⟨cs, rfl, leaves hx0 hl⟩
    | false =>
      match ls, this, hx0 with
      | [l], this, hx0 => exact leaf (by simpa using hx0) this

/-- the operands of a call -/
theorem args_rel (s : SR Γ M0 base σ a w ρ) {xs : List Operand} {ys : List Opd} (h : optM cOpd xs = some ys) : (ys.map (Opd.ev σ)).length = (xs.map a.eval).length ∧
    ∀ (i : Nat) (v : V) (u : Value), (ys.map (Opd.ev σ))[i]? = some v → (xs.map a.eval)[i]? = some u → VR (Mu M0 ρ σ.h) w ρ σ.h v u := by
  refine ⟨by simp [optM_len h], fun i v u hv hu => ?_⟩
  simp only [List.getElem?_map, Option.map_eq_some_iff] at hv hu
  obtain ⟨y, hy, rfl⟩ := hv
  obtain ⟨x, hx, rfl⟩ := hu
  obtain ⟨y', hy', hc⟩ := optM_at h i x hx
  rw [hy] at hy'; cases hy'
  exact opd_sound s hc

theorem call_inv {d : Md} {op : Op} {k : Nat} {as : List Opd} {fl fz : Bool} (hc : cOp P kf d op = some (.call k as fl fz)) : ∃ c f, op = .call c ∧ c.callee = .value (.func f) ∧ kf f = some k ∧ optM cOpd c.args.toList = some as := by
  cases op
  case makeFunc fn first caps => cases fn <;> simp only [cOp] at hc <;> first | (cases hc; done) | ((repeat' (split at hc)) <;> cases hc)
  case call c =>
    simp only [cOp] at hc
    split at hc
    · rename_i f hcal
      split at hc
      · rename_i k' as' fn h1 h2 h3
        split at hc
        · cases hc
        · cases hc
          exact ⟨c, f, rfl, hcal, h1, h2⟩
      · cases hc
    all_goals first | (cases hc; done) | ((repeat' (split at hc)) <;> cases hc)
  all_goals simp only [cOp] at hc
  all_goals first
    | (cases hc; done)
    | (simp only [Option.map_eq_some_iff] at hc; obtain ⟨_, _, hc⟩ := hc; cases hc; done)
    | ((repeat' (split at hc)) <;> cases hc)

theorem callD_inv {d : Md} {op : Op} {k : Nat} {as : List Opd} (hc : cOp P kf d op = some (.callD k as)) : ∃ c f, op = .call c ∧ c.callee = .value (.func f) ∧ kf f = some k ∧ optM cOpd c.args.toList = some as := by
  cases op
  case makeFunc fn first caps => cases fn <;> simp only [cOp] at hc <;> first | (cases hc; done) | ((repeat' (split at hc)) <;> cases hc)
  case call c =>
    simp only [cOp] at hc
    split at hc
    · rename_i f hcal
      split at hc
      · rename_i k' as' fn h1 h2 h3
        split at hc
        · cases hc
          exact ⟨c, f, rfl, hcal, h1, h2⟩
        · cases hc
      · cases hc
    all_goals first | (cases hc; done) | ((repeat' (split at hc)) <;> cases hc)
  all_goals simp only [cOp] at hc
  all_goals first
    | (cases hc; done)
    | (simp only [Option.map_eq_some_iff] at hc; obtain ⟨_, _, hc⟩ := hc; cases hc; done)
    | ((repeat' (split at hc)) <;> cases hc)

theorem callV_inv {d : Md} {op : Op} {x : Opd} {as : List Opd} (hc : cOp P kf d op = some (.callV x as)) : ∃ c t, op = .call c ∧ c.callee = .value (.tmp t) ∧ x = .tmp t ∧ optM cOpd c.args.toList = some as := by
  cases op
  case makeFunc fn first caps => cases fn <;> simp only [cOp] at hc <;> first | (cases hc; done) | ((repeat' (split at hc)) <;> cases hc)
  case call c =>
    simp only [cOp] at hc
    split at hc
    · split at hc
      · split at hc <;> cases hc
      · cases hc
    · rename_i t hcal
      split at hc
      · rename_i as' h1
        cases hc
        exact ⟨c, t, rfl, hcal, rfl, h1⟩
      · cases hc
    all_goals first | (cases hc; done) | ((repeat' (split at hc)) <;> cases hc)
  all_goals simp only [cOp] at hc
  all_goals first
    | (cases hc; done)
    | (simp only [Option.map_eq_some_iff] at hc; obtain ⟨_, _, hc⟩ := hc; cases hc; done)
    | ((repeat' (split at hc)) <;> cases hc)

theorem stepO_sound (ok : CallOK Γ P kf call) (s : SR Γ M0 base σ a w ρ) {ops : Array Oper} {o : Oper} {d : Md} {oo : AOper} {σ' : St} {K : Act → World → Prop} {Q : Exit → Act → World → Prop}
    (hc : cOper P kf d ops o = some oo) (he : stepO call oo σ = some σ') (hK : ∀ a' w' ρ', SR Γ M0 base σ' a' w' ρ' → Below base w w' → K a' w') :
    if Region.wanted o (yielded ops a.tmps) then o.wp P a w K Q else K (a.put o.dst undef) w := by
  unfold cOper at hc
  split at hc
  · rename_i op g hop hg
    cases hc
    unfold stepO at he
    simp only at he
    split at he
    · rename_i hw
      rw [wants_sound s hg hw, if_pos rfl]
      -- a value, in a world that has only grown
      have fin : ∀ {v : V} {u : Value} {w' : World}, Below w.heap.size w w' → VR (Mu M0 ρ σ.h) w' ρ σ.h v u → σ' = ⟨put σ.t o.dst v, σ.h⟩ → K (a.put o.dst u) w' := by
        intro v u w' hb hv e
        subst e
        obtain ⟨k1, c1⟩ := s.hr.world hb.size (fun b hlt => hb.block b hlt)
        exact hK _ _ ρ ⟨k1, (s.fr.ch c1).put o.dst hv, Γ.keep _ _ s.inv (hb.mono (Nat.le_trans s.b0 s.hr.le)), s.b0⟩ (hb.mono s.hr.le)
      by_cases hcall : op.isCall = true
      · by_cases hv : ∃ x as, op = .callV x as
        · obtain ⟨x, as, rfl⟩ := hv
          obtain ⟨c, t, ho, hcal, hx, has⟩ := callV_inv hop
          obtain ⟨hal, har⟩ := args_rel s has
          have hvals : (c.args.map a.eval).toList = c.args.toList.map a.eval := by simp
          split at he
          · rename_i v hf
            cases he
            simp only [fop] at hf
            split at hf
            · rename_i k caps hxe
              split at hf
              · rename_i avs havs
                split at hf
                · rename_i r hr
                  split at hf
                  · rename_i hflat
                    cases hf
                    have rx := opd_sound s (show cOpd (.tmp t) = some (.tmp t) from rfl)
                    rw [← hx, hxe] at rx
                    obtain ⟨f, cs, ef, hk, hcl, hcr⟩ := rx
                    obtain ⟨hclean, hcalls⟩ := ok.sound f k _ r hk hr
                    have ha : ArgsR (fun _ => False) w avs (c.args.map a.eval).toList := by
                      rw [hvals]
                      exact view_args havs hal har (fun v l p u _ _ hl hv => view_false s.hr hl hv) (fun e u r => r.weak (fun _ h => h.elim))
                    have ha2 : ArgsR (fun _ => False) w (avs ++ caps.map capV) (c.args.map a.eval ++ cs).toList := by
                      refine ⟨by simp only [List.length_append, List.length_map, Array.toList_append]; rw [ha.1, hcl]; simp, fun i x u hx hu => ?_⟩
                      rw [Array.toList_append] at hu
                      by_cases hi : i < avs.length
                      · rw [List.getElem?_append_left hi] at hx
                        rw [List.getElem?_append_left (by rw [← ha.1]; exact hi)] at hu
                        exact ha.2 i x u hx hu
                      · rw [List.getElem?_append_right (by omega)] at hx
                        rw [List.getElem?_append_right (by rw [← ha.1]; omega), ← ha.1] at hu
                        simp only [List.getElem?_map, Option.map_eq_some_iff] at hx
                        obtain ⟨e, he, rfl⟩ := hx
                        exact ((hcr _ e u he (by simpa using hu)).weak (fun _ h => h.elim)).arg
                    unfold Oper.wp
                    rw [execV_call (a := a) (w := w) (call := call) ho hcal ef ok hk, Oper.upon_enter]
                    refine (hcalls (fun _ => False) w _ s.inv (fun b h => h.elim) ha2).mono fun e w' ⟨v, he, hb, hrr⟩ => ?_
                    subst he
                    exact fin hb (flat_res hflat hrr) rfl
                  · cases hf
                · cases hf
              · cases hf
            · cases hf
          · split at he
            · rename_i hee; cases hee
            · cases he
        by_cases hv2 : ∃ x, op = .s2b x
        · obtain ⟨x, rfl⟩ := hv2
          split at he
          · rename_i v hf
            cases he
            obtain ⟨u, w', q1, q2, q3⟩ := s2b_sound s hop hf
            unfold Oper.wp
            rw [q1, Oper.upon_value]
            exact fin q2 q3 rfl
          · split at he
            · rename_i hee; cases hee
            · cases he
        by_cases hv3 : ∃ k as, op = .callD k as
        · obtain ⟨k, as, rfl⟩ := hv3
          obtain ⟨c, f, ho, hcal, hk, has⟩ := callD_inv hop
          have hex := exec_call (a := a) (w := w) (call := call) ho hcal ok hk
          obtain ⟨hal, har⟩ := args_rel s has
          have hvals : (c.args.map a.eval).toList = c.args.toList.map a.eval := by simp
          unfold Oper.wp
          rw [hex, Oper.upon_enter]
          split at he
          · rename_i v hf; cases hf
          · split at he
            · rename_i v h' hee
              cases he
              simp only [eop] at hee
              split at hee
              · rename_i avs havs
                split at hee
                · rename_i r hr
                  cases hee
                  obtain ⟨hclean, hcalls⟩ := ok.sound f k avs r hk hr
                  obtain ⟨k1, c1⟩ := s.hr.freezeVs (as.map (Opd.ev σ))
                  have ha : ArgsR (Mu M0 ρ (freezeVs σ.h (as.map (Opd.ev σ)))) w avs (c.args.map a.eval).toList := by
                    rw [hvals]
                    exact view_args havs hal har (fun v l p u hv hl hlr hvw => view_mu k1 (hlr.ch c1) (by rw [freezeVs_view]; exact hvw) (freezeVs_mut _ l (.inr ⟨v, hv, hl⟩))) (fun e u r => r.go c1.go)
                  refine (hcalls _ w _ s.inv (fun b hb => Mu.lt k1 hb) ha).mono fun e w' ⟨v, he, hb, hrr⟩ => ?_
                  subst he
                  obtain ⟨k2, c2⟩ := k1.world hb.size (fun b hlt => hb.block b hlt)
                  exact hK _ _ ρ ⟨k2, ((s.fr.ch c1).ch c2).put o.dst (res_set k1 hb hclean hrr), Γ.keep _ _ s.inv (hb.mono (Nat.le_trans s.b0 s.hr.le)), s.b0⟩ (hb.mono s.hr.le)
                · cases hee
              · cases hee
            · cases he
        cases op <;> simp [AOp.isCall] at hcall
        case callV x as => exact absurd ⟨x, as, rfl⟩ hv
        case s2b x => exact absurd ⟨x, rfl⟩ hv2
        case callD k as => exact absurd ⟨k, as, rfl⟩ hv3
        rename_i k as fl fz
        obtain ⟨c, f, ho, hcal, hk, has⟩ := call_inv hop
        have hex := exec_call (a := a) (w := w) (call := call) ho hcal ok hk
        obtain ⟨hal, har⟩ := args_rel s has
        have hvals : (c.args.map a.eval).toList = c.args.toList.map a.eval := by simp
        unfold Oper.wp
        rw [hex, Oper.upon_enter]
        split at he
        · rename_i v hf
          cases he
          simp only [fop] at hf
          split at hf
          · split at hf
            · rename_i hfl hmut
              split at hf
              · rename_i avs havs
                split at hf
                · rename_i r hr
                  split at hf
                  · cases hf
                  · rename_i hflat
                    cases hf
                    obtain ⟨hclean, hcalls⟩ := ok.sound f k avs r hk hr
                    cases fl with
                    | true =>
                      have hflat' : r.flat = true := by simpa using hflat
                      have ha : ArgsR (fun _ => False) w avs (c.args.map a.eval).toList := by
                        rw [hvals]
                        exact view_args havs hal har (fun v l p u _ _ hl hv => view_false s.hr hl hv) (fun e u r => r.weak (fun _ h => h.elim))
                      refine (hcalls (fun _ => False) w _ s.inv (fun b h => h.elim) ha).mono fun e w' ⟨v, he, hb, hrr⟩ => ?_
                      subst he
                      exact fin hb (flat_res hflat' hrr) rfl
                    | false =>
                      have hm : ∀ v ∈ as.map (Opd.ev σ), V.mut σ.h v = false := by
                        intro v hv
                        simp only [Bool.false_or, Bool.not_eq_true'] at hmut
                        have := (List.any_eq_false.1 hmut) v hv
                        simpa using this
                      have ha : ArgsR (Mu M0 ρ σ.h) w avs (c.args.map a.eval).toList := by
                        rw [hvals]
                        refine view_args havs hal har (fun v l p u hv hl hlr hvw => view_mu s.hr hlr hvw ?_) (fun _ _ r => r)
                        have := hm v hv
                        simp only [V.mut] at this
                        have := (List.any_eq_false.1 this) l hl
                        simpa using this
                      refine (hcalls (Mu M0 ρ σ.h) w _ s.inv (fun b hb => Mu.lt s.hr hb) ha).mono fun e w' ⟨v, he, hb, hrr⟩ => ?_
                      subst he
                      exact fin hb (res_set s.hr hb hclean hrr) rfl
                · cases hf
              · cases hf
            · cases hf
          · cases hf
        · split at he
          · rename_i v h' hee
            cases he
            cases fl <;> cases fz <;> simp only [eop] at hee <;> try (cases hee; done)
            split at hee
            · rename_i avs havs
              split at hee
              · rename_i r hr
                have hee' := Option.some.inj hee
                obtain ⟨rfl, rfl⟩ : v = (thaw (freezeVs σ.h (as.map (Opd.ev σ))) r).1 ∧ h' = (thaw (freezeVs σ.h (as.map (Opd.ev σ))) r).2 := ⟨by rw [hee'], by rw [hee']⟩
                obtain ⟨hclean, hcalls⟩ := ok.sound f k avs r hk hr
                obtain ⟨k1, c1⟩ := s.hr.freezeVs (as.map (Opd.ev σ))
                have ha : ArgsR (Mu M0 ρ (freezeVs σ.h (as.map (Opd.ev σ)))) w avs (c.args.map a.eval).toList := by
                  rw [hvals]
                  exact view_args havs hal har (fun v l p u hv hl hlr hvw => view_mu k1 (hlr.ch c1) (by rw [freezeVs_view]; exact hvw) (freezeVs_mut _ l (.inr ⟨v, hv, hl⟩))) (fun e u r => r.go c1.go)
                refine (hcalls _ w _ s.inv (fun b hb => Mu.lt k1 hb) ha).mono fun e w' ⟨v, he, hb, hrr⟩ => ?_
                subst he
                obtain ⟨ρ', g1, g2, g3⟩ := res_thaw k1 hb hclean hrr
                exact hK _ _ ρ' ⟨g1, (s.fr.ch (c1.trans g2)).put o.dst g3, Γ.keep _ _ s.inv (hb.mono (Nat.le_trans s.b0 s.hr.le)), s.b0⟩ (hb.mono s.hr.le)
              · cases hee
            · cases hee
          · cases he
      · have hnc : op.isCall = false := by simpa using hcall
        split at he
        · rename_i v hf
          cases he
          obtain ⟨u, hu, hv⟩ := fop_sound s hop hnc hf
          unfold Oper.wp
          rw [hu, Oper.upon_value]
          exact fin (Below.refl _ _) hv rfl
        · split at he
          · rename_i v h' hee
            cases he
            have ht : Turns P M0 base σ w ρ v h' (execOp a.eval o) := by
              cases hoo : o.op <;> rw [hoo] at hop
              case alloc t => exact alloc_sound s hoo (hoo ▸ hop) hee
              case box t x => exact box_sound s hoo (hoo ▸ hop) hee
              case buildSlice t n ps => exact buildS_sound s hoo (hoo ▸ hop) hee
              case store t x y => exact store_sound s hoo (hoo ▸ hop) hee
              case makeSlice t x y => exact make_sound s hoo (hoo ▸ hop) hee
              case slice t x lo hi mx => exact slcL_sound s hoo (hoo ▸ hop) hee
              case makeFunc fn first caps => exact mkfn_sound s hoo (hoo ▸ hop) hee
              case call c =>
                cases op
                case append z b x y => exact append_sound s hoo (hoo ▸ hop) hee
                case appendS b x y => exact appendS_sound s hoo (hoo ▸ hop) hee
                all_goals first
                  | (simp [AOp.isCall] at hnc; done)
                  | (cases hee; done)
                  | (exfalso; simp only [cOp] at hop; repeat' (split at hop)) <;> cases hop
              all_goals
                exfalso
                simp only [cOp] at hop
                first
                  | (cases hop; done)
                  | (simp only [Option.map_eq_some_iff] at hop; obtain ⟨_, _, rfl⟩ := hop; cases hee; done)
                  | (repeat' (split at hop)) <;> first | (cases hop; done) | (cases hop; cases hee; done)
            obtain ⟨n, u, w', ρ', h1, h2, h3, h4, h5, h6⟩ := ht
            unfold Oper.wp
            rw [h1]
            have hSR : K (a.put o.dst u) w' := hK _ _ ρ' ⟨h4, (s.fr.ch h5).put o.dst h6, Γ.keep _ _ s.inv (h3.mono s.b0), s.b0⟩ h3
            rcases h2 with rfl | ⟨rfl, rfl⟩
            · exact hSR
            · exact hSR
          · cases he
    · rename_i hw
      cases he
      rw [wants_sound s hg hw]
      exact hK _ _ ρ ⟨s.hr, s.fr.put o.dst VR.undef, s.inv, s.b0⟩ (Below.refl _ _)
    · cases he
  · cases hc

end
end Gi
