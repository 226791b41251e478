/- Regions, code, functions: what the pure machine gives is what the Go function returns. -/
import Derived.Test.YtcjcgihohefldaaDoorGip
import Derived.Deep.LoopGhost
namespace Gi
open Go Go.RowKit
set_option linter.unusedVariables false
set_option linter.unusedSimpArgs false
variable {KI : KF}

section
variable {Γ : Ctx} {P : Program} {M0 : Nat → Prop} {base : Nat} {σ : St} {a : Act} {w : World} {ρ : List (Option Nat)} {call : Nat → List V → Option V}

/-- The whole state, and how it came from a beginning (nothing new is lent to be written, where z). -/
def SX [KF] (Γ : Ctx) (z : Bool) (O : Nat → Prop) (base : Nat) (w0 : World) (ρ0 : List (Option Nat)) (h0 : List AObj) (σ : St) (a : Act) (w : World) (ρ : List (Option Nat)) : Prop :=
  ∃ M0, (∀ b, O b → M0 b) ∧ (z = true → M0 = O) ∧ SR Γ M0 base σ a w ρ ∧ Below base w0 w ∧ Ch (Mu O ρ0 h0) (Mu M0 ρ σ.h) w0 w ρ0 ρ h0 σ.h
variable {z : Bool} {O : Nat → Prop} {w0 : World} {ρ0 : List (Option Nat)} {h0 : List AObj}

theorem stepX_sound (ok : CallOK Γ P kf call) (s : SX Γ z O base w0 ρ0 h0 σ a w ρ) {ops : Array Oper} {o : Oper} {d : Md} {oo : AOper} {σ' : St} {K : Act → World → Prop} {Q : Exit → Act → World → Prop} (hz : z = true → oo.op.noZ = true)
    (hc : cOper P kf d ops o = some oo) (he : stepO call oo σ = some σ') (hK : ∀ a' w' ρ', SX Γ z O base w0 ρ0 h0 σ' a' w' ρ' → K a' w') :
    if Region.wanted o (yielded ops a.tmps) then o.wp P a w K Q else K (a.put o.dst undef) w := by
  obtain ⟨M0, i1, i2, s1, b1, c1⟩ := s
  exact stepO_sound ok s1 hc he fun M0' a' w' ρ' g0 g1 g2 g3 g4 => hK a' w' ρ' ⟨M0', fun b h => g0 b (i1 b h), fun hz' => (g1 (hz hz')).trans (i2 hz'), g2, b1.trans g3, c1.trans g4⟩

theorem ops_sound (ok : CallOK Γ P kf call) {ops : Array Oper} {d : Md} {Q : Exit → Act → World → Prop} : ∀ {l : List Oper} {oos : List AOper} {σ σ' : St} {a : Act} {w : World} {ρ : List (Option Nat)}, SX Γ z O base w0 ρ0 h0 σ a w ρ → (z = true → ∀ oo ∈ oos, oo.op.noZ = true) →
    optM (cOper P kf d ops) l = some oos → execOps call oos σ = some σ' → (∀ a' w' ρ', SX Γ z O base w0 ρ0 h0 σ' a' w' ρ' → Q .normal a' w') → wpList P ops Q l a w
  | [], oos, σ, σ', a, w, ρ, s, hz, hc, he, hQ => by
    simp [optM] at hc; subst hc
    simp [execOps] at he; subst he
    exact wpList_nil (hQ a w ρ s)
  | o :: l, oos, σ, σ', a, w, ρ, s, hz, hc, he, hQ => by
    unfold optM at hc
    split at hc
    · rename_i oo oos' h1 h2
      cases hc
      unfold execOps at he
      split at he
      · rename_i σ1 he1
        exact wpList_step fun K hK => stepX_sound ok s (fun h => hz h oo (by simp)) h1 he1 fun a' w' ρ' s' => hK _ _ (ops_sound ok s' (fun h o ho => hz h o (by simp [ho])) h2 he hQ)
      · cases he
    · cases hc

/-! ### Any order -/
theorem Opd.ev_set {x : Opd} {t : List V} {h h' : List AObj} {d : Nat} {v : V} (hd : d ∉ x.tmps) : x.ev ⟨t.set d v, h⟩ = x.ev ⟨t, h'⟩ := by
  cases x with
  | tmp n =>
    simp only [Opd.tmps, List.mem_singleton] at hd
    simp only [Opd.ev, List.getD]
    rw [List.getElem?_set_ne hd]
  | _ => rfl

theorem fop_congr {σ σ' : St} (hh : σ.h = σ'.h) {ao : AOp} (hx : ∀ x ∈ ao.opds, x.ev σ = x.ev σ') : fop call σ ao = fop call σ' ao := by
  cases ao with
  | build zero parts =>
    have : (parts.map fun x => (x.1, x.2.1, x.2.2.ev σ)) = (parts.map fun x => (x.1, x.2.1, x.2.2.ev σ')) := by
      apply List.map_congr_left
      intro x hxm
      rw [hx x.2.2 (by simp only [AOp.opds]; exact List.mem_map.2 ⟨x, hxm, rfl⟩)]
    simp only [fop, this]
  | call f as fl fz =>
    have : as.map (Opd.ev σ) = as.map (Opd.ev σ') := List.map_congr_left (fun x hxm => hx x hxm)
    simp only [fop, this, hh]
  | callV x as =>
    have h1 := hx x (by simp [AOp.opds])
    have : as.map (Opd.ev σ) = as.map (Opd.ev σ') := List.map_congr_left (fun y hy => hx y (by simp [AOp.opds, hy]))
    simp only [fop, this, hh, h1]
  | slcL z x lo hi => rfl
  | buildF z parts =>
    have : parts.map (Opd.ev σ) = parts.map (Opd.ev σ') := List.map_congr_left (fun x hxm => hx x hxm)
    simp only [fop, this]
  | slcF z x lo hi =>
    have h1 := hx x (by simp [AOp.opds])
    have h2 : ∀ d, bound σ d lo = bound σ' d lo := by
      intro d
      cases lo with
      | none => rfl
      | some o => simp only [bound, hx o (by simp [AOp.opds])]
    have h3 : ∀ d, bound σ d hi = bound σ' d hi := by
      intro d
      cases hi with
      | none => rfl
      | some o => simp only [bound, hx o (by simp [AOp.opds])]
    simp only [fop, h1, h2, h3]
  | mkfn k cs => rfl
  | callD k cs => rfl
  | callF f as =>
    have : as.map (Opd.ev σ) = as.map (Opd.ev σ') := List.map_congr_left (fun x hxm => hx x hxm)
    simp only [fop, this, hh]
  | mkmap => rfl
  | mset x k v => rfl
  | mget x k =>
    have h1 := hx x (by simp [AOp.opds])
    have h2 := hx k (by simp [AOp.opds])
    simp only [fop, h1, h2, hh]
  | slcS x lo hi =>
    have h1 := hx x (by simp [AOp.opds])
    have h2 : ∀ d, bound σ d lo = bound σ' d lo := by
      intro d
      cases lo with
      | none => rfl
      | some o => simp only [bound, hx o (by simp [AOp.opds])]
    have h3 : ∀ d, bound σ d hi = bound σ' d hi := by
      intro d
      cases hi with
      | none => rfl
      | some o => simp only [bound, hx o (by simp [AOp.opds])]
    simp only [fop, h1, h2, h3]
  | _ => simp_all [fop, AOp.opds]

theorem bound_congr {σ σ' : St} {d : Int} {x : Option Opd} (hx : ∀ y ∈ x.toList, y.ev σ = y.ev σ') : bound σ d x = bound σ' d x := by
  cases x with
  | none => rfl
  | some o => simp only [bound, hx o (by simp)]
theorem eop_congr {σ σ' : St} (hh : σ.h = σ'.h) {ao : AOp} (hx : ∀ x ∈ ao.opds, x.ev σ = x.ev σ') : eop call σ ao = eop call σ' ao := by
  cases ao with
  | buildS z parts =>
    have : parts.map (Opd.ev σ) = parts.map (Opd.ev σ') := List.map_congr_left (fun x hxm => hx x hxm)
    simp only [eop, this, hh]
  | call f as fl fz =>
    have : as.map (Opd.ev σ) = as.map (Opd.ev σ') := List.map_congr_left (fun x hxm => hx x hxm)
    cases fl <;> cases fz <;> first | rfl | simp only [eop, this, hh]
  | callD f as =>
    have : as.map (Opd.ev σ) = as.map (Opd.ev σ') := List.map_congr_left (fun x hxm => hx x hxm)
    simp only [eop, this, hh]
  | mkfn k cs =>
    have : cs.map (Opd.ev σ) = cs.map (Opd.ev σ') := List.map_congr_left (fun x hxm => hx x hxm)
    simp only [eop, this, hh]
  | callC f as =>
    have : as.map (Opd.ev σ) = as.map (Opd.ev σ') := List.map_congr_left (fun x hxm => hx x hxm)
    simp only [eop, this, hh]
  | callZ f as =>
    have : as.map (Opd.ev σ) = as.map (Opd.ev σ') := List.map_congr_left (fun x hxm => hx x hxm)
    simp only [eop, this, hh]
  | buildD z parts =>
    have : parts.map (Opd.ev σ) = parts.map (Opd.ev σ') := List.map_congr_left (fun x hxm => hx x hxm)
    simp only [eop, this, hh]
  | slcL z x lo hi =>
    have h1 := hx x (by simp [AOp.opds])
    have h2 : ∀ d, bound σ d lo = bound σ' d lo := fun d => bound_congr fun y hy => hx y (by simp only [AOp.opds]; exact List.mem_cons_of_mem _ (List.mem_append_left _ hy))
    have h3 : ∀ d, bound σ d hi = bound σ' d hi := fun d => bound_congr fun y hy => hx y (by simp only [AOp.opds]; exact List.mem_cons_of_mem _ (List.mem_append_right _ hy))
    simp only [eop, h1, h2, h3, hh]
  | _ => simp_all [eop, AOp.opds]

/-- what an operation yields, and the variables behind it -/
def eff (call : Nat → List V → Option V) (o : AOper) (σ : St) : Option (V × List AObj) :=
  match wants σ o.guard with
  | some true => match fop call σ o.op with
    | some v => some (v, σ.h)
    | none => eop call σ o.op
  | some false => some (.tup [], σ.h)
  | none => none
theorem stepO_eff (oo : AOper) (σ : St) : stepO call oo σ = (eff call oo σ).map fun x => ⟨put σ.t oo.dst x.1, x.2⟩ := by
  unfold stepO eff
  cases hw : wants σ oo.guard with
  | none => rfl
  | some b =>
    cases b with
    | false => rfl
    | true =>
      simp only
      cases hf : fop call σ oo.op with
      | some v => rfl
      | none =>
        cases he : eop call σ oo.op with
        | none => rfl
        | some x => rfl

theorem eff_put {x y : AOper} (hap : apartA x y = true) {t : List V} {h : List AObj} {v : V} : eff call y ⟨put t x.dst v, h⟩ = eff call y ⟨t, h⟩ := by
  cases hd : x.dst with
  | none => rfl
  | some d =>
    have hno : d ∉ y.reads := by
      simp only [apartA, hd, Bool.and_eq_true, Bool.not_eq_true'] at hap
      have := hap.1.1
      simpa using this
    have hop : ∀ z ∈ y.op.opds, z.ev (⟨put t (some d) v, h⟩ : St) = z.ev ⟨t, h⟩ := fun z hz => Opd.ev_set (h' := h) (fun hm => hno (List.mem_append_left _ (List.mem_flatMap.2 ⟨z, hz, hm⟩)))
    have hw : wants (⟨put t (some d) v, h⟩ : St) y.guard = wants ⟨t, h⟩ y.guard := by
      cases hg : y.guard with
      | none => rfl
      | some gw =>
        obtain ⟨g, b⟩ := gw
        have hne : d ≠ g := fun e => hno (List.mem_append_right _ (by simp [hg, e]))
        simp only [wants, put, List.getD]
        rw [List.getElem?_set_ne hne]
    unfold eff
    rw [hw, fop_congr (σ := ⟨put t (some d) v, h⟩) (σ' := ⟨t, h⟩) rfl hop, eop_congr (σ := ⟨put t (some d) v, h⟩) (σ' := ⟨t, h⟩) rfl hop]

theorem ev_h {x : Opd} {t : List V} {h h' : List AObj} : x.ev ⟨t, h⟩ = x.ev ⟨t, h'⟩ := by cases x <;> rfl
theorem wants_h {g : Option (Nat × Bool)} {t : List V} {h h' : List AObj} : wants ⟨t, h⟩ g = wants ⟨t, h'⟩ g := by
  cases g with
  | none => rfl
  | some gw => rfl
theorem bound_h {t : List V} {h h' : List AObj} {d : Int} {x : Option Opd} : bound ⟨t, h⟩ d x = bound ⟨t, h'⟩ d x := bound_congr fun y _ => ev_h
theorem eop_none {ao : AOp} (hc : ao.cls ≤ 1) : eop call σ ao = none := by
  cases ao with
  | call f as fl fz => cases fl <;> cases fz <;> first | rfl | simp [AOp.cls] at hc
  | _ => first | rfl | simp [AOp.cls] at hc
theorem fop_none {ao : AOp} (hc : 2 ≤ ao.cls) : fop call σ ao = none := by
  cases ao with
  | call f as fl fz => cases fl <;> cases fz <;> first | rfl | simp [AOp.cls] at hc
  | _ => first | rfl | simp [AOp.cls] at hc
theorem fop_pure {ao : AOp} (hc : ao.cls = 0) {t : List V} {h h' : List AObj} : fop call ⟨t, h⟩ ao = fop call ⟨t, h'⟩ ao := by
  have e : ∀ x : Opd, x.ev ⟨t, h⟩ = x.ev ⟨t, h'⟩ := fun x => ev_h
  have e2 : ∀ d x, bound ⟨t, h⟩ d x = bound ⟨t, h'⟩ d x := fun d x => bound_h
  have e3 : Opd.ev ⟨t, h⟩ = Opd.ev ⟨t, h'⟩ := funext e
  cases ao with
  | buildF z ps => simp only [fop, e3]
  | call f as fl fz => cases fl <;> cases fz <;> simp [AOp.cls] at hc
  | _ => first | (simp [AOp.cls] at hc; done) | (simp only [fop, e, e2]; done) | rfl

/-- More variables, some of them written no more. -/
def HLe (h h' : List AObj) : Prop := ∀ (o : Nat) (ob : AObj), h[o]? = some ob → ob ≠ .res → h'[o]? = some ob ∨ ∃ z es, ob.isArrD z es ∧ h'[o]? = some (.froz z es)
theorem HLe.refl (h : List AObj) : HLe h h := fun _ _ e _ => .inl e
theorem HLe.trans {a b c : List AObj} (h : HLe a b) (k : HLe b c) : HLe a c := by
  intro o ob e hn
  rcases h o ob e hn with e1 | ⟨z, es, hD, e1⟩
  · exact k o ob e1 hn
  · rcases k o _ e1 (by simp) with e2 | ⟨_, _, e3, _⟩
    · exact .inr ⟨z, es, hD, e2⟩
    · rcases e3 with e3 | e3 <;> cases e3
theorem HLe.append (h l : List AObj) : HLe h (h ++ l) := fun o ob e _ => .inl (by rw [List.getElem?_append_left (List.getElem?_eq_some_iff.1 e).1]; exact e)
theorem HLe.freezeL (h : List AObj) (l : L) : HLe h (Gi.freezeL h l) := by
  cases l with
  | arr o =>
    simp only [Gi.freezeL]
    split
    · rename_i z es he
      intro o' ob e _
      by_cases q : o = o'
      · subst q
        rw [he] at e; cases e
        exact .inr ⟨z, es, .inl rfl, by rw [List.getElem?_set_self (List.getElem?_eq_some_iff.1 he).1]⟩
      · exact .inl (by rw [List.getElem?_set_ne q]; exact e)
    · rename_i z es he
      intro o' ob e _
      by_cases q : o = o'
      · subst q
        rw [he] at e; cases e
        exact .inr ⟨z, es, .inr rfl, by rw [List.getElem?_set_self (List.getElem?_eq_some_iff.1 he).1]⟩
      · exact .inl (by rw [List.getElem?_set_ne q]; exact e)
    · exact HLe.refl h
  | _ => exact HLe.refl h
theorem HLe.freezeLs : ∀ (ls : List L) (h : List AObj), HLe h (Gi.freezeLs h ls)
  | [], h => HLe.refl h
  | l :: ls, h => (HLe.freezeL h l).trans (HLe.freezeLs ls (Gi.freezeL h l))
theorem HLe.freezeVs : ∀ (vs : List V) (h : List AObj), HLe h (Gi.freezeVs h vs)
  | [], h => HLe.refl h
  | v :: vs, h => (HLe.freezeLs v.cells h).trans (HLe.freezeVs vs (Gi.freezeLs h v.cells))
theorem eop_le {ao : AOp} (hc : ao.cls = 2) {v : V} {h' : List AObj} (he : eop call σ ao = some (v, h')) : HLe σ.h h' := by
  cases ao with
  | call f as fl fz => cases fl <;> cases fz <;> simp [AOp.cls] at hc
  | alloc zero => simp only [eop] at he; cases he; exact HLe.append _ _
  | mkmap => simp only [eop] at he; cases he; exact HLe.append _ _
  | allocT n => simp only [eop] at he; cases he; exact HLe.append _ _
  | allocW zero => simp only [eop] at he; cases he; exact HLe.append _ _
  | allocAt i zero =>
    simp only [eop] at he
    split at he
    · rename_i hi
      cases he
      intro o ob e hn
      have q : i ≠ o := by
        rintro rfl
        rw [hi] at e; cases e
        exact hn rfl
      exact .inl (by rw [List.getElem?_set_ne q]; exact e)
    · cases he
  | box x =>
    simp only [eop] at he
    split at he
    · cases he; exact HLe.append _ _
    · cases he
  | buildS z parts =>
    simp only [eop] at he
    split at he
    · split at he
      · cases he; exact (HLe.freezeVs _ _).trans (HLe.append _ _)
      · cases he
    · cases he
  | make b zero n =>
    simp only [eop] at he
    split at he
    · split at he
      · cases he; exact HLe.append _ _
      · cases he
    · cases he
  | slcL z x lo hi =>
    simp only [eop] at he
    split at he
    · split at he
      · split at he
        · cases he; exact HLe.freezeLs _ _
        · cases he
      · cases he
    · cases he
  | _ => simp [AOp.cls] at hc

theorem view_le {h h' : List AObj} (k : HLe h h') {l : L} {p : PV} (e : l.view h = some p) : l.view h' = some p := by
  cases l with
  | arr o =>
    simp only [L.view] at e ⊢
    split at e
    · rename_i z es he
      rcases k o _ he (by simp) with e1 | ⟨z', es', e2, e1⟩
      · rw [e1]; exact e
      · rcases e2 with e2 | e2 <;> cases e2; rw [e1]; exact e
    · rename_i z es he
      rcases k o _ he (by simp) with e1 | ⟨z', es', e2, e1⟩
      · rw [e1]; exact e
      · rcases e2 with e2 | e2 <;> cases e2
    · rename_i z es he
      rcases k o _ he (by simp) with e1 | ⟨z', es', e2, e1⟩
      · rw [e1]; exact e
      · rcases e2 with e2 | e2 <;> cases e2; rw [e1]; exact e
    · cases e
  | _ => exact e
theorem viewL_le {h h' : List AObj} (k : HLe h h') : ∀ {ls : List L} {ps : List PV}, viewL h ls = some ps → viewL h' ls = some ps
  | [], ps, e => e
  | l :: ls, ps, e => by
    simp only [viewL] at e ⊢
    split at e
    · rename_i p qs e1 e2
      rw [view_le k e1, viewL_le k e2]; exact e
    · cases e
theorem Vview_le {h h' : List AObj} (k : HLe h h') {v u : V} (e : v.view h = some u) : v.view h' = some u := by
  unfold V.view at e ⊢
  split at e
  · exact e
  · rename_i l hno
    split at e
    · rename_i p e1
      rw [view_le k e1]
      simp only
      exact e
    · cases e
  · split at e
    · rename_i ps e1
      rw [viewL_le k e1]; exact e
    · cases e
  · cases e
theorem viewArgs_le {h h' : List AObj} (k : HLe h h') : ∀ {vs us : List V}, viewArgs h vs = some us → viewArgs h' vs = some us
  | [], us, e => e
  | v :: vs, us, e => by
    simp only [viewArgs] at e ⊢
    split at e
    · rename_i p qs e1 e2
      rw [Vview_le k e1, viewArgs_le k e2]; exact e
    · cases e
theorem asList_le {h h' : List AObj} (k : HLe h h') {v : V} {es : List (List PV)} (e : asList h v = some es) : asList h' v = some es := by
  unfold asList at e ⊢
  split at e
  · split at e
    · rename_i es' e1
      simp only [view_le k e1]; exact e
    · cases e
  · cases e
theorem mutL_le {h h' : List AObj} (k : HLe h h') {l : L} {p : PV} (e : l.view h = some p) (m : L.mut h l = false) : L.mut h' l = false := by
  cases l with
  | arr o =>
    simp only [L.view] at e
    simp only [L.mut] at m ⊢
    split at e
    · rename_i z es he
      rw [he] at m; simp at m
    · rename_i z es he
      rcases k o _ he (by simp) with e1 | ⟨z', es', e2, e1⟩
      · rw [e1]
      · rcases e2 with e2 | e2 <;> cases e2
    · rename_i z es he
      rw [he] at m; simp at m
    · cases e
  | _ => rfl
theorem mutLs_le {h h' : List AObj} (k : HLe h h') : ∀ {ls : List L} {ps : List PV}, viewL h ls = some ps → ls.any (L.mut h) = false → ls.any (L.mut h') = false
  | [], _, _, _ => rfl
  | l :: ls, ps, e, m => by
    simp only [viewL] at e
    split at e
    · rename_i p qs e1 e2
      simp only [List.any_cons, Bool.or_eq_false_iff] at m ⊢
      exact ⟨mutL_le k e1 m.1, mutLs_le k e2 m.2⟩
    · cases e
theorem mutV_le {h h' : List AObj} (k : HLe h h') {v u : V} (e : v.view h = some u) (m : v.mut h = false) : v.mut h' = false := by
  unfold V.view at e
  unfold V.mut at m ⊢
  split at e
  · rfl
  · rename_i l hno
    split at e
    · rename_i p e1
      simp only [V.cells, List.any_cons, List.any_nil, Bool.or_false] at m ⊢
      exact mutL_le k e1 m
    · cases e
  · split at e
    · rename_i ps e1
      simp only [V.cells] at m ⊢
      exact mutLs_le k e1 m
    · cases e
  · cases e
theorem mutVs_le {h h' : List AObj} (k : HLe h h') : ∀ {vs us : List V}, viewArgs h vs = some us → vs.any (V.mut h) = false → vs.any (V.mut h') = false
  | [], _, _, _ => rfl
  | v :: vs, us, e, m => by
    simp only [viewArgs] at e
    split at e
    · rename_i p qs e1 e2
      simp only [List.any_cons, Bool.or_eq_false_iff] at m ⊢
      exact ⟨mutV_le k e1 m.1, mutVs_le k e2 m.2⟩
    · cases e
theorem loadV_le {h h' : List AObj} (k : HLe h h') {g : Bool} {n : Nat} {a v : V} (e : loadV h g n a = some v) : loadV h' g n a = some v := by
  unfold loadV at e ⊢
  split at e
  · rename_i o i j
    split at e
    · rename_i cs he
      rcases k o _ he (by simp) with e1 | ⟨z', es', e2, e1⟩
      · simp only [e1]; exact e
      · rcases e2 with e2 | e2 <;> cases e2
    · rename_i z es he
      rcases k o _ he (by simp) with e1 | ⟨z', es', e2, e1⟩
      · simp only [e1]; exact e
      · rcases e2 with e2 | e2 <;> cases e2; simp only [e1]; exact e
    · rename_i z es he
      rcases k o _ he (by simp) with e1 | ⟨z', es', e2, e1⟩
      · simp only [e1]; exact e
      · rcases e2 with e2 | e2 <;> cases e2
    · rename_i z es he
      rcases k o _ he (by simp) with e1 | ⟨z', es', e2, e1⟩
      · simp only [e1]; exact e
      · rcases e2 with e2 | e2 <;> cases e2; simp only [e1]; exact e
    · rename_i ps he
      rcases k o _ he (by simp) with e1 | ⟨z', es', e2, e1⟩
      · simp only [e1]; exact e
      · rcases e2 with e2 | e2 <;> cases e2
    · cases e
  · exact e
  · cases e
theorem elemPtr_le {h h' : List AObj} (k : HLe h h') {z : Nat} {x v : V} {i : Nat} (e : elemPtr h z x i = some v) : elemPtr h' z x i = some v := by
  unfold elemPtr at e ⊢
  split at e
  · rename_i o
    split at e
    · rename_i z' es he
      rcases k o _ he (by simp) with e1 | ⟨_, _, e2, e1⟩
      · simp only [e1]; exact e
      · rcases e2 with e2 | e2 <;> cases e2; simp only [e1]; exact e
    · rename_i z' es he
      rcases k o _ he (by simp) with e1 | ⟨_, _, e2, e1⟩
      · simp only [e1]; exact e
      · rcases e2 with e2 | e2 <;> cases e2
    · rename_i z' es he
      rcases k o _ he (by simp) with e1 | ⟨_, _, e2, e1⟩
      · simp only [e1]; exact e
      · rcases e2 with e2 | e2 <;> cases e2; simp only [e1]; exact e
    · cases e
  · exact e
  · cases e
theorem HLe.lent {h h' : List AObj} (k : HLe h h') : HLe (Gi.lent h) (Gi.lent h') := by
  intro o x e hn
  obtain ⟨ob, h1, rfl⟩ := lent_get e
  rcases k o ob h1 (by rintro rfl; exact hn rfl) with e1 | ⟨z, es, hD, e1⟩
  · exact .inl (lent_of e1)
  · refine .inr ⟨z, es, ?_, lent_of e1⟩
    rcases hD with rfl | rfl
    · exact .inl rfl
    · exact .inr rfl
theorem loadZV_le {h h' : List AObj} (k : HLe h h') {g : Bool} {n : Nat} {a v : V} (e : loadZV h g n a = some v) : loadZV h' g n a = some v := by
  unfold loadZV at e ⊢
  split at e
  · rename_i o i j
    split at e
    · rename_i z es he
      rcases k o _ he (by simp) with e1 | ⟨_, _, e2, e1⟩
      · simp only [e1]; exact e
      · rcases e2 with e2 | e2 <;> cases e2
    · rename_i hno
      have hno' : ∀ z es, h'[o]? ≠ some (.zarr z es) := fun z es e1 => by
        have he := e
        unfold loadV at he
        simp only at he
        cases h2 : h[o]? with
        | none => rw [h2] at he; cases he
        | some ob =>
          have hn : ob ≠ .res := by
            rintro rfl
            rw [h2] at he
            cases he
          rcases k o ob h2 hn with e3 | ⟨_, _, _, e3⟩
          · rw [e1] at e3; cases e3; exact hno z es h2
          · rw [e1] at e3; cases e3
      split
      · rename_i z es e1; exact absurd e1 (hno' z es)
      · exact loadV_le k e
  · exact loadV_le k e
theorem fop_look {ao : AOp} (hc : ao.cls = 1) {t : List V} {h h' : List AObj} (k : HLe h h') {v : V} (e : fop call ⟨t, h⟩ ao = some v) : fop call ⟨t, h'⟩ ao = some v := by
  have ev : ∀ x : Opd, x.ev ⟨t, h⟩ = x.ev ⟨t, h'⟩ := fun x => ev_h
  have evs : Opd.ev ⟨t, h⟩ = Opd.ev ⟨t, h'⟩ := funext ev
  cases ao with
  | load g n a =>
    simp only [fop, ev] at e ⊢
    exact loadV_le k e
  | loadB g n a =>
    simp only [fop, ev] at e ⊢
    split at e
    · rename_i hq
      have hq' : isVar h' (a.ev ⟨t, h'⟩) = true := by
        unfold isVar at hq ⊢
        split at hq
        · rename_i o i j hv
          split at hq
          · rename_i cs ho
            rcases k o _ ho (by simp) with e1 | ⟨z', es', e2, e1⟩
            · rw [e1]
            · rcases e2 with e2 | e2 <;> cases e2
          · rename_i cs ho
            rcases k o _ ho (by simp) with e1 | ⟨z', es', e2, e1⟩
            · rw [e1]
            · rcases e2 with e2 | e2 <;> cases e2
          · cases hq
        · rfl
        · cases hq
      rw [if_pos hq']
      exact loadV_le k e
    · cases e
  | loadA g n a =>
    simp only [fop, ev] at e ⊢
    split at e
    · cases e
    · rename_i hq
      have hq' : ¬ isVar h' (a.ev ⟨t, h'⟩) = true := by
        intro hq2
        unfold isVar at hq hq2
        unfold loadV at e
        split at e
        · rename_i o i j hv
          rw [hv] at hq hq2
          simp only at hq hq2
          split at e
          · rename_i cs ho; rw [ho] at hq; exact hq rfl
          · rename_i z es ho
            rcases k o _ ho (by simp) with e1 | ⟨z', es', e2, e1⟩
            · rw [e1] at hq2; cases hq2
            · rw [e1] at hq2; cases hq2
          · rename_i z es ho
            rcases k o _ ho (by simp) with e1 | ⟨z', es', e2, e1⟩
            · rw [e1] at hq2; cases hq2
            · rcases e2 with e2 | e2 <;> cases e2
          · rename_i z es ho
            rcases k o _ ho (by simp) with e1 | ⟨z', es', e2, e1⟩
            · rw [e1] at hq2; cases hq2
            · rw [e1] at hq2; cases hq2
          · rename_i cs ho; rw [ho] at hq; exact hq rfl
          · cases e
        · rename_i e1 j hv
          rw [hv] at hq
          exact hq rfl
        · cases e
      rw [if_neg hq']
      exact loadV_le k e
  | b2s x =>
    simp only [fop, ev] at e ⊢
    split at e
    · rename_i es e1; rw [asList_le k e1]; exact e
    · cases e
  | len x =>
    simp only [fop, ev] at e ⊢
    split at e
    · rename_i es e1; rw [asList_le k e1]; exact e
    · cases e
  | indexA z x i =>
    simp only [fop, ev] at e ⊢
    split at e
    · split at e
      · rename_i hn; simp only [if_pos hn]; exact elemPtr_le k e
      · cases e
    · cases e
  | mget x kk =>
    simp only [fop, ev] at e ⊢
    split at e
    · rename_i o n hx hk
      split at e
      · rename_i kvs he
        rcases k o _ he (by simp) with e1 | ⟨z', es', e2, e1⟩
        · simp only [e1]; exact e
        · rcases e2 with e2 | e2 <;> cases e2
      · cases e
    · cases e
  | callV x as =>
    simp only [fop, evs] at e ⊢
    split at e
    · split at e
      · rename_i us e1; simp only [viewArgs_le k e1]; exact e
      · cases e
    · cases e
  | call f as fl fz =>
    simp only [fop, evs] at e ⊢
    split at e
    · rename_i hfl
      rw [if_pos hfl]
      split at e
      · rename_i hm
        split at e
        · rename_i us e1
          have hm' : (fl || !((as.map (Opd.ev ⟨t, h'⟩)).any (V.mut h'))) = true := by
            cases fl with
            | true => rfl
            | false =>
              simp only [Bool.false_or, Bool.not_eq_true'] at hm ⊢
              exact mutVs_le k e1 hm
          rw [if_pos hm', viewArgs_le k e1]; exact e
        · cases e
      · cases e
    · cases e
  | lenZ x =>
    simp only [fop, ev] at e ⊢
    split at e
    · rename_i es e1; rw [asList_le k.lent e1]; exact e
    · cases e
  | indexZ z x i =>
    simp only [fop, ev] at e ⊢
    split at e
    · split at e
      · rename_i hn; simp only [if_pos hn]; exact elemPtr_le k.lent e
      · cases e
    · cases e
  | loadZ g n a =>
    simp only [fop, ev] at e ⊢
    exact loadZV_le k e
  | callF f as =>
    simp only [fop, evs] at e ⊢
    split at e
    · rename_i us e1; simp only [viewArgs_le k.lent e1]; exact e
    · cases e
  | _ => simp [AOp.cls] at hc

theorem put_comm {x y : AOper} (hap : apartA x y = true) (t : List V) (v u : V) : put (put t x.dst v) y.dst u = put (put t y.dst u) x.dst v := by
  cases hd : x.dst with
  | none => rfl
  | some d =>
    cases he : y.dst with
    | none => rfl
    | some e =>
      have hne : d ≠ e := by
        simp only [apartA, hd, he, Bool.and_eq_true, bne_iff_ne, ne_eq] at hap
        intro e'
        exact hap.1.2 (by rw [e'])
      simp only [put]
      exact List.set_comm v u hne

theorem apartA_symm {x y : AOper} (h : apartA x y = true) : apartA y x = true := by
  unfold apartA at *
  cases hx : x.dst <;> cases hy : y.dst <;> simp_all
  exact fun e => h.1.2 e.symm

theorem eff_pure {x : AOper} (hc : x.op.cls = 0) {t : List V} {h h1 h' : List AObj} {v : V} (e : eff call x ⟨t, h⟩ = some (v, h1)) : h1 = h ∧ eff call x ⟨t, h'⟩ = some (v, h') := by
  unfold eff at e ⊢
  rw [wants_h (h := h') (h' := h)]
  split at e
  · rw [fop_pure (h := h') (h' := h) hc]
    split at e
    · cases e; exact ⟨rfl, rfl⟩
    · rw [eop_none (by omega)] at e; cases e
  · cases e; exact ⟨rfl, rfl⟩
  · cases e
theorem eff_look {x : AOper} (hc : x.op.cls = 1) {t : List V} {h h1 h' : List AObj} (k : HLe h h') {v : V} (e : eff call x ⟨t, h⟩ = some (v, h1)) : h1 = h ∧ eff call x ⟨t, h'⟩ = some (v, h') := by
  unfold eff at e ⊢
  rw [wants_h (h := h') (h' := h)]
  split at e
  · split at e
    · rename_i hf
      cases e
      rw [fop_look hc k hf]
      exact ⟨rfl, rfl⟩
    · rw [eop_none (by omega)] at e; cases e
  · cases e; exact ⟨rfl, rfl⟩
  · cases e
theorem eff_le {x : AOper} (hc : x.op.cls ≤ 2) {σ : St} {h' : List AObj} {v : V} (e : eff call x σ = some (v, h')) : HLe σ.h h' := by
  unfold eff at e
  split at e
  · split at e
    · cases e; exact HLe.refl _
    · by_cases h2 : x.op.cls = 2
      · exact eop_le h2 e
      · rw [eop_none (by omega)] at e; cases e
  · cases e; exact HLe.refl _
  · cases e
theorem thawL_app : ∀ (ls : List L) (h : List AObj), ∃ l, (thawL h ls).2 = h ++ l ∧ allArr l
  | [], h => ⟨[], by simp [thawL], fun ob hob => by cases hob⟩
  | l :: ls, h => by
    have push : ∀ ob : AObj, ob.isArr → ∃ l, (thawL (h ++ [ob]) ls).2 = h ++ l ∧ allArr l := fun ob ho => by
      obtain ⟨l, e, ha⟩ := thawL_app ls (h ++ [ob])
      exact ⟨ob :: l, by rw [e]; simp, fun x hx => by
        rcases List.mem_cons.1 hx with rfl | hx
        · exact ho
        · exact ha x hx⟩
    cases l with
    | own z es => exact push _ trivial
    | down z es => exact push _ trivial
    | _ => exact thawL_app ls h
theorem thawT_app : ∀ (xs : List (Bool × List L)) (h : List AObj), ∃ l, (thawT h xs).2 = h ++ l ∧ allArr l
  | [], h => ⟨[], by simp [thawT], fun ob hob => by cases hob⟩
  | (b, ls) :: xs, h => by
    obtain ⟨l, e, ha⟩ := thawL_app ls h
    obtain ⟨l', e', ha'⟩ := thawT_app xs (thawL h ls).2
    refine ⟨l ++ l', by simp only [thawT]; rw [e', e, List.append_assoc], fun x hx => ?_⟩
    rcases List.mem_append.1 hx with hx | hx
    · exact ha x hx
    · exact ha' x hx
theorem thaw_app (h : List AObj) (r : V) : ∃ l, (thaw h r).2 = h ++ l ∧ allArr l := by
  cases r with
  | one l =>
    obtain ⟨l', h', e'⟩ := thawL_one h l
    obtain ⟨x, e, ha⟩ := thawL_app [l] h
    rw [e'] at e
    exact ⟨x, by simp only [thaw, e']; exact e, ha⟩
  | agg ls => exact thawL_app ls h
  | tup xs => exact thawT_app xs h
/-- The variables (no arrays) are the same. -/
def VarEq (h h' : List AObj) : Prop := ∀ (o : Nat) (ob : AObj), (match ob with | .box _ => True | .fbox _ => True | _ => False) → (h[o]? = some ob ↔ h'[o]? = some ob)
theorem VarEq.refl (h : List AObj) : VarEq h h := fun _ _ _ => Iff.rfl
theorem VarEq.symm {h h' : List AObj} (k : VarEq h h') : VarEq h' h := fun o ob q => (k o ob q).symm
theorem VarEq.trans {a b c : List AObj} (h : VarEq a b) (k : VarEq b c) : VarEq a c := fun o ob q => (h o ob q).trans (k o ob q)
theorem VarEq.app {h l : List AObj} (ha : allArr l) : VarEq h (h ++ l) := fun o ob q => by
  by_cases hlt : o < h.length
  · rw [List.getElem?_append_left hlt]
  · rw [List.getElem?_eq_none (by omega), List.getElem?_append_right (by omega)]
    constructor
    · intro e; cases e
    · intro e
      have := ha ob (List.mem_of_getElem? e)
      cases ob <;> first | exact this.elim | exact q.elim
theorem VarEq.push (h : List AObj) {z : Nat} {es : List (List PV)} : VarEq h (h ++ [.arr z es]) := fun o ob q => by
  rcases Nat.lt_trichotomy o h.length with hlt | rfl | hgt
  · rw [List.getElem?_append_left hlt]
  · simp only [List.getElem?_append_right (Nat.le_refl _), Nat.sub_self, List.getElem?_cons_zero, List.getElem?_eq_none (Nat.le_refl _)]
    constructor
    · intro e; cases e
    · intro e; cases e; exact q.elim
  · rw [List.getElem?_eq_none (by omega), List.getElem?_eq_none (by simp; omega)]
theorem VarEq.setArr {h : List AObj} {o z : Nat} {es : List (List PV)} {ob0 : AObj} (ho : h[o]? = some ob0) (hD : ob0.isArrD z es) {ob' : AObj} (hb : match ob' with | .box _ => False | .fbox _ => False | _ => True) : VarEq h (h.set o ob') := fun i ob q => by
  by_cases hi : o = i
  · subst hi
    rw [List.getElem?_set_self (List.getElem?_eq_some_iff.1 ho).1, ho]
    constructor
    · intro e; cases e; rcases hD with rfl | rfl <;> exact q.elim
    · intro e; cases e; revert q hb; cases ob' <;> simp
  · rw [List.getElem?_set_ne hi]
theorem VarEq.freezeL (h : List AObj) (l : L) : VarEq h (Gi.freezeL h l) := by
  cases l with
  | arr o =>
    simp only [Gi.freezeL]
    split
    · rename_i z es he
      exact VarEq.setArr he (.inl rfl) trivial
    · rename_i z es he
      exact VarEq.setArr he (.inr rfl) trivial
    · exact VarEq.refl h
  | _ => exact VarEq.refl h
theorem VarEq.freezeLs : ∀ (ls : List L) (h : List AObj), VarEq h (Gi.freezeLs h ls)
  | [], h => VarEq.refl h
  | l :: ls, h => (VarEq.freezeL h l).trans (VarEq.freezeLs ls (Gi.freezeL h l))
theorem VarEq.freezeVs : ∀ (vs : List V) (h : List AObj), VarEq h (Gi.freezeVs h vs)
  | [], h => VarEq.refl h
  | v :: vs, h => (VarEq.freezeLs v.cells h).trans (VarEq.freezeVs vs (Gi.freezeLs h v.cells))
theorem eop_varEq {σ : St} {ao : AOp} (hc : ao.arrT = true) {v : V} {h' : List AObj} (he : eop call σ ao = some (v, h')) : VarEq σ.h h' := by
  cases ao with
  | buildS z parts =>
    simp only [eop] at he
    split at he
    · split at he
      · cases he; exact (VarEq.freezeVs _ _).trans (VarEq.push _)
      · cases he
    · cases he
  | make b zero n =>
    simp only [eop] at he
    split at he
    · split at he
      · cases he; exact VarEq.push _
      · cases he
    · cases he
  | slcL z x lo hi =>
    simp only [eop] at he
    split at he
    · split at he
      · split at he
        · cases he; exact VarEq.freezeLs _ _
        · cases he
      · cases he
    · cases he
  | append z b x y =>
    simp only [eop] at he
    split at he
    · split at he
      · cases he; exact VarEq.push _
      · cases he
    · split at he
      · rename_i z' es ho
        split at he
        · cases he; exact (VarEq.setArr ho (.inl rfl) trivial).trans (VarEq.push _)
        · cases he
      · cases he
    · cases he
  | appendS b x y =>
    simp only [eop] at he
    split at he
    · split at he
      · cases he; exact VarEq.push _
      · cases he
    · split at he
      · rename_i z' es ho
        split at he
        · cases he; exact (VarEq.setArr ho (.inl rfl) trivial).trans (VarEq.push _)
        · cases he
      · cases he
    · cases he
  | buildD z parts =>
    simp only [eop] at he
    split at he
    · split at he
      · cases he; exact (VarEq.freezeVs _ _).trans (VarEq.app fun ob hob => by simp at hob; subst hob; trivial)
      · cases he
    · cases he
  | appendD z b x y =>
    simp only [eop] at he
    split at he
    · cases he
    · rename_i sc hsc
      split at he
      · cases he
      · split at he
        · cases he
          refine (VarEq.freezeLs (y.ev σ).cells _).trans (VarEq.trans ?_ (VarEq.app fun ob hob => by simp at hob; subst hob; trivial))
          rcases srcD_spec hsc with ⟨_, rfl⟩ | ⟨o, es, _, rfl, hd⟩
          · exact VarEq.refl _
          · have hob : ∃ ob, σ.h[o]? = some ob ∧ ob.isArrD z es := by
              unfold deepOf at hd
              split at hd
              · rename_i z' es' ho
                split at hd
                · cases hd; exact ⟨_, ho, .inl rfl⟩
                · cases hd
              · rename_i z' es' ho; cases hd; exact ⟨_, ho, .inr rfl⟩
              · cases hd
            obtain ⟨ob, ho, hD⟩ := hob
            rcases HLe.freezeLs (y.ev σ).cells σ.h o ob ho (by rcases hD with rfl | rfl <;> simp) with e1 | ⟨z', es', _, e1⟩
            · exact VarEq.setArr e1 hD trivial
            · simp only [srcDead]
              intro i x q
              by_cases hi : o = i
              · subst hi
                rw [List.getElem?_set_self (List.getElem?_eq_some_iff.1 e1).1, e1]
                constructor
                · intro e; cases e; exact q.elim
                · intro e; cases e; exact q.elim
              · rw [List.getElem?_set_ne hi]
        · cases he
  | callC f as =>
    have th : ∀ (h : List AObj) (r : V), VarEq h (thaw h r).2 := fun h r => by
      obtain ⟨l, e, ha⟩ := thaw_app h r
      rw [e]
      exact VarEq.app ha
    simp only [eop] at he
    split at he
    · split at he
      · rename_i r _
        have he' := Option.some.inj he
        have e2 := congrArg Prod.snd he'
        simp only at e2
        rw [← e2]
        refine VarEq.trans ?_ (th _ _)
        split
        · exact VarEq.refl _
        · exact VarEq.freezeVs _ _
      · cases he
    · cases he
  | _ => simp [AOp.arrT] at hc
theorem eff_varEq {x : AOper} (hc : x.op.arrT = true) {σ : St} {h' : List AObj} {v : V} (e : eff call x σ = some (v, h')) : VarEq σ.h h' := by
  unfold eff at e
  split at e
  · split at e
    · cases e; exact VarEq.refl _
    · exact eop_varEq hc e
  · cases e; exact VarEq.refl _
  · cases e
theorem isVar_eq {h h' : List AObj} (k : VarEq h h') (v : V) : isVar h v = isVar h' v := by
  cases v with
  | one l =>
    cases l with
    | ptr o i j =>
      simp only [isVar]
      cases e1 : h[o]? with
      | none =>
        cases e2 : h'[o]? with
        | none => rfl
        | some ob' =>
          cases ob' with
          | box cs => rw [(k o _ trivial).2 e2] at e1; cases e1
          | fbox cs => rw [(k o _ trivial).2 e2] at e1; cases e1
          | _ => rfl
      | some ob =>
        cases ob with
        | box cs => rw [(k o _ trivial).1 e1]
        | fbox cs => rw [(k o _ trivial).1 e1]
        | _ =>
          cases e2 : h'[o]? with
          | none => rfl
          | some ob' =>
            cases ob' with
            | box cs => rw [(k o _ trivial).2 e2] at e1; cases e1
            | fbox cs => rw [(k o _ trivial).2 e2] at e1; cases e1
            | _ => rfl
    | _ => rfl
  | _ => rfl
theorem loadV_var {h h' : List AObj} (k : VarEq h h') {g : Bool} {n : Nat} (v : V) (q : isVar h v = true) : loadV h g n v = loadV h' g n v := by
  unfold isVar at q
  split at q
  · rename_i o i j
    split at q
    · rename_i cs e1
      simp only [loadV, e1, (k o _ trivial).1 e1]
    · rename_i cs e1
      simp only [loadV, e1, (k o _ trivial).1 e1]
    · cases q
  · rfl
  · cases q
theorem loadB_eq {h h' : List AObj} (k : VarEq h h') {g : Bool} {n : Nat} (v : V) : (if isVar h v then loadV h g n v else none) = (if isVar h' v then loadV h' g n v else none) := by
  by_cases q : isVar h v = true
  · rw [if_pos q, if_pos (by rw [← isVar_eq k]; exact q), loadV_var k v q]
  · rw [if_neg q, if_neg (by rw [← isVar_eq k]; exact q)]
theorem eff_isLB {x : AOper} (hc : x.op.isLB = true) {t : List V} {h h1 h' : List AObj} (k : VarEq h h') {v : V} (e : eff call x ⟨t, h⟩ = some (v, h1)) : h1 = h ∧ eff call x ⟨t, h'⟩ = some (v, h') := by
  unfold eff at e ⊢
  rw [wants_h (h := h') (h' := h)]
  have hf : fop call ⟨t, h⟩ x.op = fop call ⟨t, h'⟩ x.op ∧ ∀ s, eop call s x.op = none := by
    cases hx : x.op with
    | loadB g n a =>
      refine ⟨?_, fun _ => rfl⟩
      simp only [fop]
      rw [ev_h (h := h) (h' := h')]
      exact loadB_eq k _
    | _ => rw [hx] at hc; cases hc
  split at e
  · rw [← hf.1]
    split at e
    · cases e; exact ⟨rfl, rfl⟩
    · rw [hf.2] at e; cases e
  · cases e; exact ⟨rfl, rfl⟩
  · cases e
/-- The arrays are the same (the variables may hold something else). -/
def ArrEq (h h' : List AObj) : Prop := ∀ (o : Nat) (ob ob' : AObj), h[o]? = some ob → h'[o]? = some ob' → ob = ob' ∨ ((∃ cs, ob = .box cs) ∧ ∃ cs, ob' = .box cs)
theorem storeB_set {h h' : List AObj} {n : Nat} {a v : V} (q : isVar h a = true) (e : storeV h n a v = some h') : ∃ o cs cs', h[o]? = some (.box cs) ∧ h' = h.set o (.box cs') := by
  simp only [storeV] at e
  split at e
  · split at e
    · rename_i o i j
      split at e
      · rename_i cs ho
        split at e
        · cases e; exact ⟨o, cs, _, ho, rfl⟩
        · cases e
      · rename_i z es ho
        simp [isVar, ho] at q
      · cases e
    · cases e
  · cases e
theorem get_set_box {h : List AObj} {o : Nat} {cs cs' : List L} (ho : h[o]? = some (.box cs)) (i : Nat) : (h.set o (.box cs'))[i]? = h[i]? ∨ (h[i]? = some (.box cs) ∧ (h.set o (.box cs'))[i]? = some (.box cs')) := by
  by_cases e : o = i
  · subst e
    exact .inr ⟨ho, List.getElem?_set_self (List.getElem?_eq_some_iff.1 ho).1⟩
  · exact .inl (List.getElem?_set_ne e)
theorem isVar_box {h : List AObj} {o : Nat} {cs cs' : List L} (ho : h[o]? = some (.box cs)) (v : V) : isVar (h.set o (.box cs')) v = isVar h v := by
  cases v with
  | one l =>
    cases l with
    | ptr i a b =>
      simp only [isVar]
      rcases get_set_box (cs' := cs') ho i with e | ⟨e1, e2⟩
      · rw [e]
      · rw [e1, e2]
    | _ => rfl
  | _ => rfl
theorem loadA_box {h : List AObj} {o : Nat} {cs cs' : List L} (ho : h[o]? = some (.box cs)) {g : Bool} {n : Nat} (v : V) : (if isVar (h.set o (.box cs')) v then none else loadV (h.set o (.box cs')) g n v) = (if isVar h v then none else loadV h g n v) := by
  rw [isVar_box ho]
  by_cases q : isVar h v = true
  · rw [if_pos q, if_pos q]
  · rw [if_neg q, if_neg q]
    cases v with
    | one l =>
      cases l with
      | ptr i a b =>
        simp only [loadV]
        rcases get_set_box (cs' := cs') ho i with e | ⟨e1, e2⟩
        · rw [e]
        · simp [isVar, e1] at q
      | _ => rfl
    | _ => rfl
theorem elemPtr_box {h : List AObj} {o : Nat} {cs cs' : List L} (ho : h[o]? = some (.box cs)) {z : Nat} (x : V) (i : Nat) : elemPtr (h.set o (.box cs')) z x i = elemPtr h z x i := by
  cases x with
  | one l =>
    cases l with
    | arr q =>
      simp only [elemPtr]
      rcases get_set_box (cs' := cs') ho q with e | ⟨e1, e2⟩
      · rw [e]
      · rw [e1, e2]
    | pv p => cases p <;> rfl
    | _ => rfl
  | _ => rfl
/-- What looks at arrays alone sees nothing of a store to a variable. -/
theorem eff_isAR {x : AOper} (hc : x.op.isAR = true) {t : List V} {h : List AObj} {o : Nat} {cs cs' : List L} (ho : h[o]? = some (.box cs)) : eff call x ⟨t, h.set o (.box cs')⟩ = (eff call x ⟨t, h⟩).map fun y => (y.1, h.set o (.box cs')) := by
  have hf : fop call ⟨t, h.set o (.box cs')⟩ x.op = fop call ⟨t, h⟩ x.op ∧ ∀ s, eop call s x.op = none := by
    cases hx : x.op with
    | loadA g n a =>
      refine ⟨?_, fun _ => rfl⟩
      simp only [fop]
      rw [ev_h (h := h.set o (.box cs')) (h' := h)]
      exact loadA_box ho _
    | indexA z a i =>
      refine ⟨?_, fun _ => rfl⟩
      simp only [fop]
      rw [ev_h (x := a) (h := h.set o (.box cs')) (h' := h), ev_h (x := i) (h := h.set o (.box cs')) (h' := h)]
      simp only [elemPtr_box ho]
    | _ => rw [hx] at hc; cases hc
  unfold eff
  rw [wants_h (h := h.set o (.box cs')) (h' := h)]
  cases wants ⟨t, h⟩ x.guard with
  | none => rfl
  | some b =>
    cases b with
    | false => rfl
    | true =>
      simp only
      rw [hf.1, hf.2, hf.2]
      cases fop call ⟨t, h⟩ x.op <;> rfl
theorem eff_isAR_same {x : AOper} (hc : x.op.isAR = true) {t : List V} {h h1 : List AObj} {v : V} (e : eff call x ⟨t, h⟩ = some (v, h1)) : h1 = h := by
  have he : ∀ s, eop call s x.op = none := by
    cases hx : x.op with
    | loadA g n a => exact fun _ => rfl
    | indexA z a i => exact fun _ => rfl
    | _ => rw [hx] at hc; cases hc
  unfold eff at e
  split at e
  · split at e
    · cases e; rfl
    · rw [he] at e; cases e
  · cases e; rfl
  · cases e
theorem eff_isSB {x : AOper} (hc : x.op.isSB = true) {t : List V} {h h1 : List AObj} {v : V} (e : eff call x ⟨t, h⟩ = some (v, h1)) : h1 = h ∨ ∃ o cs cs', h[o]? = some (.box cs) ∧ h1 = h.set o (.box cs') := by
  cases hx : x.op with
  | storeB n a y =>
    unfold eff at e
    rw [hx] at e
    split at e
    · split at e
      · rename_i hf; cases hf
      · simp only [eop] at e
        split at e
        · rename_i hq
          split at e
          · rename_i h2 hs
            cases e
            exact .inr (storeB_set hq hs)
          · cases e
        · cases e
    · cases e; exact .inl rfl
    · cases e
  | _ => rw [hx] at hc; cases hc
/-- A store to a variable that nobody reads. -/
theorem eff_isST {x : AOper} (hc : x.op.isST = true) {t : List V} {h h1 h' : List AObj} {v : V} (e : eff call x ⟨t, h⟩ = some (v, h1)) : h1 = h ∧ eff call x ⟨t, h'⟩ = some (v, h') := by
  cases hx : x.op with
  | storeT n a y =>
    unfold eff at e ⊢
    rw [wants_h (h := h') (h' := h)]
    rw [hx] at e ⊢
    split at e
    · split at e
      · rename_i hf; cases hf
      · simp only [eop] at e
        simp only [fop, eop]
        rw [ev_h (x := a) (h := h') (h' := h), ev_h (x := y) (h := h') (h' := h)]
        split at e
        · rename_i m hev
          split at e
          · rename_i hq
            cases e
            refine ⟨rfl, ?_⟩
            simp only [hev, if_pos hq]
          · cases e
        · cases e
    · cases e; exact ⟨rfl, rfl⟩
    · cases e
  | _ => rw [hx] at hc; cases hc
theorem eff_allocT {x : AOper} {n : Nat} (hx : x.op = .allocT n) {t : List V} {h : List AObj} : (∀ h', eff call x ⟨t, h'⟩ = some (.one (.tp n), h' ++ [.tbox n])) ∨ (∀ h', eff call x ⟨t, h'⟩ = some (.tup [], h')) ∨ (∀ h', eff call x ⟨t, h'⟩ = none) := by
  have hw : ∀ h', wants ⟨t, h'⟩ x.guard = wants ⟨t, h⟩ x.guard := fun h' => wants_h
  cases q : wants ⟨t, h⟩ x.guard with
  | none => exact .inr (.inr fun h' => by unfold eff; rw [hw, q])
  | some b =>
    cases b with
    | true => exact .inl fun h' => by unfold eff; rw [hw, q, hx]; rfl
    | false => exact .inr (.inl fun h' => by unfold eff; rw [hw, q])
/-! A place that is kept: an append leaves it alone. -/
theorem deepOf_res {h : List AObj} {i : Nat} {cs : List L} (hi : h[i]? = some .res) (o : Nat) : deepOf (h.set i (.box cs)) o = deepOf h o := by
  unfold deepOf
  by_cases q : i = o
  · subst q
    rw [List.getElem?_set_self (List.getElem?_eq_some_iff.1 hi).1, hi]
  · rw [List.getElem?_set_ne q]
theorem deepOf_ne {h : List AObj} {i o : Nat} {r : Nat × List (List PV)} (hi : h[i]? = some .res) (e : deepOf h o = some r) : o ≠ i := by
  rintro rfl
  simp [deepOf, hi] at e
theorem srcD_res {h : List AObj} {i z : Nat} {cs : List L} (hi : h[i]? = some .res) (v : V) : srcD (h.set i (.box cs)) z v = srcD h z v := by
  unfold srcD
  split <;> simp only [deepOf_res hi]
theorem ysD_res {h : List AObj} {i z : Nat} {cs : List L} (hi : h[i]? = some .res) (src : Option (Nat × List (List PV))) (v : V) : ysD (h.set i (.box cs)) z src v = ysD h z src v := by
  unfold ysD
  split <;> simp only [deepOf_res hi]
theorem freezeL_res {h : List AObj} {i : Nat} {cs : List L} (hi : h[i]? = some .res) (l : L) : freezeL (h.set i (.box cs)) l = (freezeL h l).set i (.box cs) ∧ (freezeL h l)[i]? = some .res := by
  have hlt := (List.getElem?_eq_some_iff.1 hi).1
  cases l with
  | arr o =>
    by_cases q : i = o
    · subst q
      simp only [freezeL, List.getElem?_set_self hlt, hi]
      exact ⟨trivial, trivial⟩
    · simp only [freezeL, List.getElem?_set_ne q]
      split
      · exact ⟨List.set_comm _ _ q, by rw [List.getElem?_set_ne (fun e => q e.symm)]; exact hi⟩
      · exact ⟨List.set_comm _ _ q, by rw [List.getElem?_set_ne (fun e => q e.symm)]; exact hi⟩
      · exact ⟨rfl, hi⟩
  | _ => exact ⟨rfl, hi⟩
theorem freezeLs_res {i : Nat} {cs : List L} : ∀ (ls : List L) {h : List AObj}, h[i]? = some .res → freezeLs (h.set i (.box cs)) ls = (freezeLs h ls).set i (.box cs) ∧ (freezeLs h ls)[i]? = some .res
  | [], h, hi => ⟨rfl, hi⟩
  | l :: ls, h, hi => by
    obtain ⟨e1, e2⟩ := freezeL_res (cs := cs) hi l
    obtain ⟨e3, e4⟩ := freezeLs_res (cs := cs) ls e2
    simp only [freezeLs, List.foldl_cons] at e3 e4 ⊢
    rw [e1]
    exact ⟨e3, e4⟩
theorem appendD_res {h : List AObj} {i z b : Nat} {x y : Opd} {t : List V} {cs : List L} (hi : h[i]? = some .res) : eop call ⟨t, h.set i (.box cs)⟩ (.appendD z b x y) = (eop call ⟨t, h⟩ (.appendD z b x y)).map (fun q => (q.1, q.2.set i (.box cs))) ∧
    ∀ q, eop call ⟨t, h⟩ (.appendD z b x y) = some q → q.2[i]? = some .res := by
  have hlt := (List.getElem?_eq_some_iff.1 hi).1
  simp only [eop]
  rw [ev_h (x := x) (h := h.set i (.box cs)) (h' := h), ev_h (x := y) (h := h.set i (.box cs)) (h' := h), srcD_res hi]
  cases hs : srcD h z (x.ev ⟨t, h⟩) with
  | none => exact ⟨rfl, fun q e => by cases e⟩
  | some src =>
    simp only [ysD_res hi]
    cases hy : ysD h z src (y.ev ⟨t, h⟩) with
    | none => exact ⟨rfl, fun q e => by cases e⟩
    | some ys =>
      simp only
      obtain ⟨f1, f2⟩ := freezeLs_res (cs := cs) (y.ev ⟨t, h⟩).cells hi
      have hfl : i < (freezeLs h (y.ev ⟨t, h⟩).cells).length := (List.getElem?_eq_some_iff.1 f2).1
      have g1 : srcDead src ((freezeLs h (y.ev ⟨t, h⟩).cells).set i (.box cs)) = (srcDead src (freezeLs h (y.ev ⟨t, h⟩).cells)).set i (.box cs) ∧ (srcDead src (freezeLs h (y.ev ⟨t, h⟩).cells))[i]? = some .res := by
        cases src with
        | none => exact ⟨rfl, f2⟩
        | some x0 =>
          have hne : x0.1 ≠ i := by
            unfold srcD at hs
            split at hs
            · cases hs
            · rename_i o _
              split at hs
              · rename_i z' es hd
                split at hs
                · cases hs
                  exact deepOf_ne hi hd
                · cases hs
              · cases hs
            · cases hs
          exact ⟨List.set_comm _ _ fun e => hne e.symm, by simp only [srcDead]; rw [List.getElem?_set_ne hne]; exact f2⟩
      have hgl : i < (srcDead src (freezeLs h (y.ev ⟨t, h⟩).cells)).length := (List.getElem?_eq_some_iff.1 g1.2).1
      rw [f1, g1.1]
      split
      · refine ⟨?_, fun q e => ?_⟩
        · simp only [Option.map_some, List.length_set]
          rw [List.set_append_left _ _ hgl]
        · cases e
          simp only
          rw [List.getElem?_append_left hgl]
          exact g1.2
      · exact ⟨rfl, fun q e => by cases e⟩
theorem eff_appD {x : AOper} {z b : Nat} {p q : Opd} (hx : x.op = .appendD z b p q) {t : List V} {h : List AObj} {i : Nat} {cs : List L} (hi : h[i]? = some .res) : eff call x ⟨t, h.set i (.box cs)⟩ = (eff call x ⟨t, h⟩).map (fun y => (y.1, y.2.set i (.box cs))) ∧ ∀ y, eff call x ⟨t, h⟩ = some y → y.2[i]? = some .res := by
  obtain ⟨e1, e2⟩ := appendD_res (call := call) (z := z) (b := b) (x := p) (y := q) (t := t) (cs := cs) hi
  unfold eff
  rw [wants_h (h := h.set i (.box cs)) (h' := h), hx]
  cases wants ⟨t, h⟩ x.guard with
  | none => exact ⟨rfl, fun y e => by cases e⟩
  | some w =>
    cases w with
    | true => simp only [fop]; exact ⟨e1, e2⟩
    | false => exact ⟨rfl, fun y e => by cases e; exact hi⟩
theorem freezeL_back {h : List AObj} {i : Nat} {l : L} (e : (freezeL h l)[i]? = some .res) : h[i]? = some .res := by
  cases l with
  | arr o =>
    simp only [freezeL] at e
    by_cases q : o = i
    · subst q
      split at e
      · rename_i ho; rw [List.getElem?_set_self (List.getElem?_eq_some_iff.1 ho).1] at e; cases e
      · rename_i ho; rw [List.getElem?_set_self (List.getElem?_eq_some_iff.1 ho).1] at e; cases e
      · exact e
    · split at e
      · rwa [List.getElem?_set_ne q] at e
      · rwa [List.getElem?_set_ne q] at e
      · exact e
  | _ => exact e
theorem freezeLs_back {i : Nat} : ∀ (ls : List L) {h : List AObj}, (freezeLs h ls)[i]? = some .res → h[i]? = some .res
  | [], h, e => e
  | l :: ls, h, e => freezeL_back (freezeLs_back ls (h := freezeL h l) e)
theorem eff_appD_back {x : AOper} {z b : Nat} {p q : Opd} (hx : x.op = .appendD z b p q) {t : List V} {h h1 : List AObj} {v : V} {i : Nat} (e : eff call x ⟨t, h⟩ = some (v, h1)) (hi : h1[i]? = some .res) : h[i]? = some .res := by
  unfold eff at e
  split at e
  · rw [hx] at e
    simp only [fop, eop] at e
    split at e
    · cases e
    · rename_i src hs
      split at e
      · cases e
      · split at e
        · cases e
          by_cases hl : i < (srcDead src (freezeLs h (q.ev ⟨t, h⟩).cells)).length
          · rw [List.getElem?_append_left hl] at hi
            refine freezeLs_back (q.ev ⟨t, h⟩).cells ?_
            cases src with
            | none => exact hi
            | some x0 =>
              simp only [srcDead] at hi hl ⊢
              by_cases hq : x0.1 = i
              · rw [List.length_set] at hl
                rw [hq, List.getElem?_set_self hl] at hi
                cases hi
              · rwa [List.getElem?_set_ne hq] at hi
          · rw [List.getElem?_append_right (by omega)] at hi
            cases hk : i - (srcDead src (freezeLs h (q.ev ⟨t, h⟩).cells)).length with
            | zero => rw [hk] at hi; simp at hi
            | succ n => rw [hk] at hi; simp at hi
        · cases e
  · cases e; exact hi
  · cases e
theorem eff_allocAt {x : AOper} {i : Nat} {zero : List L} (hx : x.op = .allocAt i zero) {t : List V} {h h1 : List AObj} {v : V} (e : eff call x ⟨t, h⟩ = some (v, h1)) :
    (h[i]? = some .res ∧ v = .one (.ptr i 0 0) ∧ h1 = h.set i (.box zero) ∧ ∀ h', h'[i]? = some .res → eff call x ⟨t, h'⟩ = some (v, h'.set i (.box zero))) ∨ (h1 = h ∧ ∀ h', eff call x ⟨t, h'⟩ = some (v, h')) := by
  have hw : ∀ h', wants ⟨t, h'⟩ x.guard = wants ⟨t, h⟩ x.guard := fun h' => wants_h
  cases q : wants ⟨t, h⟩ x.guard with
  | none => unfold eff at e; rw [q] at e; cases e
  | some b =>
    cases b with
    | true =>
      unfold eff at e
      rw [q, hx] at e
      simp only [fop, eop] at e
      split at e
      · rename_i hi
        cases e
        refine .inl ⟨hi, rfl, rfl, fun h' hi' => ?_⟩
        unfold eff
        rw [hw, q, hx]
        simp only [fop, eop, hi']
      · cases e
    | false =>
      unfold eff at e
      rw [q] at e
      cases e
      exact .inr ⟨rfl, fun h' => by unfold eff; rw [hw, q]⟩
/-- x first, then y: or y first, then x. -/
theorem commA_step {x y : AOper} (hc : commA x y = true) {σ σ1 σ2 : St} (h1 : stepO call x σ = some σ1) (h2 : stepO call y σ1 = some σ2) : ∃ σ3, stepO call y σ = some σ3 ∧ stepO call x σ3 = some σ2 := by
  obtain ⟨t, h⟩ := σ
  simp only [commA, Bool.and_eq_true, Bool.or_eq_true, beq_iff_eq, Nat.ble_eq] at hc
  obtain ⟨hap, hcc⟩ := hc
  rw [stepO_eff, Option.map_eq_some_iff] at h1 h2
  obtain ⟨⟨v, hv⟩, e1, rfl⟩ := h1
  obtain ⟨⟨u, hu⟩, e2, rfl⟩ := h2
  simp only at e1 e2
  rw [eff_put hap] at e2
  have fin : ∀ {h3 : List AObj}, eff call y ⟨t, h⟩ = some (u, h3) → eff call x ⟨t, h3⟩ = some (v, hu) → ∃ σ3, stepO call y ⟨t, h⟩ = some σ3 ∧ stepO call x σ3 = some ⟨put (put t x.dst v) y.dst u, hu⟩ := by
    intro h3 q1 q2
    refine ⟨⟨put t y.dst u, h3⟩, by rw [stepO_eff, q1]; rfl, ?_⟩
    rw [stepO_eff, eff_put (apartA_symm hap), q2, put_comm hap]
    rfl
  rcases hcc with (((((((((hx | hy) | ⟨hx, hy⟩) | ⟨hx, hy⟩) | ⟨hx, hy⟩) | ⟨hx, hy⟩) | ⟨hx, hy⟩) | hx) | hy) | hxy) | hxy
  · obtain ⟨rfl, _⟩ := eff_pure (h' := h) hx e1
    exact fin e2 (eff_pure hx e1).2
  · obtain ⟨rfl, q⟩ := eff_pure (h' := h) hy e2
    exact fin q e1
  · obtain ⟨rfl, _⟩ := eff_look hx (HLe.refl _) e1
    exact fin e2 (eff_look hx (eff_le hy e2) e1).2
  · obtain ⟨rfl, _⟩ := eff_isLB hx (VarEq.refl _) e1
    exact fin e2 (eff_isLB hx (eff_varEq hy e2) e1).2
  · obtain ⟨rfl, q⟩ := eff_isLB hy (eff_varEq hx e1).symm e2
    exact fin q e1
  · obtain rfl := eff_isAR_same hx e1
    refine fin e2 ?_
    rcases eff_isSB hy e2 with rfl | ⟨o, cs, cs', ho, rfl⟩
    · exact e1
    · rw [eff_isAR hx ho, e1]
      rfl
  · rcases eff_isSB hx e1 with rfl | ⟨o, cs, cs', ho, rfl⟩
    · obtain rfl := eff_isAR_same hy e2
      exact fin e2 e1
    · rw [eff_isAR hy ho, Option.map_eq_some_iff] at e2
      obtain ⟨⟨u', h3⟩, q1, q2⟩ := e2
      obtain rfl := eff_isAR_same hy q1
      cases q2
      exact fin q1 e1
  · obtain ⟨rfl, _⟩ := eff_isST (h' := h) hx e1
    exact fin e2 (eff_isST hx e1).2
  · obtain ⟨rfl, q⟩ := eff_isST (h' := h) hy e2
    exact fin q e1
  · unfold sameAT at hxy
    split at hxy
    · rename_i n m hx hy
      have hnm : n = m := by simpa using hxy
      subst hnm
      rcases eff_allocT (call := call) hx (t := t) (h := h) with p | p | p
      · rw [p] at e1
        cases e1
        rcases eff_allocT (call := call) hy (t := t) (h := h) with q | q | q
        · rw [q] at e2
          cases e2
          exact fin (q h) (p _)
        · rw [q] at e2
          cases e2
          exact fin (q h) (p _)
        · rw [q] at e2; cases e2
      · rw [p] at e1
        cases e1
        exact fin e2 (p _)
      · rw [p] at e1; cases e1
    · cases hxy
  · unfold resAD at hxy
    split at hxy
    · rename_i i zero z b p q hx hy
      rcases eff_allocAt hx e1 with ⟨hi, rfl, rfl, hall⟩ | ⟨rfl, hall⟩
      · obtain ⟨a1, a2⟩ := eff_appD (call := call) hy (t := t) (cs := zero) hi
        rw [a1, Option.map_eq_some_iff] at e2
        obtain ⟨⟨u', h3⟩, q1, q2⟩ := e2
        cases q2
        exact fin q1 (hall _ (a2 _ q1))
      · exact fin e2 (hall _)
    · rename_i z b p q i zero hx hy
      rcases eff_allocAt hy e2 with ⟨hi, rfl, rfl, hall⟩ | ⟨rfl, hall⟩
      · have hi0 : h[i]? = some .res := eff_appD_back hx e1 hi
        obtain ⟨a1, a2⟩ := eff_appD (call := call) hx (t := t) (cs := zero) hi0
        exact fin (hall _ hi0) (by rw [a1, e1]; rfl)
      · exact fin (hall _) e1
    · cases hxy

/-- i waits for k, at once or through others -/
inductive Anc (ops : Array Oper) (listed : Array Bool) (k : Nat) : Nat → Prop
  | dir {i : Nat} {o : Oper} {e : Edge} : ops[i]? = some o → e ∈ o.after → Region.binds .any e = true → listed.getD e.on true = false → e.on = k → Anc ops listed k i
  | via {i : Nat} {o : Oper} {e : Edge} : ops[i]? = some o → e ∈ o.after → Region.binds .any e = true → listed.getD e.on true = false → Anc ops listed k e.on → Anc ops listed k i
theorem ready_not_dep {ops : Array Oper} {listed : Array Bool} {j : Nat} (hj : j ∈ Region.ready .any ops listed) {o : Oper} {e : Edge} (ho : ops[j]? = some o) (he : e ∈ o.after) (hb : Region.binds .any e = true) (hu : listed.getD e.on true = false) : False := by
  obtain ⟨_, o', ho', hall⟩ := mem_ready.1 hj
  rw [ho] at ho'; cases ho'
  have h1 := hall e he hb
  rcases Nat.lt_or_ge e.on listed.size with h' | h'
  · simp [h'] at hu h1; rw [hu] at h1; cases h1
  · simp [Array.getElem?_eq_none h'] at h1
theorem ready_not_anc {ops : Array Oper} {listed : Array Bool} {k j : Nat} (hj : j ∈ Region.ready .any ops listed) (h : Anc ops listed k j) : False := by
  cases h with
  | dir ho he hb hu _ => exact ready_not_dep hj ho he hb hu
  | via ho he hb hu _ => exact ready_not_dep hj ho he hb hu
theorem anc_mono {ops : Array Oper} {listed : Array Bool} {k j : Nat} (hj : j ∈ Region.ready .any ops listed) (hjk : j ≠ k) {i : Nat} (h : Anc ops listed k i) : Anc ops (listed.setIfInBounds j true) k i := by
  induction h with
  | dir ho he hb hu hk => exact .dir ho he hb (by rw [hk] at hu ⊢; rw [getD_set_ne true hjk]; exact hu) hk
  | via ho he hb hu ha ih =>
    rename_i i o e
    by_cases q : j = e.on
    · exact (ready_not_anc (q ▸ hj) ha).elim
    · exact .via ho he hb (by rw [getD_set_ne true q]; exact hu) ih
theorem ancs_sound {ops : Array Oper} {listed : Array Bool} {k : Nat} : ∀ (l : List Oper) (acc : Array Bool), (∀ j, l[j]? = ops[acc.size + j]?) → (∀ i, acc.getD i false = true → Anc ops listed k i) → ∀ i, (ancs listed k l acc).getD i false = true → Anc ops listed k i
  | [], acc, _, ha, i, h => ha i h
  | o :: l, acc, hl, ha, i, h => by
    simp only [ancs] at h
    refine ancs_sound l _ (fun j => ?_) (fun i hi => ?_) i h
    · have := hl (j + 1)
      simp only [List.getElem?_cons_succ] at this
      rw [this, Array.size_push]
      congr 1
      omega
    · by_cases q : i < acc.size
      · refine ha i ?_
        simp only [Array.getD_eq_getD_getElem?] at hi ⊢
        rwa [Array.getElem?_push_lt q, ← Array.getElem?_eq_getElem q] at hi
      · by_cases q2 : i = acc.size
        · subst q2
          simp only [Array.getD_eq_getD_getElem?, Array.getElem?_push_size, Option.getD_some, Array.any_eq_true] at hi
          obtain ⟨x, hx, hq⟩ := hi
          simp only [Bool.and_eq_true, Bool.not_eq_true', Bool.or_eq_true, beq_iff_eq] at hq
          obtain ⟨⟨hb, hu⟩, hq⟩ := hq
          have ho : ops[acc.size]? = some o := by simpa using (hl 0).symm
          rcases hq with hk | hk
          · exact .dir ho (Array.getElem_mem hx) hb (by simpa using hu) hk
          · exact .via ho (Array.getElem_mem hx) hb (by simpa using hu) (ha _ (by simpa using hk))
        · rw [Array.getD_eq_getD_getElem?, Array.getElem?_eq_none (by simp; omega)] at hi
          simp at hi

/-- the run of one operation by its number -/
def stepN (call : Nat → List V → Option V) (oos : List AOper) (i : Nat) (σ : St) : Option St :=
  match oos[i]? with
  | none => some σ
  | some oo => stepO call oo σ
def runN' (call : Nat → List V → Option V) (oos : List AOper) : List Nat → St → Option St
  | [], σ => some σ
  | i :: l, σ => match stepN call oos i σ with
    | some σ' => runN' call oos l σ'
    | none => none

/-- whatever order is picked from here on ends in σ₁ -/
def aAny (call : Nat → List V → Option V) (ops : Array Oper) (oos : List AOper) (σ₁ : St) : Nat → Array Bool → St → Prop
  | 0, listed, σ => Region.ready .any ops listed = [] ∧ σ = σ₁
  | fuel + 1, listed, σ => (Region.ready .any ops listed = [] → σ = σ₁) ∧ ∀ i ∈ Region.ready .any ops listed, ∃ σ', stepN call oos i σ = some σ' ∧ aAny call ops oos σ₁ fuel (listed.setIfInBounds i true) σ'

theorem aAny_sound {ops : Array Oper} {oos : List AOper} {σ₁ : St} : ∀ (fuel t : Nat) (listed : Array Bool) (σ : St), aAny call ops oos σ₁ fuel listed σ → runN' call oos (Region.linearise.go .any ops fuel t listed []) σ = some σ₁ := by
  intro fuel
  induction fuel with
  | zero => intro t listed σ h; simpa [Region.linearise.go, runN'] using h.2
  | succ fuel ih =>
    intro t listed σ h
    obtain ⟨h₀, h₁⟩ := h
    simp only [Region.linearise.go]
    change runN' call oos (match (Region.ready .any ops listed)[t % (Region.ready .any ops listed).length]? with
      | some i => Region.linearise.go .any ops fuel (t / (Region.ready .any ops listed).length) (listed.setIfInBounds i true) [i]
      | none => [].reverse) σ = some σ₁
    cases hi : (Region.ready .any ops listed)[t % (Region.ready .any ops listed).length]? with
    | none =>
      have hnil : Region.ready .any ops listed = [] := by
        cases hr : Region.ready .any ops listed with
        | nil => rfl
        | cons x xs =>
          rw [hr] at hi
          have hlt : t % (x :: xs).length < (x :: xs).length := Nat.mod_lt _ (by simp)
          simp at hi
          simp at hlt
          omega
      simp [runN', h₀ hnil]
    | some i =>
      simp only []
      rw [linearise_go_acc, List.reverse_singleton, List.singleton_append]
      obtain ⟨σ', e1, e2⟩ := h₁ i (List.mem_of_getElem? hi)
      simp only [runN', e1]
      exact ih _ _ _ e2

theorem aAny_first {ops : Array Oper} {oos : List AOper} {σ₁ : St} (hlen : oos.length = ops.size) {i : Nat} {oi : AOper} (hi : oos[i]? = some oi) :
    ∀ (fuel : Nat) (listed : Array Bool) (σ σ' : St), (∀ j oj, oos[j]? = some oj → j ≠ i → listed.getD j true = false → ¬ Anc ops listed i j → commA oi oj = true) →
      i ∈ Region.ready .any ops listed → stepO call oi σ = some σ' → aAny call ops oos σ₁ fuel (listed.setIfInBounds i true) σ' → aAny call ops oos σ₁ (fuel + 1) listed σ := by
  have stepi : ∀ {σ σ' : St}, stepO call oi σ = some σ' → stepN call oos i σ = some σ' := fun {σ σ'} h => by
    simp only [stepN, hi, h]
  intro fuel
  induction fuel with
  | zero =>
    intro listed σ σ' _ hr hy H
    refine ⟨fun h => (by rw [h] at hr; cases hr), fun j hj => ?_⟩
    by_cases hji : j = i
    · subst hji; exact ⟨_, stepi hy, H⟩
    · have := ready_mono (md := .any) hj hji
      rw [H.1] at this
      cases this
  | succ fuel ih =>
    intro listed σ σ' hfree hr hy H
    refine ⟨fun h => (by rw [h] at hr; cases hr), fun j hj => ?_⟩
    by_cases hji : j = i
    · subst hji; exact ⟨_, stepi hy, H⟩
    · obtain ⟨σj, e1, e2⟩ := H.2 j (ready_mono hj hji)
      obtain ⟨hjun, o, ho, hall⟩ := mem_ready.1 hj
      have hjl : j < oos.length := by rw [hlen]; exact (Array.getElem?_eq_some_iff.1 ho).1
      have hoj : oos[j]? = some oos[j] := by simp [hjl]
      have hc := hfree j _ hoj hji hjun (fun h => ready_not_anc hj h)
      simp only [stepN, hoj] at e1
      obtain ⟨σ3, q1, q2⟩ := commA_step hc hy e1
      refine ⟨σ3, by simp only [stepN, hoj, q1], ?_⟩
      refine ih (listed.setIfInBounds j true) σ3 σj (fun k ok hk hki hun hno => ?_) (ready_mono hr (Ne.symm hji)) q2 ?_
      · refine hfree k ok hk hki ?_ (fun h => hno (anc_mono hj hji h))
        by_cases hjk : j = k
        · subst hjk; exact hjun
        · rw [getD_set_ne true hjk] at hun; exact hun
      · rw [Array.setIfInBounds_comm _ _ hji]
        exact e2

theorem free_spec {ops : Array Oper} {oos : List AOper} {listed : Array Bool} {k : Nat} {ok : AOper} (hk : oos[k]? = some ok) (h : freeA ops oos listed k = true) :
    ∀ j oj, oos[j]? = some oj → j ≠ k → listed.getD j true = false → ¬ Anc ops listed k j → commA ok oj = true := by
  intro j oj hj hne hun hw
  have hjl : j < oos.length := (List.getElem?_eq_some_iff.1 hj).1
  simp only [freeA, List.all_eq_true, List.mem_range] at h
  have := h j hjl
  have ha : (ancs listed k ops.toList #[]).getD j false = false := by
    cases q : (ancs listed k ops.toList #[]).getD j false with
    | false => rfl
    | true => exact (hw (ancs_sound ops.toList #[] (fun j => by simp) (fun i hi => by simp at hi) j q)).elim
  simp only [hk, hj, hun, ha, Bool.or_false, Bool.or_eq_true, beq_iff_eq, hne, false_or] at this
  exact this

theorem aAny_lex {ops : Array Oper} {oos : List AOper} {σ₁ : St} (hlen : oos.length = ops.size) : ∀ (l : List AOper) (k : Nat) (listed : Array Bool) (σ : St), (∀ j, l[j]? = oos[k + j]?) →
    lexFromA ops oos l.length k listed = true → execOps call l σ = some σ₁ → aAny call ops oos σ₁ l.length listed σ
  | [], _, _, _, _, hB, h => ⟨by simpa [lexFromA] using hB, by simpa [execOps] using h⟩
  | o :: l, k, listed, σ, hl, hB, h => by
    have h0 : oos[k]? = some o := by simpa using (hl 0).symm
    simp only [List.length_cons, lexFromA, Bool.and_eq_true] at hB
    obtain ⟨⟨hr, hf⟩, hB'⟩ := hB
    unfold execOps at h
    split at h
    · rename_i σ' he
      exact aAny_first hlen h0 l.length listed σ σ' (free_spec h0 hf) (by simpa using hr) he
        (aAny_lex hlen l (k + 1) _ _ (fun j => by have := hl (j + 1); simpa [Nat.add_assoc, Nat.add_comm 1 j] using this) hB' h)
    · cases h

theorem wpOps_sound (ok : CallOK Γ P kf call) {ops : Array Oper} {d : Md} {oos : List AOper} (hc : optM (cOper P kf d ops) ops.toList = some oos) {Q : Exit → Act → World → Prop} : ∀ {l : List Nat} {σ σ' : St} {a : Act} {w : World} {ρ : List (Option Nat)}, SX Γ z O base w0 ρ0 h0 σ a w ρ → (z = true → ∀ oo ∈ oos, oo.op.noZ = true) →
    runN' call oos l σ = some σ' → (∀ a' w' ρ', SX Γ z O base w0 ρ0 h0 σ' a' w' ρ' → Q .normal a' w') → wpOps P ops Q l a w
  | [], σ, σ', a, w, ρ, s, hz, he, hQ => by
    simp [runN'] at he; subst he
    exact hQ a w ρ s
  | i :: l, σ, σ', a, w, ρ, s, hz, he, hQ => by
    simp only [runN'] at he
    split at he
    · rename_i σ1 he1
      rw [wpOps_cons]
      unfold wpOp
      cases ho : ops[i]? with
      | none =>
        have : oos[i]? = none := by
          have hl := optM_len hc
          have : ¬ i < ops.size := by intro hlt; simp [hlt] at ho
          exact List.getElem?_eq_none (by rw [hl]; simp; omega)
        simp only [stepN, this] at he1
        cases he1
        exact wpOps_sound ok hc s hz he hQ
      | some o =>
        obtain ⟨oo, hoo, hco⟩ := optM_at hc i o (by simpa using ho)
        simp only [stepN, hoo] at he1
        have key := stepX_sound (Q := Q) ok s (fun h => hz h oo (List.mem_of_getElem? hoo)) hco he1 (K := wpOps P ops Q l) (fun a' w' ρ' s' => wpOps_sound ok hc s' hz he hQ)
        simp only
        split
        · rename_i hw; rw [if_pos hw] at key; exact .inl key
        · rename_i hw; rw [if_neg hw] at key; exact key
    · cases he

theorem drawn_SR (s : SR Γ M0 base σ a w ρ) : SR Γ M0 base σ a { w with drawn := w.drawn + 1 } ρ := by
  obtain ⟨k1, c1⟩ := s.hr.world (w' := { w with drawn := w.drawn + 1 }) (Nat.le_refl _) (fun _ _ => rfl)
  exact ⟨k1, s.fr.ch c1, Γ.keep _ _ s.inv ⟨rfl, rfl, rfl, Nat.le_refl _, fun _ _ => rfl⟩, s.b0⟩
theorem drawn_SX (s : SX Γ z O base w0 ρ0 h0 σ a w ρ) : SX Γ z O base w0 ρ0 h0 σ a { w with drawn := w.drawn + 1 } ρ := by
  obtain ⟨M0, i1, i2, s1, b1, c1⟩ := s
  obtain ⟨_, c2⟩ := s1.hr.world (w' := { w with drawn := w.drawn + 1 }) (Nat.le_refl _) (fun _ _ => rfl)
  exact ⟨M0, i1, i2, drawn_SR s1, b1.trans ⟨rfl, rfl, rfl, Nat.le_refl _, fun _ _ => rfl⟩, c1.trans c2⟩

/-! ### Code -/
/-- What the end of a piece of code must give. -/
def QE [KF] (Γ : Ctx) (z : Bool) (O : Nat → Prop) (base : Nat) (w0 : World) (ρ0 : List (Option Nat)) (h0 : List AObj) (e : Ex) (σ' : St) (Q : Exit → Act → World → Prop) : Prop :=
  ∀ a' w' ρ', SX Γ z O base w0 ρ0 h0 σ' a' w' ρ' → Q (match e with | .normal => .normal | .exit id => .exit id | .ret => .ret) a' w'

theorem code_sound (ok : CallOK Γ P kf call) (hm : P.follows .mixedOrders = true) (n : Nat) {dt dp zn : Bool} {zl tr : List Nat} : ∀ (c : Code) {ac : ACode} {σ σ' : St} {e : Ex} {a : Act} {w : World} {ρ : List (Option Nat)} {Q : Exit → Act → World → Prop}, cCode P kf dt dp zn zl tr c = some ac → (z = true → ac.noZ = true) →
    exec call (loopN n) ac σ = some (e, σ') → SX Γ z O base w0 ρ0 h0 σ a w ρ → QE Γ z O base w0 ρ0 h0 e σ' Q → c.wp P Q a w := by
  intro c
  induction c with
  | skip =>
    intro ac σ σ' e a w ρ Q hc hz he s hQ
    cases hc
    simp only [exec] at he; cases he
    exact wp_skip (hQ a w ρ s)
  | region id ops draw =>
    intro ac σ σ' e a w ρ Q hc hz he s hQ
    simp only [cCode] at hc
    split at hc
    · rename_i oos hoos
      have hrun : ∀ {oos : List AOper} {σ2}, exec call (loopN n) (.region oos) σ = some (e, σ2) → execOps call oos σ = some σ2 ∧ e = .normal := by
        intro oos σ2 h
        simp only [exec] at h
        split at h
        · rename_i σ3 h3; cases h; exact ⟨h3, rfl⟩
        · cases h
      have drw : ∀ {md : Md} {oos : List AOper}, optM (cOper P kf md ops) ops.toList = some oos → lexFromA ops oos ops.size 0 (Array.replicate ops.size false) = true → ∀ {σ2}, execOps call oos σ = some σ2 →
          (z = true → (ACode.region oos).noZ = true) → QE Γ z O base w0 ρ0 h0 .normal σ2 Q → (Code.region id ops true).wp P Q a w := by
        intro md oos hoos hchk σ2 hx hz hQ
        have hlen : oos.length = ops.size := by rw [optM_len hoos]; simp
        refine wp_region_draw fun t => ?_
        simp only [Region.schedule, hm, Bool.true_or, if_true]
        have hany := aAny_lex hlen oos 0 (Array.replicate ops.size false) σ (by simp) (by rw [hlen]; exact hchk) hx
        rw [hlen] at hany
        have hr := aAny_sound ops.size t _ σ hany
        exact wpOps_sound ok hoos (drawn_SX s) (fun h => List.all_eq_true.1 (hz h)) hr hQ
      split at hc
      · rename_i hd
        subst hd
        split at hc
        · rename_i hchk
          cases hc
          obtain ⟨hx, rfl⟩ := hrun he
          exact drw hoos hchk hx hz hQ
        · split at hc
          · rename_i oos' oos2 hoos' hoos2
            split at hc
            · rename_i hchk
              cases hc
              obtain ⟨hx, rfl⟩ := hrun he
              exact drw hoos' hchk hx hz hQ
            · split at hc
              · rename_i hchk
                cases hc
                obtain ⟨hx, rfl⟩ := hrun he
                exact drw hoos2 hchk hx hz hQ
              · cases hc
          · cases hc
      · rename_i hd
        cases hc
        obtain ⟨hx, rfl⟩ := hrun he
        have : draw = false := by simpa using hd
        subst this
        exact wp_region_list (ops_sound ok s (fun h => List.all_eq_true.1 (hz h)) hoos hx hQ)
    · cases hc
  | seq x y ihx ihy =>
    intro ac σ σ' e a w ρ Q hc hz he s hQ
    simp only [cCode] at hc
    split at hc
    · rename_i ax ay hx hy
      cases hc
      simp only [exec] at he
      refine wp_seq ?_
      split at he
      · rename_i σ1 he1
        exact ihx hx (fun h => (Bool.and_eq_true _ _ ▸ hz h).1) he1 s (fun a' w' ρ' s' => ihy hy (fun h => (Bool.and_eq_true _ _ ▸ hz h).2) he s' hQ)
      · rename_i hne
        refine ihx hx (fun h => (Bool.and_eq_true _ _ ▸ hz h).1) he s (fun a' w' ρ' s' => ?_)
        cases e with
        | normal => exact absurd he (hne σ')
        | exit id => exact hQ a' w' ρ' s'
        | ret => exact hQ a' w' ρ' s'
    · cases hc
  | cond c x y ihx ihy =>
    intro ac σ σ' e a w ρ Q hc hz he s hQ
    simp only [cCode] at hc
    split at hc
    · rename_i oc ax ay h1 hx hy
      cases hc
      simp only [exec] at he
      split at he
      · rename_i t ht
        have hb : a.eval c = .bool t := by
          obtain ⟨M0, _, _, s1, _, _⟩ := s
          exact (opd_sound s1 h1).bool ht
        refine wp_cond hb ?_
        cases t with
        | true => exact ihx hx (fun h => (Bool.and_eq_true _ _ ▸ hz h).1) he s hQ
        | false => exact ihy hy (fun h => (Bool.and_eq_true _ _ ▸ hz h).2) he s hQ
      · cases he
    · cases hc
  | block id c ih =>
    intro ac σ σ' e a w ρ Q hc hz he s hQ
    simp only [cCode, Option.map_eq_some_iff] at hc
    obtain ⟨ax, hx, rfl⟩ := hc
    simp only [exec] at he
    refine wp_block ?_
    split at he
    · rename_i i σ1 he1
      refine ih hx hz he1 s (fun a' w' ρ' s' => ?_)
      simp only [Exit.inBlock]
      split at he
      · rename_i e1; cases he; rw [if_pos e1]; exact hQ a' w' ρ' s'
      · rename_i e1; cases he; rw [if_neg e1]; exact hQ a' w' ρ' s'
    · rename_i hne
      refine ih hx hz he s (fun a' w' ρ' s' => ?_)
      cases e with
      | normal => exact hQ a' w' ρ' s'
      | exit i => exact absurd he (hne i σ')
      | ret => exact hQ a' w' ρ' s'
  | loop c ih =>
    intro ac σ σ' e a w ρ Q hc hz he s hQ
    simp only [cCode, Option.map_eq_some_iff] at hc
    obtain ⟨ax, hx, rfl⟩ := hc
    simp only [exec] at he
    refine wp_loop_ghost (fun k a1 w1 => ∃ σ1 ρ1, SX Γ z O base w0 ρ0 h0 σ1 a1 w1 ρ1 ∧ loopN k (exec call (loopN n) ax) σ1 = some (e, σ')) n ⟨σ, ρ, s, he⟩ ?_
    intro k a1 w1 ⟨σ1, ρ1, s1, he1⟩
    cases k with
    | zero => simp [loopN] at he1
    | succ k =>
      simp only [loopN] at he1
      split at he1
      · rename_i σ2 he2
        refine ih hx hz he2 s1 (fun a' w' ρ' s' => ?_)
        exact ⟨k, Nat.lt_succ_self k, σ2, ρ', s', he1⟩
      · rename_i hne
        refine ih hx hz he1 s1 (fun a' w' ρ' s' => ?_)
        cases e with
        | normal => exact absurd he1 (hne σ')
        | exit id => exact hQ a' w' ρ' s'
        | ret => exact hQ a' w' ρ' s'
  | exit id =>
    intro ac σ σ' e a w ρ Q hc hz he s hQ
    cases hc
    simp only [exec] at he; cases he
    exact wp_exit (hQ a w ρ s)
  | ret =>
    intro ac σ σ' e a w ρ Q hc hz he s hQ
    cases hc
    simp only [exec] at he; cases he
    exact wp_ret (hQ a w ρ s)
  | _ =>
    intro ac σ σ' e a w ρ Q hc
    cases hc

/-- The program's functions are the table's; of those that stand beside it the contract is known. -/
structure Impl [KI : KF] (Γ : Ctx) (P : Program) (kf : FuncId → Option Nat) (Φ : Nat → Option AFn) (ext : Nat → List V → Option V) : Prop where
  prog : KI.pr = P
  mixed : P.follows .mixedOrders = true
  fns : ∀ f k, kf f = some k → (∃ fn af, P.funcs[f]? = some fn ∧ cFn P kf fn = some af ∧ Φ k = some af) ∨
    (Φ k = none ∧ (∃ fn, P.funcs[f]? = some fn ∧ fn.body.isNone = false ∧ (fn.name == "runtime.NumGoroutine") = false) ∧ ∀ as r, ext k as = some r → Sound Γ P f as r)
  small : ∀ f k, kf f = some k → k < modK ∧ Φ (k + modK) = none
  ins : ∀ f k fn t e z b, kf f = some k → P.funcs[f]? = some fn → fn.origin = "slices.Insert" → fn.params.toList.head? = some t → elemT P t = some e → szT P e = some z → byT P e = some b → InsOK P f z b

theorem Impl.there {Φ : Nat → Option AFn} {ext : Nat → List V → Option V} (im : Impl Γ P kf Φ ext) : ∀ f k, kf f = some k → ∃ fn, P.funcs[f]? = some fn ∧ fn.body.isNone = false ∧ (fn.name == "runtime.NumGoroutine") = false := by
  intro f k hk
  rcases im.fns f k hk with ⟨fn, af, h1, h2, h3⟩ | ⟨_, h, _⟩
  · refine ⟨fn, h1, ?_, ?_⟩
    · unfold cFn at h2
      split at h2
      · rename_i c hb; rw [hb]; rfl
      · cases h2
    · unfold cFn at h2
      split at h2
      · split at h2
        · split at h2
          · cases h2
          · rename_i hn; simpa using hn
        · cases h2
      · cases h2
  · exact h

theorem LR.weak {M M' : Nat → Prop} {h : List AObj} (mu : ∀ b, M' b → M b) {l : L} {v : Value} (r : LR M w ρ h l v) : LR M' w ρ h l v :=
  r.ch (M' := M') ⟨⟨Nat.le_refl _, fun b _ hm => mu b hm, fun _ _ _ => rfl⟩, fun _ cur hr => ⟨cur, hr, rfl⟩, fun _ _ ob hr ho _ => ⟨ob, hr, ho, Sim.refl ob⟩, fun _ _ _ _ _ _ _ _ _ h => h⟩
theorem VR.weak {M M' : Nat → Prop} {h : List AObj} (mu : ∀ b, M' b → M b) {x : V} {v : Value} (r : VR M w ρ h x v) : VR M' w ρ h x v :=
  r.ch (M' := M') ⟨⟨Nat.le_refl _, fun b _ hm => mu b hm, fun _ _ _ => rfl⟩, fun _ cur hr => ⟨cur, hr, rfl⟩, fun _ _ ob hr ho _ => ⟨ob, hr, ho, Sim.refl ob⟩, fun _ _ _ _ _ _ _ _ _ h => h⟩
/-- Less may be written. -/
theorem ResR.less {M M' : Nat → Prop} {b0 : Nat} {r : V} {v : Value} (hM : ∀ b, M b → M' b) (rr : ResR M' b0 w r v) : ResR M b0 w r v := by
  obtain ⟨ρr, k, vr⟩ := rr
  have mu : ∀ b, Mu M ρr (thaw [] r).2 b → Mu M' ρr (thaw [] r).2 b := fun b hm => hm.elim (fun h => .inl (hM b h)) .inr
  obtain ⟨κ, d, n⟩ := k.deep
  have C : Ch (Mu M' ρr (thaw [] r).2) (Mu M ρr (thaw [] r).2) w w ρr ρr (thaw [] r).2 (thaw [] r).2 := ⟨⟨Nat.le_refl _, fun b _ hm => mu b hm, fun _ _ _ => rfl⟩, fun _ cur hr => ⟨cur, hr, rfl⟩, fun _ _ ob hr ho _ => ⟨ob, hr, ho, Sim.refl ob⟩, fun _ _ _ _ _ _ _ _ _ h => h⟩
  refine ⟨ρr, ⟨⟨k.len, fun b hm => k.old b (hM b hm), k.le, fun o ob q ho hq => (k.objs o ob q ho hq).keep C (fun _ _ _ => rfl), k.apart⟩, κ, d, n.new, fun b o c τ z es e ho => ?_⟩, vr.weak mu⟩
  exact (thaw_arr r _ (List.mem_of_getElem? ho)).elim

theorem startM_sound {M0 : Nat → Prop} {fn : AFn} {as : List V} {vals : Array Value} (hG : Γ.G w) (hB : Γ.B0 ≤ base) (k : HR M0 base w ρ ((thawA [] as).2.map AObj.zone)) (hl : (thawA [] as).1.length = vals.size) (hal : as.length = vals.size)
    (hv : ∀ (i : Nat) (x : V) (u : Value), (thawA [] as).1[i]? = some x → vals.toList[i]? = some u → VR (Mu M0 ρ ((thawA [] as).2.map AObj.zone)) w ρ ((thawA [] as).2.map AObj.zone) x u) :
    SR Γ M0 base (startM fn as) { tmps := vals ++ Array.replicate (fn.ntmps - vals.size) undef, defers := [] } w ρ := by
  refine ⟨k, ⟨rfl, by simp [startM, hl, hal], fun i v u hx hu => ?_⟩, hG, hB⟩
  simp only [startM] at hx
  by_cases hi : i < (thawA [] as).1.length
  · rw [List.getElem?_append_left hi] at hx
    rw [Array.getElem?_append_left (by omega)] at hu
    exact hv i v u hx (by simpa using hu)
  · rw [List.getElem?_append_right (by omega)] at hx
    rw [Array.getElem?_append_right (by omega)] at hu
    have e1 : v = .tup [] := by
      have := (List.getElem?_eq_some_iff.1 hx).2
      simp at this; exact this.symm
    have e2 : u = undef := by
      have := (Array.getElem?_eq_some_iff.1 hu).2
      simp at this; exact this.symm
    rw [e1, e2]
    exact VR.undef
theorem thawA_len : ∀ (vs : List V) (h : List AObj), (thawA h vs).1.length = vs.length
  | [], h => rfl
  | v :: vs, h => by simp only [thawA, List.length_cons, thawA_len vs]
theorem outsOf_zarr : ∀ {h : List AObj} {os : List (Bool × List L)}, outsOf h = some os → ∀ ob ∈ h, ∃ z es, ob = .zarr z es
  | [], os, e, ob, hm => by cases hm
  | x :: h, os, e, ob, hm => by
    unfold outsOf at e
    split at e
    · rename_i h2; cases h2
    · rename_i z es h' h2
      cases h2
      split at e
      · rename_i xs hxs
        rcases List.mem_cons.1 hm with rfl | hm
        · exact ⟨z, es, rfl⟩
        · exact outsOf_zarr hxs ob hm
      · cases e
    · cases e

/-- The first objects alone. -/
theorem HR.first {h' : List AObj} {ρ' : List (Option Nat)} (k : HR M0 base w ρ' h') {m : Nat} {os : List (Bool × List L)} (ho : outsOf (h'.take m) = some os) : HR M0 base w (ρ'.take m) (h'.take m) := by
  obtain ⟨κ, d, n⟩ := k.deep
  have get : ∀ {i : Nat} {x : AObj}, (h'.take m)[i]? = some x → h'[i]? = some x := fun {i x} e => by
    rw [List.getElem?_take] at e
    split at e
    · exact e
    · cases e
  have getr : ∀ {i : Nat} {x : Option Nat}, (ρ'.take m)[i]? = some x → ρ'[i]? = some x := fun {i x} e => by
    rw [List.getElem?_take] at e
    split at e
    · exact e
    · cases e
  refine ⟨⟨by simp [k.len], fun b hm => ⟨(k.old b hm).1, fun i x hi hx hr => (k.old b hm).2 i x (get hi) hx (getr hr)⟩, k.le, fun i x r hi hr => ?_, fun i i' x x' b h1 h2 m1 m2 r1 r2 => k.apart i i' x x' b (get h1) (get h2) m1 m2 (getr r1) (getr r2)⟩,
    κ, ⟨fun i x b hi hx hr => d.root i x b (get hi) hx (getr hr), fun i x z es b hi hd hr => d.tree i x z es b (get hi) hd (getr hr)⟩, n.new, fun b o c τ z es e hi => n.zone b o c τ z es e (get hi)⟩
  obtain ⟨z, es, rfl⟩ := outsOf_zarr ho x (List.mem_of_getElem? hi)
  exact k.objs i _ r (get hi) (getr hr)

theorem finish_clean {σ' : St} {rs : List ARes} {r : V} (hfin : finish σ' rs = some r) : r.clean = true := by
  unfold finish at hfin
  split at hfin
  · cases hfin
  · split at hfin
    · rename_i xs _ _
      have cl : ∀ {ys}, comps σ'.h xs = some ys → (ys.all fun x => x.2.all L.clean) = true := fun h => (comps_thaw xs _ [] h).1
      split at hfin
      · rename_i ls hys; cases hfin; simpa [V.clean] using cl hys
      · rename_i l hys; cases hfin; simpa [V.clean] using cl hys
      · rename_i ys _ _ hys
        split at hfin
        · cases hfin
        · cases hfin; simpa [V.clean] using cl hys
      · cases hfin
    · cases hfin

theorem thawA_ne0 : ∀ (vs : List V) (h : List AObj), (∀ ob ∈ h, ob ≠ .res) → ∀ ob ∈ (thawA h vs).2, ob ≠ .res
  | [], h, k => k
  | v :: vs, h, k => by
    simp only [thawA]
    refine thawA_ne0 vs _ fun ob m => ?_
    obtain ⟨l, e, ha⟩ := thaw_app h v
    rw [e] at m
    rcases List.mem_append.1 m with m | m
    · exact k ob m
    · have := ha ob m
      rintro rfl
      exact this
theorem thawA_ne (as : List V) (ob : AObj) (h : ob ∈ (thawA [] as).2.map AObj.zone) : ob ≠ .res := by
  obtain ⟨x, hx, rfl⟩ := List.mem_map.1 h
  have := thawA_ne0 as [] (by simp) x hx
  cases x <;> simp_all [AObj.zone]
/-- **What the pure machine gives, the Go function returns; or leaves.** -/
theorem run_both {Φ : Nat → Option AFn} {ext : Nat → List V → Option V} (im : Impl Γ P kf Φ ext) : ∀ (n : Nat), (∀ (f k : Nat) (as : List V) (r : V), kf f = some k → run Φ ext n k as = some r → Sound Γ P f as r) ∧
    ∀ (f k : Nat) (as : List V) (r : V), kf f = some k → run Φ ext n (k + modK) as = some r → SoundM Γ P f as r := by
  intro n
  induction n with
  | zero => exact ⟨fun f k as r _ h => by simp [run] at h, fun f k as r _ h => by simp [run] at h⟩
  | succ n ih =>
    have ok : CallOK Γ P kf (run Φ ext n) := ⟨im.prog, im.there, fun f k as r hk hr => ih.1 f k as r hk hr, fun f k as r hk hr => ih.2 f k as r hk hr, im.ins⟩
    refine ⟨fun f k as r hk h => ?_, fun f k as r hk h => ?_⟩
    · rcases im.fns f k hk with ⟨fn, af, h1, h2, h3⟩ | ⟨h1, _, h2⟩
      case inr =>
        simp only [run, h1] at h
        rw [if_neg (by have := (im.small f k hk).1; omega)] at h
        exact h2 as r h
      simp only [run, h3] at h
      unfold cFn at h2
      split at h2
      · rename_i c hb
        split at h2
        · rename_i ac rs hc hrs
          split at h2
          · cases h2
          · cases h2
            have key : ∀ {e : Ex} {σ' : St}, exec (run Φ ext n) (loopN n) ac (start ⟨fn.ntmps, rs, ac⟩ as) = some (e, σ') → (e = .normal ∨ e = .ret) → finish σ' rs = some r → Sound Γ P f as r := by
              intro e σ' he hee hfin
              refine ⟨finish_clean hfin, fun M0 w vals hG hM ha => calls_of_wp h1 hb ?_⟩
              refine code_sound (z := false) (O := M0) (w0 := w) (ρ0 := []) (h0 := []) ok im.mixed n c hc nofun he ⟨M0, fun _ h => h, nofun, start_sound (fn := ⟨fn.ntmps, rs, ac⟩) hG hM ha, Below.refl _ _, Ch.refl _ _ _ _⟩ (fun a' w' ρ' s' => ?_)
              obtain ⟨M0', i1, _, s1, hbl, _⟩ := s'
              obtain ⟨_, v, hv, hrr⟩ := finish_sound s1 hrs hfin
              have hrr' := hrr.less i1
              rcases hee with rfl | rfl
              · exact bodyPost_end hv s1.fr.defers ⟨v, rfl, hbl, hrr'⟩
              · exact bodyPost_ret hv s1.fr.defers ⟨v, rfl, hbl, hrr'⟩
            unfold done at h
            split at h
            · rename_i σ' he; exact key he (.inl rfl) h
            · rename_i σ' he; exact key he (.inr rfl) h
            · cases h
        · cases h2
      · cases h2
    · obtain ⟨_, hn⟩ := im.small f k hk
      simp only [run, hn] at h
      rw [if_pos (by omega), show k + modK - modK = k by omega] at h
      rcases im.fns f k hk with ⟨fn, af, h1, h2, h3⟩ | ⟨h1, _, h2⟩
      case inr => simp only [h1] at h; cases h
      simp only [h3] at h
      split at h
      case isFalse => cases h
      rename_i hnz
      unfold cFn at h2
      split at h2
      · rename_i c hb
        split at h2
        · rename_i ac rs hc hrs
          split at h2
          · cases h2
          · cases h2
            have key : ∀ {e : Ex} {σ' : St}, exec (run Φ ext n) (loopN n) ac (startM ⟨fn.ntmps, rs, ac⟩ as) = some (e, σ') → (e = .normal ∨ e = .ret) → finM (thawA [] as).2.length ⟨fn.ntmps, rs, ac⟩ σ' = some r → SoundM Γ P f as r := by
              intro e σ' he hee hfin
              unfold finM at hfin
              split at hfin
              · rename_i l os hf ho
                split at hfin
                · rename_i hfl
                  cases hfin
                  refine ⟨l, os, rfl, hfl, fun M0 base w ρ vals hG hB k0 hl hv => calls_of_wp h1 hb ?_⟩
                  have hal : as.length = vals.size := by rw [← hl, thawA_len]
                  refine code_sound (z := true) (O := M0) (w0 := w) (ρ0 := ρ) (h0 := (thawA [] as).2.map AObj.zone) ok im.mixed n c hc (fun _ => hnz) he ⟨M0, fun _ h => h, fun _ => rfl, startM_sound (fn := ⟨fn.ntmps, rs, ac⟩) hG hB k0 hl hal hv, Below.refl _ _, Ch.refl _ _ _ _⟩ (fun a' w' ρ' s' => ?_)
                  obtain ⟨M0', i1, i2, s1, hbl, c1⟩ := s'
                  have e0 : M0' = M0 := i2 rfl
                  rw [e0] at s1 c1
                  obtain ⟨_, v, hv, hrr⟩ := finish_sound s1 hrs hf
                  have hm : ρ.length = (thawA [] as).2.length := by rw [k0.len]; simp
                  have hρ : ρ'.take (thawA [] as).2.length = ρ := by
                    apply List.ext_getElem?
                    intro i
                    rw [List.getElem?_take]
                    by_cases hi : i < (thawA [] as).2.length
                    · rw [if_pos hi]
                      have h5 : ρ[i]? = some ρ[i] := by simp [hm, hi]
                      obtain ⟨ob', h6, _⟩ := c1.obj i ρ[i] _ h5 (by rw [List.getElem?_eq_getElem (by simpa using hi)]) (thawA_ne as _ (List.getElem_mem _))
                      rw [h6, h5]
                    · rw [if_neg hi, List.getElem?_eq_none (by omega)]
                  have k1 := s1.hr.first ho
                  rw [hρ] at k1
                  have hsub : ∀ {i : Nat} {x : AObj}, (σ'.h.take (thawA [] as).2.length)[i]? = some x → σ'.h[i]? = some x := fun {i x} e => by
                    rw [List.getElem?_take] at e
                    split at e
                    · exact e
                    · cases e
                  have c2 : Ch (Mu M0 ρ ((thawA [] as).2.map AObj.zone)) (Mu M0 ρ (σ'.h.take (thawA [] as).2.length)) w w' ρ ρ ((thawA [] as).2.map AObj.zone) (σ'.h.take (thawA [] as).2.length) := by
                    refine ⟨⟨c1.go.size, fun b hb' hm' => c1.go.cls b hb' ?_, c1.go.block⟩, c1.row, fun i q x hq hx hxn => ?_, c1.zar⟩
                    · rcases hm' with hm' | ⟨i, x, hi, hx, hr⟩
                      · exact .inl hm'
                      · refine .inr ⟨i, x, hsub hi, hx, ?_⟩
                        have hil : i < ρ.length := (List.getElem?_eq_some_iff.1 hr).1
                        obtain ⟨ob', h6, _⟩ := c1.obj i _ _ hr (List.getElem?_eq_getElem (by rw [k0.len] at hil; exact hil)) (thawA_ne as _ (List.getElem_mem _))
                        exact h6
                    · obtain ⟨ob', h5, h6, h7⟩ := c1.obj i q x hq hx hxn
                      have hil : i < (thawA [] as).2.length := by
                        have := (List.getElem?_eq_some_iff.1 hx).1
                        simpa using this
                      exact ⟨ob', hq, by rw [List.getElem?_take, if_pos hil]; exact h6, h7⟩
                  have hlr : ∀ M ρ h, LR M w' ρ h l v := fun M ρ h => by
                    have := flat_res (M' := M) (ρ := ρ) (h := h) (by simpa [V.flat] using hfl) hrr
                    have e : setL l = l := by cases l <;> first | rfl | cases hfl
                    simpa [setV, e, VR] using this
                  rcases hee with rfl | rfl
                  · exact bodyPost_end hv s1.fr.defers ⟨v, _, rfl, hbl, hlr, ho, k1, c2⟩
                  · exact bodyPost_ret hv s1.fr.defers ⟨v, _, rfl, hbl, hlr, ho, k1, c2⟩
                · cases hfin
              · cases hfin
            unfold doneM at h
            split at h
            · rename_i σ' he; exact key he (.inl rfl) h
            · rename_i σ' he; exact key he (.inr rfl) h
            · cases h
        · cases h2
      · cases h2
theorem run_sound {Φ : Nat → Option AFn} {ext : Nat → List V → Option V} (im : Impl Γ P kf Φ ext) (n : Nat) (f k : Nat) (as : List V) (r : V) : kf f = some k → run Φ ext n k as = some r → Sound Γ P f as r := (run_both im n).1 f k as r

end
end Gi
