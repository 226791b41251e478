/- Of this proof. -/
import Derived.Test.YthaajpjcibaopaaGreatGir
import Derived.DataReads
import Derived.ChangeOld
import Derived.ProofKit
import Derived.KernelRfl
namespace Gi
open Go Go.RowKit
set_option linter.unusedVariables false
set_option linter.unusedSimpArgs false
variable {KI : KF}
inductive PTy where
 | int (k : IntKind)
 | bool
 | str
 | lst (ts : List PTy)
mutual
def Has : PTy → PV → Prop
 | .int k, .int k' n => k' = k ∧ (Lit.int k n).wf = true
 | .bool, .bool _ => True
 | .str, .str s => s.length ≤ maxLen
 | .lst ts, .lst rows => rows.length ≤ maxLen ∧ ∀ r ∈ rows, HasL ts r
 | _, _ => False
def HasL : List PTy → List PV → Prop
 | [], [] => True
 | t :: ts, p :: ps => Has t p ∧ HasL ts ps
 | _, _ => False
end
def fieldsT (P : Program) (g : TypeId → Option (List PTy)) : List Field → List PTy → Option (List PTy)
 | [], acc => some acc
 | f :: fs, acc => match g f.type with
  | some us => if f.offset = acc.length ∧ P.cellsOf f.type = us.length then fieldsT P g fs (acc ++ us) else none
  | none => none
def flatT (P : Program) : Nat → TypeId → Option (List PTy)
 | 0, _ => none
 | n + 1, t => match P.underlying t with
  | some .bool => some [.bool]
  | some (.int k) => some [.int k]
  | some .string => some [.str]
  | some (.slice e) => match flatT P n e with
   | some ts => if ts.isEmpty || P.cellsOf e != ts.length then none else some [.lst ts]
   | none => none
  | some (.struct fs) => match fieldsT P (flatT P n) fs.toList [] with
   | some ts => if P.cellsOf t = ts.length then some ts else none
   | none => none
  | _ => none
theorem HasL.len : ∀ {ts : List PTy} {ps : List PV}, HasL ts ps → ts.length = ps.length
 | [], [], _ => rfl
 | _ :: _, _ :: _, h => by simp only [HasL] at h; simp [HasL.len h.2]
 | [], _ :: _, h => by simp [HasL] at h
 | _ :: _, [], h => by simp [HasL] at h
theorem HasL.append : ∀ {ts us : List PTy} {ps qs : List PV}, HasL ts ps → HasL us qs → HasL (ts ++ us) (ps ++ qs)
 | [], _, [], _, _, h => h
 | _ :: _, _, _ :: _, _, h, k => by
  simp only [HasL, List.cons_append] at h ⊢
  exact ⟨h.1, HasL.append h.2 k⟩
 | [], _, _ :: _, _, h, _ => by simp [HasL] at h
 | _ :: _, _, [], _, h, _ => by simp [HasL] at h
def RdL (w : World) (ps : List PV) (cs : List Value) : Prop := ps.length = cs.length ∧ ∀ (i : Nat) (p : PV) (c : Value), ps[i]? = some p → cs[i]? = some c → Reads (fun _ => False) w p c
theorem RdL.append {w : World} {ps qs : List PV} {cs ds : List Value} (h : RdL w ps cs) (k : RdL w qs ds) : RdL w (ps ++ qs) (cs ++ ds) := by
 refine ⟨by simp [h.1, k.1], fun i p c hp hc => ?_⟩
 by_cases hi : i < ps.length
 ·rw [List.getElem?_append_left hi] at hp
  rw [List.getElem?_append_left (by rw [← h.1]; exact hi)] at hc
  exact h.2 i p c hp hc
 ·rw [List.getElem?_append_right (by omega)] at hp
  rw [List.getElem?_append_right (by rw [← h.1]; omega), ← h.1] at hc
  exact k.2 _ p c hp hc
theorem trod_reads {H : Type} {enc : TypeId × Value → H} {P : Program} {w : World} : ∀ (fuel n : Nat) (t : TypeId) (cs : List Value) (d : DataW H) (ps : List MemPlace) (ts : List PTy), DataW.trod enc P w 0 (fun _ => true) true fuel t cs = some (d, ps) → flatT P n t = some ts →
 ∃ qs : List PV, HasL ts qs ∧ RdL w qs cs := by
 intro fuel
 induction fuel with
 | zero => intro n t cs d ps ts h; simp [DataW.trod] at h
 | succ fuel ih =>
  intro n t cs d ps ts h ht
  cases n with
  | zero => simp [flatT] at ht
  | succ n =>
   have one : ∀ {p : PV} {c : Value}, Reads (fun _ => False) w p c → RdL w [p] [c] := fun {p c} hr => ⟨rfl, fun i p' c' hp hc => by
    cases i with
    | zero => simp at hp hc; subst hp; subst hc; exact hr
    | succ i => simp at hp⟩
   unfold flatT at ht
   split at ht
   ·rename_i hu
    cases ht
    obtain ⟨b, rfl, _⟩ := DataW.trod_bool hu h
    exact ⟨[.bool b], by simp [HasL, Has], one (by simp [Reads])⟩
   ·rename_i k hu
    cases ht
    obtain ⟨m, rfl, _, hwf⟩ := DataW.trod_int hu h
    exact ⟨[.int k m], by simp [HasL, Has, hwf], one (by simp [Reads])⟩
   ·rename_i hu
    cases ht
    obtain ⟨s, rfl, _, hs⟩ := DataW.trod_string hu h
    exact ⟨[.str s.data.toList], by simp only [HasL, Has, and_true]; exact hs, one (by simp [Reads])⟩
   ·rename_i e hu
    split at ht
    ·rename_i us hus
     split at ht
     ·cases ht
     ·rename_i hne
      cases ht
      simp only [Bool.or_eq_true, List.isEmpty_iff, bne_iff_ne, ne_eq, not_or, Decidable.not_not] at hne
      obtain ⟨hne1, hne2⟩ := hne
      rcases DataW.trod_slice hu h with ⟨rfl, _⟩ | ⟨ad, len, cap, elems, rest, m, em, rfl, _, _, hlc, hcm, hel, hat, _, _⟩
      ·exact ⟨[.lst []], by simp [HasL, Has], one (by simp only [Reads]; exact .inl ⟨by trivial, _, _, rfl⟩)⟩
      ·obtain rfl : m = fuel := by omega
       have hpos : 0 < us.length := List.length_pos_iff.2 hne1
       have hspot0 : 0 < len → ad.spot = none := by
        intro hl
        have hx := hat 0 hl
        have hxe : elems[0]? = some (elems[0]'(by omega)) := by simp [show 0 < elems.length by omega]
        rw [hxe] at hx
        cases hcs : w.cells? 0 (ad.add (0 * P.cellsOf e)) (P.cellsOf e) with
        | none => rw [hcs] at hx; simp at hx
        | some ccs =>
         obtain ⟨_, c2, c3⟩ := World.cells?_some hcs
         rw [hne2] at c2 c3
         have h0 := c3 0 hpos
         have hc0 : ccs[0]? = some (ccs[0]'(by omega)) := by simp [show 0 < ccs.length by omega]
         rw [hc0] at h0
         have hadd0 : (ad.add (0 * us.length)).add 0 = ad := by simp [Addr.add]
         rw [hadd0] at h0
         exact World.cell?_spot h0
       have hrow : ∀ i, i < len → ∃ q : List PV, HasL us q ∧ ReadsL (fun _ => False) w q ad.block (ad.off + i * us.length) ∧ ad.spot = none ∧ ad.block < w.heap.size := by
        intro i hi
        have hx := hat i hi
        have hxe : elems[i]? = some (elems[i]'(by omega)) := by simp [show i < elems.length by omega]
        rw [hxe] at hx
        cases hcs : w.cells? 0 (ad.add (i * P.cellsOf e)) (P.cellsOf e) with
        | none => rw [hcs] at hx; simp at hx
        | some ccs =>
         rw [hcs] at hx
         simp only [Option.bind_some] at hx
         obtain ⟨q, g1, g2⟩ := ih n e ccs _ _ us hx hus
         obtain ⟨_, c2, c3⟩ := World.cells?_some hcs
         rw [hne2] at c2 c3
         have h0 := c3 0 hpos
         have hc0 : ccs[0]? = some (ccs[0]'(by omega)) := by simp [show 0 < ccs.length by omega]
         rw [hc0] at h0
         have hadd0 : (ad.add (i * us.length)).add 0 = ad.add (i * us.length) := by simp [Addr.add]
         rw [hadd0] at h0
         have hspot : ad.spot = none := hspot0 (by omega)
         have hb : ad.block < w.heap.size := by
          have := World.block_lt_of_cell? w _ h0
          have e2 : (ad.add (i * us.length)).block = ad.block := by unfold Addr.add; split <;> rfl
          rwa [e2] at this
         refine ⟨q, g1, ReadsL.of fun j p hp => ?_, hspot, hb⟩
         have hj : j < us.length := by rw [g1.len]; exact (List.getElem?_eq_some_iff.1 hp).1
         have hcj := c3 j hj
         have hcj' : ccs[j]? = some (ccs[j]'(by omega)) := by simp [show j < ccs.length by omega]
         rw [hcj'] at hcj
         refine ⟨_, ?_, g2.2 j p _ hp hcj'⟩
         rw [← hcj]
         congr 1
         obtain ⟨bb, oo, ss⟩ := ad
         simp only at hspot
         subst hspot
         rw [Addr.add_mid, Addr.add_mid]
       by_cases hl0 : len = 0
       ·subst hl0
        exact ⟨[.lst []], by simp [HasL, Has], one (by simp only [Reads]; exact .inl ⟨by trivial, _, _, rfl⟩)⟩
       ·obtain ⟨rows, hrl, hrows⟩ : ∃ rows : List (List PV), rows.length = len ∧ ∀ i q, rows[i]? = some q → HasL us q ∧ ReadsL (fun _ => False) w q ad.block (ad.off + i * us.length) := by
         clear hat hel em h
         have : ∀ k, k ≤ len → ∃ rows : List (List PV), rows.length = k ∧ ∀ i q, rows[i]? = some q → HasL us q ∧ ReadsL (fun _ => False) w q ad.block (ad.off + i * us.length) := by
          intro k
          induction k with
          | zero => intro _; exact ⟨[], rfl, fun i q hq => by simp at hq⟩
          | succ k ihk =>
           intro hk
           obtain ⟨rows, r1, r2⟩ := ihk (by omega)
           obtain ⟨q, q1, q2, _⟩ := hrow k (by omega)
           refine ⟨rows ++ [q], by simp [r1], fun i q' hq' => ?_⟩
           by_cases hi : i < rows.length
           ·rw [List.getElem?_append_left hi] at hq'; exact r2 i q' hq'
           ·rw [List.getElem?_append_right (by omega)] at hq'
            have h1 := (List.getElem?_eq_some_iff.1 hq').1
            simp at h1
            have : i = k := by omega
            subst this
            rw [r1, Nat.sub_self] at hq'
            simp at hq'; subst hq'
            exact ⟨q1, q2⟩
         exact this len (Nat.le_refl _)
        obtain ⟨_, _, _, hspot, hb⟩ := hrow 0 (by omega)
        refine ⟨[.lst rows], ?_, one ?_⟩
        ·simp only [HasL, Has, and_true]
         refine ⟨by omega, fun r hr => ?_⟩
         obtain ⟨i, hi, rfl⟩ := List.getElem_of_mem hr
         exact (hrows i _ (List.getElem?_eq_getElem hi)).1
        ·simp only [Reads]
         obtain ⟨bb, oo, ss⟩ := ad
         simp only at hspot hb hrows
         subst hspot
         refine .inr ⟨bb, oo, cap, us.length, by rw [hrl], fun h => h, hb, ReadsLL.of fun i q hq => ?_, by rw [hrl]; exact hlc⟩
         obtain ⟨g1, g2⟩ := hrows i q hq
         exact ⟨g1.len.symm, g2⟩
    ·cases ht
   ·rename_i fs hu
    split at ht
    ·rename_i ts' hts
     split at ht
     ·rename_i hcl
      cases ht
      obtain ⟨xs, m, em, _, hl, hxl, hf⟩ := DataW.trod_struct hu h
      obtain rfl : m = fuel := by omega
      have key : ∀ (fl : List Field) (acc out : List PTy) (k : Nat), (∀ j, fl[j]? = fs[k + j]?) → fieldsT P (flatT P n) fl acc = some out → (∃ qs, HasL acc qs ∧ RdL w qs (cs.take acc.length)) → out.length ≤ cs.length → ∃ qs, HasL out qs ∧ RdL w qs (cs.take out.length) := by
       intro fl
       induction fl with
       | nil => intro acc out k _ ho hq _; simp [fieldsT] at ho; subst ho; exact hq
       | cons f fl ihf =>
        intro acc out k hfl ho hq hle
        unfold fieldsT at ho
        split at ho
        ·rename_i us hus
         split at ho
         ·rename_i hoff
          obtain ⟨ho1, ho2⟩ := hoff
          have hfk : fs[k]? = some f := by simpa using (hfl 0).symm
          have hx := hf k f hfk
          have hkx : k < xs.length := by rw [hxl]; exact (Array.getElem?_eq_some_iff.1 hfk).1
          have hx2 : xs[k]? = some xs[k] := by simp [hkx]
          rw [hx2] at hx
          obtain ⟨qs2, g1, g2⟩ := ih n f.type _ _ _ us hx hus
          obtain ⟨qs1, p1, p2⟩ := hq
          refine ihf (acc ++ us) out (k + 1) (fun j => by have := hfl (j + 1); simpa [Nat.add_assoc, Nat.add_comm 1 j] using this) ho ⟨qs1 ++ qs2, p1.append g1, ?_⟩ hle
          have e : cs.take (acc ++ us).length = cs.take acc.length ++ (cs.drop f.offset).take (P.cellsOf f.type) := by
           rw [ho1, ho2, List.length_append, List.take_add]
          rw [e]
          exact p2.append g2
         ·cases ho
        ·cases ho
      obtain ⟨qs, g1, g2⟩ := key fs.toList [] ts 0 (by simp) hts ⟨[], by simp [HasL], by simp [RdL]⟩ (by rw [hl, hcl]; exact Nat.le_refl _)
      refine ⟨qs, g1, ?_⟩
      rw [show ts.length = cs.length by rw [hl, hcl], List.take_length] at g2
      exact g2
     ·cases ht
    ·cases ht
   ·cases ht
def argV (g : Bool) (qs : List PV) : V := if g then .agg (qs.map .pv) else (match qs with | [q] => .one (.pv q) | _ => .tup [])
theorem arg_reads {H : Type} {enc : TypeId × Value → H} {P : Program} {w : World} {t : TypeId} {v : Value} {d : DataW H} {ps : List MemPlace} {n : Nat} {ts : List PTy} {g : Bool} (h : DataW.Trod enc P w 0 (fun _ => true) true t v d ps) (ht : flatT P n t = some ts)
 (hg : (g = true ∧ ∃ cs, v = .agg cs) ∨ (g = false ∧ ts.length = 1 ∧ ∀ cs, v ≠ .agg cs)) : ∃ qs, HasL ts qs ∧ VR (fun _ => False) w [] [] (argV g qs) v := by
 obtain ⟨fuel, hf⟩ := h
 obtain ⟨qs, h1, h2⟩ := trod_reads fuel n t _ d ps ts hf ht
 refine ⟨qs, h1, ?_⟩
 rcases hg with ⟨rfl, cs, rfl⟩ | ⟨rfl, hl, hv⟩
 ·refine ⟨cs, rfl, by simpa [Value.cells] using h2.1, fun i l c hl hc => ?_⟩
  simp only [List.getElem?_map, Option.map_eq_some_iff] at hl
  obtain ⟨q, hq, rfl⟩ := hl
  exact h2.2 i q c hq hc
 ·have hq1 : qs.length = 1 := by rw [← h1.len]; exact hl
  obtain ⟨q, rfl⟩ := List.length_eq_one_iff.1 hq1
  have hvc : v.cells = #[v] := by
   cases v with
   | agg cs => exact absurd rfl (hv cs)
   | _ => rfl
  rw [hvc] at h2
  exact h2.2 0 q v rfl rfl
theorem law_calls {Γ : Ctx} {P : Program} {Φ : Nat → Option AFn} {ext : Nat → List V → Option V} (im : Impl Γ P kf Φ ext) {f k : Nat} (hk : kf f = some k) {xz : List V} (h : callL Φ ext k xz = some (vbool true)) {W : World} {args : Array Value} (hG : Γ.G W)
 (ha : ArgsR (fun _ => False) W xz args.toList) : Calls P f args W fun e W' => e = .returned (.bool true) ∧ Below W.heap.size W W' := by
 obtain ⟨_, hs⟩ := callL_sound im hk h
 refine (hs (fun _ => False) W args hG (fun _ h => h.elim) ha).mono fun e W' ⟨v, he, hb, hr⟩ => ?_
 obtain ⟨ρ', _, hv⟩ := hr
 have : v = .bool true := by simpa [thaw, thawL, VR, LR, Reads] using hv
 exact ⟨by rw [he, this], hb⟩
end Gi
namespace Gi
open Go Go.RowKit
set_option linter.unusedVariables false
set_option linter.unusedSimpArgs false
theorem loopL_eq (f : St → Option (Ex × St)) (σ : St) : loopL f σ = (match f σ with
 | some (.normal, σ') => loopL f σ'
 | r => r) := by
 cases h : f σ with
 | none =>
  cases hl : loopL f σ with
  | none => rfl
  | some r =>
   obtain ⟨n, hn⟩ := loopL_spec.1 hl
   cases n with
   | zero => simp [loopN] at hn
   | succ n => simp [loopN, h] at hn
 | some x =>
  obtain ⟨e, σ'⟩ := x
  cases e with
  | normal => exact loopL_next h
  | exit i => exact loopL_end h (by simp)
  | ret => exact loopL_end h (by simp)
def forget : L → PV
 | .pv p => p
 | .own _ es => .lst es
 | .down _ es => .lst es
 | _ => .lst []
theorem viewL_pv (h : List AObj) : ∀ (ps : List PV), viewL h (ps.map .pv) = some ps
 | [] => rfl
 | p :: ps => by simp only [List.map_cons, viewL, L.view, viewL_pv h ps]
theorem view_agg (h : List AObj) (ps : List PV) : V.view h (.agg (ps.map .pv)) = some (.agg (ps.map .pv)) := by simp only [V.view, viewL_pv]
theorem mut_pv (h : List AObj) (ps : List PV) : V.mut h (.agg (ps.map .pv)) = false := by
 simp only [V.mut, V.cells, List.any_eq_false]
 intro l hl
 obtain ⟨p, _, rfl⟩ := List.mem_map.1 hl
 simp [L.mut]
theorem thaw_ext : ∀ (ls : List L) (h : List AObj), ls.all L.clean = true → ∃ t, (thawL h ls).2 = h ++ t := fun ls h hc => (thawL_at ls h hc).2.1
theorem view_ext {h t : List AObj} {l : L} {p : PV} (e : l.view h = some p) : l.view (h ++ t) = some p := by
 cases l with
 | arr o =>
  simp only [L.view] at e ⊢
  have ho : o < h.length := by
   cases hh : h[o]? with
   | none => rw [hh] at e; cases e
   | some x => exact (List.getElem?_eq_some_iff.1 hh).1
  rw [List.getElem?_append_left ho]
  exact e
 | _ => exact e
theorem viewL_ext {h t : List AObj} : ∀ {ls : List L} {ps : List PV}, viewL h ls = some ps → viewL (h ++ t) ls = some ps
 | [], ps, e => e
 | l :: ls, ps, e => by
  unfold viewL at e ⊢
  split at e
  ·rename_i p ps' h1 h2
   rw [view_ext h1, viewL_ext h2]
   exact e
  ·cases e
theorem thaw_view : ∀ (ls : List L) (h : List AObj), ls.all L.clean = true → viewL (thawL h ls).2 (thawL h ls).1 = some (ls.map forget)
 | [], h, _ => rfl
 | l :: ls, h, hc => by
  simp only [List.all_cons, Bool.and_eq_true] at hc
  cases l with
  | own z es =>
   simp only [thawL, List.map_cons, viewL]
   obtain ⟨t, ht⟩ := thaw_ext ls (h ++ [.arr z es]) hc.2
   rw [thaw_view ls _ hc.2]
   have : L.view (thawL (h ++ [AObj.arr z es]) ls).2 (.arr h.length) = some (.lst es) := by
    rw [ht]
    simp [L.view]
   rw [this]
   rfl
  | down z es =>
   simp only [thawL, List.map_cons, viewL]
   obtain ⟨t, ht⟩ := thaw_ext ls (h ++ [.darr z es]) hc.2
   rw [thaw_view ls _ hc.2]
   have : L.view (thawL (h ++ [AObj.darr z es]) ls).2 (.arr h.length) = some (.lst es) := by
    rw [ht]
    simp [L.view]
   rw [this]
   rfl
  | pv p => simp only [thawL, List.map_cons, viewL, L.view, thaw_view ls h hc.2]; rfl
  | nil => simp only [thawL, List.map_cons, viewL, L.view, thaw_view ls h hc.2]; rfl
  | _ => simp [L.clean] at hc
theorem thaw_notArr : ∀ (ls : List L) (h : List AObj) (o : Nat), ls.all L.clean = true → o < h.length → (thawL h ls).1.all (L.notArr o) = true
 | [], _, _, _, _ => rfl
 | l :: ls, h, o, hc, ho => by
  simp only [List.all_cons, Bool.and_eq_true] at hc
  cases l with
  | own z es =>
   simp only [thawL, List.all_cons, Bool.and_eq_true]
   exact ⟨by simp [L.notArr]; omega, thaw_notArr ls _ o hc.2 (by simp; omega)⟩
  | down z es =>
   simp only [thawL, List.all_cons, Bool.and_eq_true]
   exact ⟨by simp [L.notArr]; omega, thaw_notArr ls _ o hc.2 (by simp; omega)⟩
  | pv p => simp only [thawL, List.all_cons, Bool.and_eq_true]; exact ⟨rfl, thaw_notArr ls h o hc.2 ho⟩
  | nil => simp only [thawL, List.all_cons, Bool.and_eq_true]; exact ⟨rfl, thaw_notArr ls h o hc.2 ho⟩
  | _ => simp [L.clean] at hc
theorem putAt_full {α : Type} (a b : List α) (h : a.length = b.length) : putAt a 0 b = b := by
 simp [putAt, h.symm]
theorem freezeLs_pv (h : List AObj) : ∀ (ps : List PV), freezeLs h (ps.map .pv) = h
 | [] => rfl
 | p :: ps => by
  show freezeLs (freezeL h (.pv p)) (ps.map .pv) = h
  exact freezeLs_pv h ps
theorem freezeVs_pv (h : List AObj) (ps : List PV) : freezeVs h [.agg (ps.map .pv)] = h := freezeLs_pv h ps
theorem notArr_pv (o : Nat) (ps : List PV) : (ps.map L.pv).all (L.notArr o) = true := by
 simp [L.notArr]
theorem store_row {h' : List AObj} {z k : Nat} {es : List (List PV)} {e r : List PV} {ls' : List L} (h0 : h'[0]? = some (.arr z es)) (he : es[k]? = some e) (hez : e.length = z) (hv : viewL h' ls' = some r) (hl : ls'.length = z) (hna : ls'.all (L.notArr 0) = true) :
 ∃ h'', storeV h' z (.one (.ptr 0 k 0)) (.agg ls') = some (.arr z (es.set k r) :: h'') := by
 have hk := freezeLs_keep ls' h' hna h0
 cases hf : freezeLs h' ls' with
 | nil => rw [hf] at hk; simp at hk
 | cons x h'' =>
  rw [hf] at hk
  simp at hk
  subst hk
  refine ⟨h'', ?_⟩
  have hrl : r.length = z := by rw [(viewL_at hv).1]; exact hl
  simp only [storeV, V.cells, hl, if_true, h0, he, hv, hf]
  rw [if_pos ⟨by omega, hna⟩, putAt_full e r (by omega)]
  rfl
theorem es_at {rows : List (List PV)} {k m : Nat} {zero : List PV} (h : k + (m + 1) = rows.length) : (rows.take k ++ List.replicate (m + 1) zero)[k]? = some zero := by
 rw [List.getElem?_append_right (by simp; omega), List.getElem?_replicate]
 rw [if_pos (by simp; omega)]
theorem es_set {rows : List (List PV)} {k m : Nat} {zero : List PV} (h : k + (m + 1) = rows.length) : (rows.take k ++ List.replicate (m + 1) zero).set k (rows[k]'(by omega)) = rows.take (k + 1) ++ List.replicate m zero := by
 have hk : k < rows.length := by omega
 rw [List.set_append_right _ _ (by simp; omega)]
 have : k - (rows.take k).length = 0 := by simp; omega
 rw [this, List.replicate_succ, List.set_cons_zero, List.take_succ_eq_append_getElem hk, List.append_assoc]
 rfl
section
variable {Φ : Nat → Option AFn} {ext : Nat → List V → Option V}
def hdr (i a t0 : Nat) : ACode := .seq (.region [⟨some t0, .mv (.tmp i), none⟩, ⟨some (t0 + 1), .mv (.tmp a), none⟩, ⟨some (t0 + 2), .len (.tmp (t0 + 1)), none⟩, ⟨some (t0 + 3), .bin .lss (.tmp t0) (.tmp (t0 + 2)), none⟩]) (.cond (.tmp (t0 + 3)) .skip (.exit 0))
def ftr (i t0 : Nat) : ACode := .region [⟨some t0, .mv (.tmp i), none⟩, ⟨some (t0 + 1), .bin .add (.tmp t0) (.pv (.int .i64 1)), none⟩, ⟨some i, .mv (.tmp (t0 + 1)), none⟩]
def toSBody (z kx : Nat) (fl : Bool) : ACode := .seq (hdr 4 0 8) (.seq (.block 1 (.region [⟨some 14, .mv (.tmp 3), none⟩, ⟨some 15, .mv (.tmp 4), none⟩, ⟨some 16, .mv (.tmp 0), none⟩, ⟨some 17, .mv (.tmp 4), none⟩, ⟨some 18, .indexA z (.tmp 16) (.tmp 17), none⟩, ⟨some 19, .load true z (.tmp 18), none⟩, ⟨some 20, .call kx [.tmp 19] fl false, none⟩, ⟨some 21, .indexA z (.tmp 14) (.tmp 15), none⟩, ⟨none, .store z (.tmp 21) (.tmp 20), none⟩])) (ftr 4 12))
def toS (bytes z kx : Nat) (zero : List PV) (fl : Bool) : AFn := ⟨23, [.tmp 2], .seq (.region [⟨some 2, .mv .nil, none⟩]) (.seq (.region [⟨some 5, .mv (.tmp 0), none⟩, ⟨some 6, .len (.tmp 5), none⟩, ⟨some 7, .make bytes zero (.tmp 6), none⟩, ⟨some 3, .mv (.tmp 7), none⟩]) (.seq (.seq (.region [⟨some 4, .mv (.pv (.int .i64 0)), none⟩]) (.block 0 (.loop (toSBody z kx fl)))) (.seq (.region [⟨some 22, .mv (.tmp 3), none⟩, ⟨some 2, .mv (.tmp 22), none⟩]) .ret)))⟩
theorem wrap_small {k : Nat} (h : k < 9223372036854775807) : IntKind.i64.wrap ((k : Int) + 1) = (k : Int) + 1 := by
 rw [IntKind.wrap_i64]; omega
def Copies (Φ : Nat → Option AFn) (ext : Nat → List V → Option V) (kx : Nat) (fl : Bool) (r : List PV) : Prop :=
 ∃ ls, callL Φ ext kx [.agg (r.map .pv)] = some (.agg ls) ∧ ls.all L.clean = true ∧ ls.map forget = r ∧ (fl = true → ls = r.map .pv ∧ ls.all L.flat = true)
theorem toS_loop {z kx : Nat} {fl : Bool} {zero : List PV} {rows : List (List PV)} (hz : ∀ r ∈ rows, r.length = z) (hzero : zero.length = z) (hlen : rows.length ≤ maxLen) (hcp : ∀ r ∈ rows, Copies Φ ext kx fl r) : ∀ (m k : Nat), k + m = rows.length →
 ∀ (u1 u2 u5 u6 u7 x8 x9 x10 x11 x12 x13 x14 x15 x16 x17 x18 x19 x20 x21 u22 : V) (extra : List AObj),
  ∃ t' h', loopL (exec (callL Φ ext) loopL (toSBody z kx fl)) ⟨[vlst rows, u1, u2, .one (.arr 0), vint .i64 k, u5, u6, u7, x8, x9, x10, x11, x12, x13, x14, x15, x16, x17, x18, x19, x20, x21, u22], .arr z (rows.take k ++ List.replicate m zero) :: extra⟩ = some (.exit 0, ⟨t', .arr z rows :: h'⟩) ∧ t'.length = 23 ∧ t'[3]? = some (.one (.arr 0)) := by
 intro m
 induction m with
 | zero =>
  intro k hk u1 u2 u5 u6 u7 x8 x9 x10 x11 x12 x13 x14 x15 x16 x17 x18 x19 x20 x21 u22 extra
  have hk' : k = rows.length := by omega
  subst hk'
  rw [loopL_eq]
  simp [toSBody, hdr, exec, execOps, stepO, wants, fop, Opd.ev, put, asList, L.view, bin, binInt, isBool]
 | succ m ih =>
  intro k hk u1 u2 u5 u6 u7 x8 x9 x10 x11 x12 x13 x14 x15 x16 x17 x18 x19 x20 x21 u22 extra
  have hlt : k < rows.length := by omega
  have hr : rows[k]? = some rows[k] := by simp [hlt]
  have hrz : (rows[k]).length = z := hz _ (List.getElem_mem hlt)
  obtain ⟨ls, c1, c2, c3, c4⟩ := hcp _ (List.getElem_mem hlt)
  have hw := wrap_small (k := k) (by unfold maxLen at hlen; omega)
  have hcut : cut true z 0 ((rows[k]).map L.pv) = some (.agg ((rows[k]).map .pv)) := by
   simp [cut, hrz, List.take_of_length_le (show ((rows[k]).map L.pv).length ≤ z by simp [hrz])]
  have hlt' : decide ((k : Int) < (rows.length : Int)) = true := by simpa using hlt
  have hmin : k < min k rows.length + (m + 1) := by omega
  have hcast : ((k + 1 : Nat) : Int) = (k : Int) + 1 := by omega
  cases fl with
  | true =>
   obtain ⟨rfl, hfl⟩ := c4 rfl
   obtain ⟨h'', hst⟩ := store_row (h' := .arr z (rows.take k ++ List.replicate (m + 1) zero) :: extra) (k := k) (r := rows[k]) (ls' := (rows[k]).map .pv) rfl (es_at (by omega)) hzero (viewL_pv _ _) (by simp [hrz]) (notArr_pv _ _)
   rw [es_set (by omega)] at hst
   have hset : ((rows[k]).map L.pv).map setL = (rows[k]).map L.pv := by simp [setL]
   have key := ih (k + 1) (by omega) u1 u2 u5 u6 u7 (vint .i64 k) (vlst rows) (vint .i64 rows.length) (vbool true) (vint .i64 k) (vint .i64 ((k : Int) + 1)) (.one (.arr 0)) (vint .i64 k) (vlst rows) (vint .i64 k) (.one (.ip rows[k] 0)) (.agg ((rows[k]).map .pv)) (.agg ((rows[k]).map .pv)) (.one (.ptr 0 k 0)) u22 h''
   obtain ⟨t', h', e1, e2, e3⟩ := key
   refine ⟨t', h', (loopL_next ?_).trans e1, e2, e3⟩
   rw [hcast]
   simp [toSBody, hdr, ftr, exec, execOps, stepO, wants, fop, eop, Opd.ev, put, asList, L.view, bin, binInt, isBool, isInt, hlt, elemPtr, hrz, loadV, hcut, viewArgs, view_agg, c1, V.flat, hfl, setV, hset, hst, hw, hmin]
  | false =>
   obtain ⟨t, ht⟩ := thaw_ext ls (.arr z (rows.take k ++ List.replicate (m + 1) zero) :: extra) c2
   have hv := thaw_view ls (.arr z (rows.take k ++ List.replicate (m + 1) zero) :: extra) c2
   have hna := thaw_notArr ls (.arr z (rows.take k ++ List.replicate (m + 1) zero) :: extra) 0 c2 (by simp)
   have hll := (thawL_at ls (.arr z (rows.take k ++ List.replicate (m + 1) zero) :: extra) c2).1
   have hlz : ls.length = z := by rw [← hrz, ← c3]; simp
   rw [c3] at hv
   generalize hth : thawL (.arr z (rows.take k ++ List.replicate (m + 1) zero) :: extra) ls = th at *
   obtain ⟨ls', h1⟩ := th
   simp only at ht hv hna hll
   obtain ⟨h'', hst⟩ := store_row (h' := h1) (k := k) (r := rows[k]) (ls' := ls') (by rw [ht]; rfl) (es_at (by omega)) hzero hv (by rw [hll, hlz]) hna
   rw [es_set (by omega)] at hst
   have hh0 : h1[0]? = some (.arr z (rows.take k ++ List.replicate (m + 1) zero)) := by rw [ht]; rfl
   have key := ih (k + 1) (by omega) u1 u2 u5 u6 u7 (vint .i64 k) (vlst rows) (vint .i64 rows.length) (vbool true) (vint .i64 k) (vint .i64 ((k : Int) + 1)) (.one (.arr 0)) (vint .i64 k) (vlst rows) (vint .i64 k) (.one (.ip rows[k] 0)) (.agg ((rows[k]).map .pv)) (.agg ls') (.one (.ptr 0 k 0)) u22 h''
   obtain ⟨t', h', e1, e2, e3⟩ := key
   refine ⟨t', h', (loopL_next ?_).trans e1, e2, e3⟩
   rw [hcast]
   simp [toSBody, hdr, ftr, exec, execOps, stepO, wants, fop, eop, Opd.ev, put, asList, L.view, bin, binInt, isBool, isInt, hlt, elemPtr, hrz, loadV, hcut, viewArgs, view_agg, c1, thaw, hth, freezeVs_pv, hh0, hst, hw, hmin]
theorem toS_ok {k bytes z kx : Nat} {fl : Bool} {zero : List PV} {rows : List (List PV)} (hk : Φ k = some (toS bytes z kx zero fl)) (hz : ∀ r ∈ rows, r.length = z) (hz0 : 0 < z) (hzero : zero.length = z) (hlen : rows.length ≤ maxLen) (hb : (rows.length : Int) * bytes ≤ 140737488355328) (hcp : ∀ r ∈ rows, Copies Φ ext kx fl r) :
 callL Φ ext k [vlst rows] = some (.one (.own z rows)) := by
 refine callL_fn hk ?_
 obtain ⟨t', h', e1, e2, e3⟩ := toS_loop (Φ := Φ) (ext := ext) hz hzero hlen hcp rows.length 0 (by omega) (.tup []) (.one .nil) (vlst rows) (vint .i64 rows.length) (.one (.arr 0)) (.tup []) (.tup []) (.tup []) (.tup []) (.tup []) (.tup []) (.tup []) (.tup []) (.tup []) (.tup []) (.tup []) (.tup []) (.tup []) (.tup []) (.tup []) []
 simp only [List.take_zero, List.nil_append, show ((0 : Nat) : Int) = 0 from rfl] at e1
 have hl63 : (rows.length : Int) ≤ 9223372036854775807 := by unfold maxLen at hlen; omega
 obtain ⟨_, e4⟩ := List.getElem?_eq_some_iff.1 e3
 generalize hF : exec (callL Φ ext) loopL (toSBody z kx fl) = F at e1
 simp [toS, start, execL, exec, hF, execOps, stepO, wants, fop, eop, Opd.ev, put, asList, L.view, isInt, hb, hl63, hzero, hz0, e1, done, finish, resultsOf, resultOf, comps, comp, giveLs, giveL, arrsOf, e2, e4, V.cells]
def szHead (t0 : Nat) : List AOper := [⟨some t0, .mv (.tmp 1), none⟩, ⟨some (t0 + 1), .mv (.tmp 0), none⟩, ⟨some (t0 + 2), .len (.tmp (t0 + 1)), none⟩, ⟨some (t0 + 3), .bin .sub (.tmp t0) (.tmp (t0 + 2)), none⟩, ⟨some 1, .mv (.tmp (t0 + 3)), none⟩]
def neg1 (t0 : Nat) : ACode := .seq (.region [⟨some t0, .mv (.tmp 1), none⟩, ⟨some (t0 + 1), .bin .lss (.tmp t0) (.pv (.int .i64 0)), none⟩]) (.cond (.tmp (t0 + 1)) (.seq (.region [⟨some 4, .mv (.pv (.int .i64 (-1))), none⟩]) .ret) .skip)
def szSBody (z kx : Nat) : ACode := .seq (hdr 5 0 12) (.seq (.block 1 (.seq (.region [⟨some 18, .mv (.tmp 0), none⟩, ⟨some 19, .mv (.tmp 5), none⟩, ⟨some 20, .indexA z (.tmp 18) (.tmp 19), none⟩, ⟨some 21, .load true z (.tmp 20), none⟩, ⟨some 22, .mv (.tmp 1), none⟩, ⟨some 23, .call kx [.tmp 21, .tmp 22] true false, none⟩, ⟨some 1, .mv (.tmp 23), none⟩]) (neg1 24))) (ftr 5 16))
def szS (z kx : Nat) : AFn := ⟨27, [.tmp 4], .seq (.region [⟨some 4, .mv (.pv (.int .i64 0)), none⟩]) (.seq (.region (szHead 6)) (.seq (neg1 10) (.seq (.seq (.region [⟨some 5, .mv (.pv (.int .i64 0)), none⟩]) (.block 0 (.loop (szSBody z kx)))) (.seq (.region [⟨some 26, .mv (.tmp 1), none⟩, ⟨some 4, .mv (.tmp 26), none⟩]) .ret))))⟩
def szF : AFn := ⟨12, [.tmp 4], .seq (.region [⟨some 4, .mv (.pv (.int .i64 0)), none⟩]) (.seq (.region (szHead 5)) (.seq (neg1 9) (.seq (.region [⟨some 11, .mv (.tmp 1), none⟩, ⟨some 4, .mv (.tmp 11), none⟩]) .ret)))⟩
mutual
def sz : PV → Nat
 | .str s => s.length
 | .lst rows => rows.length + szRows rows
 | _ => 0
def szL : List PV → Nat
 | [] => 0
 | p :: ps => sz p + szL ps
def szRows : List (List PV) → Nat
 | [] => 0
 | r :: rs => szL r + szRows rs
end
def less (left : Int) (n : Nat) : Int := if left < n then -1 else left - n
def Measures (Φ : Nat → Option AFn) (ext : Nat → List V → Option V) (kx : Nat) (r : List PV) : Prop :=
 ∀ left : Int, 0 ≤ left → left ≤ 1048576 → callL Φ ext kx [.agg (r.map .pv), vint .i64 left] = some (vint .i64 (less left (szL r)))
theorem less_less {left : Int} {a b : Nat} (h : 0 ≤ less left a) : less (less left a) b = less left (a + b) := by
 unfold less at *
 split at h
 ·omega
 ·rename_i h1
  rw [if_neg h1]
  by_cases h2 : left - (a : Int) < b
  ·rw [if_pos h2, if_pos (by omega)]
  ·rw [if_neg h2, if_neg (by omega)]; omega
theorem less_neg {left : Int} {a b : Nat} (h0 : 0 ≤ left) (h : less left a < 0) : less left (a + b) = -1 := by
 unfold less at *
 split at h
 ·rw [if_pos (by omega)]
 ·omega
theorem szF_ok {k : Nat} {rows : List (List PV)} (hk : Φ k = some szF) (hlen : rows.length ≤ maxLen) {left : Int} (h0 : 0 ≤ left) (h1 : left ≤ 1048576) : callL Φ ext k [vlst rows, vint .i64 left] = some (vint .i64 (less left rows.length)) := by
 refine callL_fn hk ?_
 have hw : IntKind.i64.wrap (left - rows.length) = left - rows.length := by unfold maxLen at hlen; rw [IntKind.wrap_i64]; omega
 by_cases hl : left < rows.length
 ·have : left - (rows.length : Int) < 0 := by omega
  simp [szF, szHead, neg1, start, execL, exec, execOps, stepO, wants, fop, Opd.ev, put, asList, L.view, bin, binInt, isBool, hw, this, done, finish, resultsOf, resultOf, comps, comp, giveLs, giveL, arrsOf, V.cells, less, hl]
 ·have : ¬ left - (rows.length : Int) < 0 := by omega
  simp [szF, szHead, neg1, start, execL, exec, execOps, stepO, wants, fop, Opd.ev, put, asList, L.view, bin, binInt, isBool, hw, this, done, finish, resultsOf, resultOf, comps, comp, giveLs, giveL, arrsOf, V.cells, less, hl]
end
end Gi
