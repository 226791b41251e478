/- From the reading of a row's arguments to the pure machine's data; from the pure machine's 'true' to the law's call. -/
import Derived.Test.YtcjcgihohefldaaDoorGir
import Derived.DataReads
import Derived.ChangeOld
import Derived.ProofKit
namespace Gi
open Go Go.RowKit
set_option linter.unusedVariables false
set_option linter.unusedSimpArgs false
variable {KI : KF}

/-- The types of cells. -/
inductive PTy where
  | int (k : IntKind)
  | bool
  | str
  | lst (ts : List PTy)

mutual
def Has : PTy → PV → Prop
  | .int k, .int k' n => k' = k ∧ (Lit.int k n).wf = true
  | .bool, .bool _ => True
  | .str, .str s => s.length ≤ maxLen
  | .lst ts, .lst rows => rows.length ≤ maxLen ∧ ∀ r ∈ rows, HasL ts r
  | _, _ => False
def HasL : List PTy → List PV → Prop
  | [], [] => True
  | t :: ts, p :: ps => Has t p ∧ HasL ts ps
  | _, _ => False
end

/-- The cells of a struct's fields, one behind the other. -/
def fieldsT (P : Program) (g : TypeId → Option (List PTy)) : List Field → List PTy → Option (List PTy)
  | [], acc => some acc
  | f :: fs, acc => match g f.type with
    | some us => if f.offset = acc.length ∧ P.cellsOf f.type = us.length then fieldsT P g fs (acc ++ us) else none
    | none => none

/-- The cells of a Go type. -/
def flatT (P : Program) : Nat → TypeId → Option (List PTy)
  | 0, _ => none
  | n + 1, t => match P.underlying t with
    | some .bool => some [.bool]
    | some (.int k) => some [.int k]
    | some .string => some [.str]
    | some (.slice e) => match flatT P n e with
      | some ts => if ts.isEmpty || P.cellsOf e != ts.length then none else some [.lst ts]
      | none => none
    | some (.struct fs) => match fieldsT P (flatT P n) fs.toList [] with
      | some ts => if P.cellsOf t = ts.length then some ts else none
      | none => none
    | _ => none

theorem HasL.len : ∀ {ts : List PTy} {ps : List PV}, HasL ts ps → ts.length = ps.length
  | [], [], _ => rfl
  | _ :: _, _ :: _, h => by simp only [HasL] at h; simp [HasL.len h.2]
  | [], _ :: _, h => by simp [HasL] at h
  | _ :: _, [], h => by simp [HasL] at h
theorem HasL.append : ∀ {ts us : List PTy} {ps qs : List PV}, HasL ts ps → HasL us qs → HasL (ts ++ us) (ps ++ qs)
  | [], _, [], _, _, h => h
  | _ :: _, _, _ :: _, _, h, k => by
    simp only [HasL, List.cons_append] at h ⊢
    exact ⟨h.1, HasL.append h.2 k⟩
  | [], _, _ :: _, _, h, _ => by simp [HasL] at h
  | _ :: _, _, [], _, h, _ => by simp [HasL] at h

/-- these cells read as these data -/
def RdL (w : World) (ps : List PV) (cs : List Value) : Prop := ps.length = cs.length ∧ ∀ (i : Nat) (p : PV) (c : Value), ps[i]? = some p → cs[i]? = some c → Reads (fun _ => False) w p c

theorem RdL.append {w : World} {ps qs : List PV} {cs ds : List Value} (h : RdL w ps cs) (k : RdL w qs ds) : RdL w (ps ++ qs) (cs ++ ds) := by
  refine ⟨by simp [h.1, k.1], fun i p c hp hc => ?_⟩
  by_cases hi : i < ps.length
  · rw [List.getElem?_append_left hi] at hp
    rw [List.getElem?_append_left (by rw [← h.1]; exact hi)] at hc
    exact h.2 i p c hp hc
  · rw [List.getElem?_append_right (by omega)] at hp
    rw [List.getElem?_append_right (by rw [← h.1]; omega), ← h.1] at hc
    exact k.2 _ p c hp hc

theorem trod_reads {H : Type} {enc : TypeId × Value → H} {P : Program} {w : World} : ∀ (fuel n : Nat) (t : TypeId) (cs : List Value) (d : DataW H) (ps : List MemPlace) (ts : List PTy), DataW.trod enc P w 0 (fun _ => true) true fuel t cs = some (d, ps) → flatT P n t = some ts →
    ∃ qs : List PV, HasL ts qs ∧ RdL w qs cs := by
  intro fuel
  induction fuel with
  | zero => intro n t cs d ps ts h; simp [DataW.trod] at h
  | succ fuel ih =>
    intro n t cs d ps ts h ht
    cases n with
    | zero => simp [flatT] at ht
    | succ n =>
      have one : ∀ {p : PV} {c : Value}, Reads (fun _ => False) w p c → RdL w [p] [c] := fun {p c} hr => ⟨rfl, fun i p' c' hp hc => by
        cases i with
        | zero => simp at hp hc; subst hp; subst hc; exact hr
        | succ i => simp at hp⟩
      unfold flatT at ht
      split at ht
      · rename_i hu
        cases ht
        obtain ⟨b, rfl, _⟩ := DataW.trod_bool hu h
        exact ⟨[.bool b], by simp [HasL, Has], one (by simp [Reads])⟩
      · rename_i k hu
        cases ht
        obtain ⟨m, rfl, _, hwf⟩ := DataW.trod_int hu h
        exact ⟨[.int k m], by simp [HasL, Has, hwf], one (by simp [Reads])⟩
      · rename_i hu
        cases ht
        obtain ⟨s, rfl, _, hs⟩ := DataW.trod_string hu h
        exact ⟨[.str s.data.toList], by simp only [HasL, Has, and_true]; exact hs, one (by simp [Reads])⟩
      · rename_i e hu
        split at ht
        · rename_i us hus
          split at ht
          · cases ht
          · rename_i hne
            cases ht
            simp only [Bool.or_eq_true, List.isEmpty_iff, bne_iff_ne, ne_eq, not_or, Decidable.not_not] at hne
            obtain ⟨hne1, hne2⟩ := hne
            rcases DataW.trod_slice hu h with ⟨rfl, _⟩ | ⟨ad, len, cap, elems, rest, m, em, rfl, _, _, hlc, hcm, hel, hat, _, _⟩
            · exact ⟨[.lst []], by simp [HasL, Has], one (by simp only [Reads]; exact .inl ⟨by trivial, _, _, rfl⟩)⟩
            · obtain rfl : m = fuel := by omega
              have hpos : 0 < us.length := List.length_pos_iff.2 hne1
              have hspot0 : 0 < len → ad.spot = none := by
                intro hl
                have hx := hat 0 hl
                have hxe : elems[0]? = some (elems[0]'(by omega)) := by simp [show 0 < elems.length by omega]
                rw [hxe] at hx
                cases hcs : w.cells? 0 (ad.add (0 * P.cellsOf e)) (P.cellsOf e) with
                | none => rw [hcs] at hx; simp at hx
                | some ccs =>
                  obtain ⟨_, c2, c3⟩ := World.cells?_some hcs
                  rw [hne2] at c2 c3
                  have h0 := c3 0 hpos
                  have hc0 : ccs[0]? = some (ccs[0]'(by omega)) := by simp [show 0 < ccs.length by omega]
                  rw [hc0] at h0
                  have hadd0 : (ad.add (0 * us.length)).add 0 = ad := by simp [Addr.add]
                  rw [hadd0] at h0
                  exact World.cell?_spot h0
              -- the elements
              have hrow : ∀ i, i < len → ∃ q : List PV, HasL us q ∧ ReadsL (fun _ => False) w q ad.block (ad.off + i * us.length) ∧ ad.spot = none ∧ ad.block < w.heap.size := by
                intro i hi
                have hx := hat i hi
                have hxe : elems[i]? = some (elems[i]'(by omega)) := by simp [show i < elems.length by omega]
                rw [hxe] at hx
                cases hcs : w.cells? 0 (ad.add (i * P.cellsOf e)) (P.cellsOf e) with
                | none => rw [hcs] at hx; simp at hx
                | some ccs =>
                  rw [hcs] at hx
                  simp only [Option.bind_some] at hx
                  obtain ⟨q, g1, g2⟩ := ih n e ccs _ _ us hx hus
                  obtain ⟨_, c2, c3⟩ := World.cells?_some hcs
                  rw [hne2] at c2 c3
                  have h0 := c3 0 hpos
                  have hc0 : ccs[0]? = some (ccs[0]'(by omega)) := by simp [show 0 < ccs.length by omega]
                  rw [hc0] at h0
                  have hadd0 : (ad.add (i * us.length)).add 0 = ad.add (i * us.length) := by simp [Addr.add]
                  rw [hadd0] at h0
                  have hspot : ad.spot = none := hspot0 (by omega)
                  have hb : ad.block < w.heap.size := by
                    have := World.block_lt_of_cell? w _ h0
                    have e2 : (ad.add (i * us.length)).block = ad.block := by unfold Addr.add; split <;> rfl
                    rwa [e2] at this
                  refine ⟨q, g1, ReadsL.of fun j p hp => ?_, hspot, hb⟩
                  have hj : j < us.length := by rw [g1.len]; exact (List.getElem?_eq_some_iff.1 hp).1
                  have hcj := c3 j hj
                  have hcj' : ccs[j]? = some (ccs[j]'(by omega)) := by simp [show j < ccs.length by omega]
                  rw [hcj'] at hcj
                  refine ⟨_, ?_, g2.2 j p _ hp hcj'⟩
                  rw [← hcj]
                  congr 1
                  obtain ⟨bb, oo, ss⟩ := ad
                  simp only at hspot
                  subst hspot
                  rw [Addr.add_mid, Addr.add_mid]
              by_cases hl0 : len = 0
              · subst hl0
                exact ⟨[.lst []], by simp [HasL, Has], one (by simp only [Reads]; exact .inl ⟨by trivial, _, _, rfl⟩)⟩
              · obtain ⟨rows, hrl, hrows⟩ : ∃ rows : List (List PV), rows.length = len ∧ ∀ i q, rows[i]? = some q → HasL us q ∧ ReadsL (fun _ => False) w q ad.block (ad.off + i * us.length) := by
                  clear hat hel em h
                  have : ∀ k, k ≤ len → ∃ rows : List (List PV), rows.length = k ∧ ∀ i q, rows[i]? = some q → HasL us q ∧ ReadsL (fun _ => False) w q ad.block (ad.off + i * us.length) := by
                    intro k
                    induction k with
                    | zero => intro _; exact ⟨[], rfl, fun i q hq => by simp at hq⟩
                    | succ k ihk =>
                      intro hk
                      obtain ⟨rows, r1, r2⟩ := ihk (by omega)
                      obtain ⟨q, q1, q2, _⟩ := hrow k (by omega)
                      refine ⟨rows ++ [q], by simp [r1], fun i q' hq' => ?_⟩
                      by_cases hi : i < rows.length
                      · rw [List.getElem?_append_left hi] at hq'; exact r2 i q' hq'
                      · rw [List.getElem?_append_right (by omega)] at hq'
                        have h1 := (List.getElem?_eq_some_iff.1 hq').1
                        simp at h1
                        have : i = k := by omega
                        subst this
                        rw [r1, Nat.sub_self] at hq'
                        simp at hq'; subst hq'
                        exact ⟨q1, q2⟩
                  exact this len (Nat.le_refl _)
                obtain ⟨_, _, _, hspot, hb⟩ := hrow 0 (by omega)
                refine ⟨[.lst rows], ?_, one ?_⟩
                · simp only [HasL, Has, and_true]
                  refine ⟨by omega, fun r hr => ?_⟩
                  obtain ⟨i, hi, rfl⟩ := List.getElem_of_mem hr
                  exact (hrows i _ (List.getElem?_eq_getElem hi)).1
                · simp only [Reads]
                  obtain ⟨bb, oo, ss⟩ := ad
                  simp only at hspot hb hrows
                  subst hspot
                  refine .inr ⟨bb, oo, cap, us.length, by rw [hrl], fun h => h, hb, ReadsLL.of fun i q hq => ?_, by rw [hrl]; exact hlc⟩
                  obtain ⟨g1, g2⟩ := hrows i q hq
                  exact ⟨g1.len.symm, g2⟩
        · cases ht
      · rename_i fs hu
        split at ht
        · rename_i ts' hts
          split at ht
          · rename_i hcl
            cases ht
            obtain ⟨xs, m, em, _, hl, hxl, hf⟩ := DataW.trod_struct hu h
            obtain rfl : m = fuel := by omega
            -- the fields, one by one
            have key : ∀ (fl : List Field) (acc out : List PTy) (k : Nat), (∀ j, fl[j]? = fs[k + j]?) → fieldsT P (flatT P n) fl acc = some out → (∃ qs, HasL acc qs ∧ RdL w qs (cs.take acc.length)) → out.length ≤ cs.length → ∃ qs, HasL out qs ∧ RdL w qs (cs.take out.length) := by
              intro fl
              induction fl with
              | nil => intro acc out k _ ho hq _; simp [fieldsT] at ho; subst ho; exact hq
              | cons f fl ihf =>
                intro acc out k hfl ho hq hle
                unfold fieldsT at ho
                split at ho
                · rename_i us hus
                  split at ho
                  · rename_i hoff
                    obtain ⟨ho1, ho2⟩ := hoff
                    have hfk : fs[k]? = some f := by simpa using (hfl 0).symm
                    have hx := hf k f hfk
                    have hkx : k < xs.length := by rw [hxl]; exact (Array.getElem?_eq_some_iff.1 hfk).1
                    have hx2 : xs[k]? = some xs[k] := by simp [hkx]
                    rw [hx2] at hx
                    obtain ⟨qs2, g1, g2⟩ := ih n f.type _ _ _ us hx hus
                    obtain ⟨qs1, p1, p2⟩ := hq
                    refine ihf (acc ++ us) out (k + 1) (fun j => by have := hfl (j + 1); simpa [Nat.add_assoc, Nat.add_comm 1 j] using this) ho ⟨qs1 ++ qs2, p1.append g1, ?_⟩ hle
                    have e : cs.take (acc ++ us).length = cs.take acc.length ++ (cs.drop f.offset).take (P.cellsOf f.type) := by
                      rw [ho1, ho2, List.length_append, List.take_add]
                    rw [e]
                    exact p2.append g2
                  · cases ho
                · cases ho
            obtain ⟨qs, g1, g2⟩ := key fs.toList [] ts 0 (by simp) hts ⟨[], by simp [HasL], by simp [RdL]⟩ (by rw [hl, hcl]; exact Nat.le_refl _)
            refine ⟨qs, g1, ?_⟩
            rw [show ts.length = cs.length by rw [hl, hcl], List.take_length] at g2
            exact g2
          · cases ht
        · cases ht
      · cases ht

/-! ### The arguments of a law -/
/-- An argument as the pure machine takes it. -/
def argV (g : Bool) (qs : List PV) : V := if g then .agg (qs.map .pv) else (match qs with | [q] => .one (.pv q) | _ => .tup [])

theorem arg_reads {H : Type} {enc : TypeId × Value → H} {P : Program} {w : World} {t : TypeId} {v : Value} {d : DataW H} {ps : List MemPlace} {n : Nat} {ts : List PTy} {g : Bool} (h : DataW.Trod enc P w 0 (fun _ => true) true t v d ps) (ht : flatT P n t = some ts)
    (hg : (g = true ∧ ∃ cs, v = .agg cs) ∨ (g = false ∧ ts.length = 1 ∧ ∀ cs, v ≠ .agg cs)) : ∃ qs, HasL ts qs ∧ VR (fun _ => False) w [] [] (argV g qs) v := by
  obtain ⟨fuel, hf⟩ := h
  obtain ⟨qs, h1, h2⟩ := trod_reads fuel n t _ d ps ts hf ht
  refine ⟨qs, h1, ?_⟩
  rcases hg with ⟨rfl, cs, rfl⟩ | ⟨rfl, hl, hv⟩
  · refine ⟨cs, rfl, by simpa [Value.cells] using h2.1, fun i l c hl hc => ?_⟩
    simp only [List.getElem?_map, Option.map_eq_some_iff] at hl
    obtain ⟨q, hq, rfl⟩ := hl
    exact h2.2 i q c hq hc
  · have hq1 : qs.length = 1 := by rw [← h1.len]; exact hl
    obtain ⟨q, rfl⟩ := List.length_eq_one_iff.1 hq1
    have hvc : v.cells = #[v] := by
      cases v with
      | agg cs => exact absurd rfl (hv cs)
      | _ => rfl
    rw [hvc] at h2
    exact h2.2 0 q v rfl rfl

/-- **A law that the pure machine finds true.** -/
theorem law_calls {Γ : Ctx} {P : Program} {Φ : Nat → Option AFn} {ext : Nat → List V → Option V} (im : Impl Γ P kf Φ ext) {f k : Nat} (hk : kf f = some k) {as : List V} (h : callL Φ ext k as = some (vbool true)) {W : World} {args : Array Value} (hG : Γ.G W)
    (ha : ArgsR (fun _ => False) W as args.toList) : Calls P f args W fun e W' => e = .returned (.bool true) ∧ Below W.heap.size W W' := by
  obtain ⟨_, hs⟩ := callL_sound im hk h
  refine (hs (fun _ => False) W args hG (fun _ h => h.elim) ha).mono fun e W' ⟨v, he, hb, hr⟩ => ?_
  obtain ⟨ρ', _, hv⟩ := hr
  have : v = .bool true := by simpa [thaw, thawL, VR, LR, Reads] using hv
  exact ⟨by rw [he, this], hb⟩

end Gi
