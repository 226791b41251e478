/- The operations that turn the variables (calls apart): a new variable, a literal, a store, make, append. -/
import Derived.Test.YtcjcgihohefldaaDoorGih
namespace Gi
open Go Go.RowKit
set_option linter.unusedVariables false
set_option linter.unusedSimpArgs false
variable {KI : KF}

section
variable {Γ : Ctx} {P : Program} {M0 : Nat → Prop} {base : Nat} {σ : St} {a : Act} {w : World} {ρ : List (Option Nat)}

theorem setCells_row (b : Nat) : ∀ (vs : List Value) (o : Nat) (w : World) (cur : Array Value), Row w b cur → o + vs.length ≤ cur.size →
    ∃ cur', Row (w.setCells b o vs) b cur' ∧ cur'.size = cur.size ∧ ∀ i, cur'[i]? = if o ≤ i ∧ i < o + vs.length then vs[i - o]? else cur[i]?
  | [], o, w, cur, hr, _ => ⟨cur, hr, rfl, fun i => by rw [if_neg (by simp)]⟩
  | v :: vs, o, w, cur, hr, hl => by
    simp only [List.length_cons] at hl
    have h1 : Row (w.setCell ⟨b, o, none⟩ v) b (cur.setIfInBounds o v) := by
      obtain ⟨T, hr⟩ := hr
      exact ⟨T, heap_setCell_same w b o cur T v hr⟩
    obtain ⟨cur', h2, h3, h4⟩ := setCells_row b vs (o + 1) _ _ h1 (by simp; omega)
    refine ⟨cur', h2, by rw [h3]; simp, fun i => ?_⟩
    rw [h4]
    simp only [List.length_cons]
    by_cases e1 : o + 1 ≤ i ∧ i < o + 1 + vs.length
    · rw [if_pos e1, if_pos (by omega), show i - o = (i - (o + 1)) + 1 by omega]
      simp
    · rw [if_neg e1]
      by_cases e2 : i = o
      · subst e2
        rw [if_pos (by omega), Array.getElem?_setIfInBounds_self_of_lt (by omega)]
        simp
      · rw [if_neg (by omega), Array.getElem?_setIfInBounds_ne (by omega)]
theorem setCells_other (b : Nat) : ∀ (vs : List Value) (o : Nat) (w : World) (k : Nat), k ≠ b → (w.setCells b o vs).heap[k]? = w.heap[k]?
  | [], _, _, _, _ => rfl
  | v :: vs, o, w, k, h => by
    rw [World.setCells, setCells_other b vs (o + 1) _ k h]
    exact heap_setCell_other w ⟨b, o, none⟩ k v h
theorem setCells_size (b : Nat) : ∀ (vs : List Value) (o : Nat) (w : World), (w.setCells b o vs).heap.size = w.heap.size
  | [], _, _ => rfl
  | v :: vs, o, w => by rw [World.setCells, setCells_size b vs (o + 1)]; simp
theorem setCells_below (b B : Nat) (hB : B ≤ b) : ∀ (vs : List Value) (o : Nat) (w0 w : World), Below B w0 w → Below B w0 (w.setCells b o vs)
  | [], _, _, _, h => h
  | v :: vs, o, w0, w, h => by
    rw [World.setCells]
    exact setCells_below b B hB vs (o + 1) w0 _ (h.setCell (p := ⟨b, o, none⟩) hB v)

/-- What an operation that turns the variables comes to. -/
def Turns [KF] (P : Program) (M0 : Nat → Prop) (base : Nat) (σ : St) (w : World) (ρ : List (Option Nat)) (v : V) (h' : List AObj) (s : Sem Next) : Prop :=
  ∃ n u w' ρ', s.run P w = .ok n w' ∧ (n = .value u ∨ (n = .skip ∧ u = undef)) ∧ Below base w w' ∧ HR M0 base w' ρ' h' ∧ Ch (Mu M0 ρ σ.h) (Mu M0 ρ' h') w w' ρ ρ' σ.h h' ∧ VR (Mu M0 ρ' h') w' ρ' h' v u

theorem Row.new (w : World) (cells : Array Value) (t : TypeId) : Row (w.alloc (.cells cells t)) w.heap.size cells := ⟨t, heap_alloc_new w _⟩
theorem alloc_old (w : World) (o : Obj) (b : Nat) (h : b < w.heap.size) : (w.alloc o).heap[b]? = w.heap[b]? := by
  simp only [World.alloc, Array.getElem?_push]
  rw [if_neg (by omega)]

/-- a new variable -/
theorem newBox (k : HR M0 base w ρ σ.h) (t : TypeId) (cells : Array Value) (cs : List L) (hl : LRs (Mu M0 ρ σ.h) w ρ σ.h cs cells.toList) :
    ∃ ρ', Below base w (w.alloc (.cells cells t)) ∧ HR M0 base (w.alloc (.cells cells t)) ρ' (σ.h ++ [.box cs]) ∧ Ch (Mu M0 ρ σ.h) (Mu M0 ρ' (σ.h ++ [.box cs])) w (w.alloc (.cells cells t)) ρ ρ' σ.h (σ.h ++ [.box cs]) ∧
      VR (Mu M0 ρ' (σ.h ++ [.box cs])) (w.alloc (.cells cells t)) ρ' (σ.h ++ [.box cs]) (.one (.ptr σ.h.length 0 0)) (.pointer (some ⟨w.heap.size, 0, none⟩)) := by
  obtain ⟨h1, h2⟩ := k.push (w' := w.alloc (.cells cells t)) (by simp) (fun b hb => alloc_old w _ b hb) (some w.heap.size) (.box cs) (fun b e => by cases e; exact Nat.le_refl _)
    (fun c => ⟨w.heap.size, cells, rfl, k.le, Row.new w cells t, hl.ch c⟩)
  refine ⟨_, (Below.refl _ _).alloc k.le _, h1, h2, some w.heap.size, .box cs, ?_, ?_, w.heap.size, rfl, by simp⟩
  · rw [← k.len]; simp
  · simp

theorem viewL_at {h : List AObj} : ∀ {ls : List L} {ps : List PV}, viewL h ls = some ps → ps.length = ls.length ∧ ∀ (i : Nat) l, ls[i]? = some l → ∃ p, ps[i]? = some p ∧ l.view h = some p
  | [], ps, e => by simp [viewL] at e; subst e; exact ⟨rfl, fun i l hl => by simp at hl⟩
  | l :: ls, ps, e => by
    unfold viewL at e
    split at e
    · rename_i p ps' h1 h2
      cases e
      obtain ⟨h3, h4⟩ := viewL_at h2
      refine ⟨by simp [h3], fun i l' hl => ?_⟩
      cases i with
      | zero => simp at hl; subst hl; exact ⟨p, rfl, h1⟩
      | succ i => simpa using h4 i l' (by simpa using hl)
    · cases e

/-- Freezing keeps what a cell is seen as, and what it froze stays frozen. -/
theorem freezeL_view {h : List AObj} (l l' : L) : l'.view (freezeL h l) = l'.view h := by
  cases l with
  | arr o =>
    simp only [freezeL]
    split
    · rename_i z es ho
      cases l' with
      | arr o' =>
        simp only [L.view]
        by_cases e : o = o'
        · subst e
          rw [List.getElem?_set_self (List.getElem?_eq_some_iff.1 ho).1, ho]
        · rw [List.getElem?_set_ne e]
      | _ => rfl
    · rename_i z es ho
      cases l' with
      | arr o' =>
        simp only [L.view]
        by_cases e : o = o'
        · subst e
          rw [List.getElem?_set_self (List.getElem?_eq_some_iff.1 ho).1, ho]
        · rw [List.getElem?_set_ne e]
      | _ => rfl
    · rfl
  | _ => rfl
theorem freezeL_mut {h : List AObj} (l l' : L) (hm : L.mut h l' = false ∨ l' = l) : L.mut (freezeL h l) l' = false := by
  cases l with
  | arr o =>
    simp only [freezeL]
    split
    · rename_i z es ho
      cases l' with
      | arr o' =>
        simp only [L.mut]
        by_cases e : o = o'
        · subst e
          rw [List.getElem?_set_self (List.getElem?_eq_some_iff.1 ho).1]
        · rw [List.getElem?_set_ne e]
          rcases hm with hm | hm
          · exact hm
          · cases hm; exact absurd rfl e
      | _ => rfl
    · rename_i z es ho
      cases l' with
      | arr o' =>
        simp only [L.mut]
        by_cases e : o = o'
        · subst e
          rw [List.getElem?_set_self (List.getElem?_eq_some_iff.1 ho).1]
        · rw [List.getElem?_set_ne e]
          rcases hm with hm | hm
          · exact hm
          · cases hm; exact absurd rfl e
      | _ => rfl
    · rename_i hno hno2
      cases l' with
      | arr o' =>
        rcases hm with hm | hm
        · exact hm
        · cases hm
          simp only [L.mut]
      | _ => rfl
  | _ =>
    rcases hm with hm | hm
    · exact hm
    · subst hm; rfl
theorem freezeLs_view : ∀ (ls : List L) {h : List AObj} (l' : L), l'.view (freezeLs h ls) = l'.view h
  | [], _, _ => rfl
  | l :: ls, h, l' => (freezeLs_view ls (h := freezeL h l) l').trans (freezeL_view l l')
theorem freezeLs_mut : ∀ (ls : List L) {h : List AObj} (l' : L), (L.mut h l' = false ∨ l' ∈ ls) → L.mut (freezeLs h ls) l' = false
  | [], h, l', hm => by rcases hm with hm | hm; exact hm; cases hm
  | l :: ls, h, l', hm => by
    refine freezeLs_mut ls (h := freezeL h l) l' ?_
    rcases hm with hm | hm
    · exact .inl (freezeL_mut l l' (.inl hm))
    · rcases List.mem_cons.1 hm with rfl | hm
      · exact .inl (freezeL_mut _ _ (.inr rfl))
      · exact .inr hm
theorem freezeVs_view : ∀ (vs : List V) {h : List AObj} (l' : L), l'.view (freezeVs h vs) = l'.view h
  | [], _, _ => rfl
  | v :: vs, h, l' => (freezeVs_view vs (h := freezeLs h v.cells) l').trans (freezeLs_view v.cells l')
theorem freezeVs_mut : ∀ (vs : List V) {h : List AObj} (l' : L), (L.mut h l' = false ∨ ∃ v ∈ vs, l' ∈ v.cells) → L.mut (freezeVs h vs) l' = false
  | [], h, l', hm => by rcases hm with hm | ⟨v, hv, _⟩; exact hm; cases hv
  | v :: vs, h, l', hm => by
    refine freezeVs_mut vs (h := freezeLs h v.cells) l' ?_
    rcases hm with hm | ⟨v', hv', hl⟩
    · exact .inl (freezeLs_mut _ l' (.inl hm))
    · rcases List.mem_cons.1 hv' with rfl | hv'
      · exact .inl (freezeLs_mut _ l' (.inr hl))
      · exact .inr ⟨v', hv', hl⟩

/-- the cells of a value, frozen, read as what they are seen as -/
theorem froz_reads {h h1 : List AObj} (k1 : HR M0 base w ρ h1) {ls : List L} {us : List Value} {ps : List PV} (hl : LRs (Mu M0 ρ h1) w ρ h1 ls us) (hv : viewL h ls = some ps)
    (hview : ∀ l ∈ ls, l.view h1 = l.view h) (hmut : ∀ l ∈ ls, L.mut h1 l = false) : ps.length = us.length ∧ ∀ (j : Nat) p, ps[j]? = some p → ∃ v, us[j]? = some v ∧ Reads (Mu M0 ρ h1) w p v := by
  obtain ⟨e1, e2⟩ := viewL_at hv
  refine ⟨e1.trans hl.1, fun j p hp => ?_⟩
  have hj : j < ls.length := by rw [← e1]; exact (List.getElem?_eq_some_iff.1 hp).1
  have hlj : ls[j]? = some ls[j] := by simp [hj]
  have huj : us[j]? = some (us[j]'(by rw [← hl.1]; exact hj)) := by simp [← hl.1, hj]
  obtain ⟨p', hp', hview'⟩ := e2 j _ hlj
  rw [hp] at hp'; cases hp'
  have hmem : ls[j] ∈ ls := List.getElem_mem hj
  exact ⟨_, huj, view_mu k1 (hl.2 j _ _ hlj huj) (by rw [hview _ hmem]; exact hview') (hmut _ hmem)⟩

theorem alloc_sound (s : SR Γ M0 base σ a w ρ) {o : Oper} {d : Md} {ao : AOp} {v : V} {h' : List AObj} {call : Nat → List V → Option V} {t : TypeId} (hop : o.op = .alloc t)
    (hc : cOp P kf d o.op = some ao) (he : eop call σ ao = some (v, h')) : Turns P M0 base σ w ρ v h' (execOp a.eval o) := by
  rw [hop] at hc; simp only [cOp] at hc
  split at hc
  · rename_i v0 hz
    split at hc
    · rename_i cs hcs
      cases hc; cases he
      obtain ⟨i, hi, hz'⟩ : ∃ i, P.info? t = some i ∧ i.zero = some v0 := by
        unfold zeroT at hz
        cases hi : P.info? t with
        | none => simp [hi] at hz
        | some i => simp [hi] at hz; exact ⟨i, rfl, hz⟩
      obtain ⟨ρ', h1, h2, h3, h4⟩ := newBox s.hr t v0.cells cs (cvLs_sound hcs)
      refine ⟨_, _, _, ρ', ?_, .inl rfl, h1, h2, h3, h4⟩
      simp only [execOp, hop]
      simp [Instr.alloc, zeroValue, typeInfo, hi, hz', newVar, newRow, run_newObj_alloc]
    · cases hc
  · cases hc

theorem box_sound (s : SR Γ M0 base σ a w ρ) {o : Oper} {d : Md} {ao : AOp} {v : V} {h' : List AObj} {call : Nat → List V → Option V} {t : TypeId} {x : Operand} (hop : o.op = .box t x)
    (hc : cOp P kf d o.op = some ao) (he : eop call σ ao = some (v, h')) : Turns P M0 base σ w ρ v h' (execOp a.eval o) := by
  rw [hop] at hc; simp only [cOp, Option.map_eq_some_iff] at hc
  obtain ⟨y, hy, rfl⟩ := hc
  simp only [eop] at he
  split at he
  · rename_i hpl
    cases he
    have r := (opd_sound s hy).cells (V.not_tup hpl)
    obtain ⟨ρ', h1, h2, h3, h4⟩ := newBox s.hr t (a.eval x).cells _ r
    refine ⟨_, _, _, ρ', ?_, .inl rfl, h1, h2, h3, h4⟩
    simp only [execOp, hop]
    simp [Instr.box, newVar, newRow, run_newObj_alloc]
  · cases he

/-- a new array, in a new block -/
theorem newArrE {h : List AObj} (k : HR M0 base w ρ h) {w' : World} (hs : w.heap.size < w'.heap.size) (hb : ∀ b, b < w.heap.size → w'.heap[b]? = w.heap[b]?) {z cap : Nat} {es : List (List PV)} {cur : Array Value}
    (hz : 0 < z) (hes : ∀ e ∈ es, e.length = z) (hrow : Row w' w.heap.size cur) (h1 : cur.size = cap * z) (h2 : es.length ≤ cap) (h3 : cap ≤ maxLen)
    (hr : ∀ (i : Nat) (e : List PV) (j : Nat) (p : PV), es[i]? = some e → e[j]? = some p → ∃ v, cur[i * z + j]? = some v ∧ Reads (Mu M0 ρ h) w p v) :
    HR M0 base w' (ρ ++ [some w.heap.size]) (h ++ [.arr z es]) ∧ Ch (Mu M0 ρ h) (Mu M0 (ρ ++ [some w.heap.size]) (h ++ [.arr z es])) w w' ρ (ρ ++ [some w.heap.size]) h (h ++ [.arr z es]) ∧
      VR (Mu M0 (ρ ++ [some w.heap.size]) (h ++ [.arr z es])) w' (ρ ++ [some w.heap.size]) (h ++ [.arr z es]) (.one (.arr h.length)) (.slice (some ⟨w.heap.size, 0, none⟩) es.length cap) := by
  obtain ⟨g1, g2⟩ := k.push (w' := w') (Nat.le_of_lt hs) hb (some w.heap.size) (.arr z es) (fun b e => by cases e; exact Nat.le_refl _)
    (fun c => ⟨hz, hes, k.le, cur, cap, hrow, h1, h2, h3, fun i e j p he hp => by
      obtain ⟨v, hv, hrd⟩ := hr i e j p he hp
      exact ⟨v, hv, Reads.go c.go p v hrd⟩⟩)
  refine ⟨g1, g2, some w.heap.size, .arr z es, ?_, ?_, cur, cap, hrow, h1, h2, h3, rfl⟩
  · rw [← k.len]; simp
  · simp

theorem newArr {h : List AObj} (k : HR M0 base w ρ h) {w' : World} (hs : w.heap.size < w'.heap.size) (hb : ∀ b, b < w.heap.size → w'.heap[b]? = w.heap[b]?) {z cap : Nat} {es : List (List PV)} {cur : Array Value}
    (hz : 0 < z) (hes : ∀ e ∈ es, e.length = z) (hrow : Row w' w.heap.size cur) (h1 : cur.size = cap * z) (h2 : es.length ≤ cap) (h3 : cap ≤ maxLen)
    (hr : ∀ (i : Nat) (e : List PV) (j : Nat) (p : PV), es[i]? = some e → e[j]? = some p → ∃ v, cur[i * z + j]? = some v ∧ Reads (Mu M0 ρ h) w p v) :
    ∃ ρ', HR M0 base w' ρ' (h ++ [.arr z es]) ∧ Ch (Mu M0 ρ h) (Mu M0 ρ' (h ++ [.arr z es])) w w' ρ ρ' h (h ++ [.arr z es]) ∧
      VR (Mu M0 ρ' (h ++ [.arr z es])) w' ρ' (h ++ [.arr z es]) (.one (.arr h.length)) (.slice (some ⟨w.heap.size, 0, none⟩) es.length cap) :=
  ⟨_, newArrE k hs hb hz hes hrow h1 h2 h3 hr⟩

theorem made_get {z : Array Value} {n i j : Nat} (hj : j < z.size) (hi : i < n) : (madeCells z (n * z.size))[i * z.size + j]? = some z[j] := by
  have hlt : i * z.size + j < n * z.size := by
    calc i * z.size + j < i * z.size + z.size := by omega
      _ = (i + 1) * z.size := by rw [Nat.add_mul, Nat.one_mul]
      _ ≤ n * z.size := Nat.mul_le_mul_right _ hi
  have hmod : (i * z.size + j) % z.size = j := by
    rw [Nat.mul_comm, Nat.mul_add_mod]; exact Nat.mod_eq_of_lt hj
  simp [madeCells, hlt, hmod, hj]

theorem cvP_sound {M : Nat → Prop} {v : Value} {p : PV} (e : cvP v = some p) : Reads M w p v := by
  unfold cvP at e
  split at e <;> cases e
  · simp [Reads]
  · simp [Reads]
  · simp [Reads]
  · simp only [Reads]; exact .inl ⟨by trivial, _, _, rfl⟩

theorem make_sound (s : SR Γ M0 base σ a w ρ) {o : Oper} {d : Md} {ao : AOp} {v : V} {h' : List AObj} {call : Nat → List V → Option V} {t : TypeId} {x y : Operand} (hop : o.op = .makeSlice t x y)
    (hc : cOp P kf d o.op = some ao) (he : eop call σ ao = some (v, h')) : Turns P M0 base σ w ρ v h' (execOp a.eval o) := by
  rw [hop] at hc; simp only [cOp] at hc
  split at hc
  · rename_i e x' y' ht hx hy
    split at hc
    · rename_i hxy
      subst hxy
      split at hc
      · rename_i by' z v0 hby hsz hz
        split at hc
        · rename_i zs hzs
          split at hc
          · rename_i hzl
            cases hc
            simp only [eop] at he
            split at he
            · rename_i kk m hm
              split at he
              · rename_i hb
                obtain ⟨h0, hbytes, h63, hzp⟩ := hb
                cases he
                obtain ⟨m, rfl⟩ := Int.eq_ofNat_of_zero_le h0
                have ex := (opd_sound s hx).int hm
                have ey := (opd_sound s hy).int hm
                obtain ⟨i, hi, hz', hs', hb'⟩ : ∃ i, P.info? e = some i ∧ i.zero = some v0 ∧ i.size = z ∧ i.bytes = by' := by
                  unfold zeroT at hz; unfold szT at hsz; unfold byT at hby
                  cases hi : P.info? e with
                  | none => simp [hi] at hz
                  | some i => simp [hi] at hz hsz hby; exact ⟨i, rfl, hz, hsz, hby⟩
                have hu : P.underlying t = some (.slice e) := by
                  unfold elemT at ht
                  split at ht <;> cases ht
                  assumption
                have hcs : v0.cells.size = z := by rw [← hzl, optM_len hzs]; simp
                have hbI : (by' : Int) * (m : Int) ≤ 281474976710656 := by rw [Int.mul_comm]; omega
                have hrun := run_make (P := P) w t e i v0 hu hi hz' kk kk (m : Int) (m : Int) (by omega) (by omega) (by rw [hb']; exact hbI) h63
                simp only [Int.toNat_natCast] at hrun
                rw [hs', ← hcs] at hrun
                rw [hzl]
                have hz0 : 0 < z := by omega
                obtain ⟨ρ', g1, g2, g3⟩ := newArr (h := σ.h) s.hr (w' := w.alloc (.cells (madeCells v0.cells (m * v0.cells.size)) e)) (by simp) (fun b hb => alloc_old w _ b hb) (z := z) (cap := m) (es := List.replicate m zs) hz0
                  (fun e' he' => by rw [(List.mem_replicate.1 he').2]; exact hzl) (Row.new w _ e) (by rw [size_madeCells, hcs]) (by simp) (by simp only [maxLen]; omega)
                  (fun i' e' j p he' hp => by
                    obtain ⟨hi', rfl⟩ : i' < m ∧ zs = e' := by simpa [List.getElem?_replicate] using he'
                    obtain ⟨v', hv', hcv⟩ := optM_of hzs j p hp
                    have hj : j < v0.cells.size := by simpa using (List.getElem?_eq_some_iff.1 hv').1
                    refine ⟨v0.cells[j], by rw [← hcs]; exact made_get hj hi', ?_⟩
                    have : v' = v0.cells[j] := by simpa [hj] using hv'.symm
                    rw [← this]
                    exact cvP_sound hcv)
                refine ⟨.value (.slice (some ⟨w.heap.size, 0, none⟩) m m), .slice (some ⟨w.heap.size, 0, none⟩) m m, _, ρ', ?_, .inl rfl, (Below.refl _ _).alloc s.hr.le _, g1, g2, ?_⟩
                · simp only [execOp, hop, ex, ey]
                  simp only [Sem.run_bind, hrun, Result.andThen_ok, Sem.run_pure]
                · simpa using g3
              · cases he
            · cases he
          · cases hc
        · cases hc
      · cases hc
    · cases hc
  · cases hc

end
end Gi
