/- Of this proof. -/
import Derived.Test.YthklhahdgbbbhaaGreatGmb
import Derived.Laws.IdiomStrings
set_option linter.unusedSimpArgs false
set_option linter.unusedVariables false
namespace Gi
open Go Go.RowKit
variable {KI : KF}
section
variable {Γ : Ctx} {P : Program} {M0 : Nat → Prop} {base : Nat} {σ : St} {a : Act} {w : World} {ρ : List (Option Nat)}
theorem eJ (b : Nat) : ∀ (vs : List Value) (o : Nat) (w : World) (cur : Array Value), jS w b cur → o + vs.length ≤ cur.size →
 ∃ cur', jS (w.setCells b o vs) b cur' ∧ cur'.size = cur.size ∧ ∀ i, cur'[i]? = if o ≤ i ∧ i < o + vs.length then vs[i - o]? else cur[i]?
 | [], o, w, cur, hr, _ => ⟨cur, hr, rfl, fun i => by rw [if_neg (by simp)]⟩
 | v :: vs, o, w, cur, hr, hl => by
  simp only [List.length_cons] at hl
  have h1 : jS (w.setCell ⟨b, o, none⟩ v) b (cur.setIfInBounds o v) := by
   obtain ⟨T, hr⟩ := hr
   exact ⟨T, heap_setCell_same w b o cur T v hr⟩
  obtain ⟨cur', h2, h3, h4⟩ := eJ b vs (o + 1) _ _ h1 (by simp; omega)
  refine ⟨cur', h2, by rw [h3]; simp, fun i => ?_⟩
  rw [h4]
  simp only [List.length_cons]
  by_cases e1 : o + 1 ≤ i ∧ i < o + 1 + vs.length
  ·rw [if_pos e1, if_pos (by omega), show i - o = (i - (o + 1)) + 1 by omega]
   simp
  ·rw [if_neg e1]
   by_cases e2 : i = o
   ·subst e2
    rw [if_pos (by omega), Array.getElem?_setIfInBounds_self_of_lt (by omega)]
    simp
   ·rw [if_neg (by omega), Array.getElem?_setIfInBounds_ne (by omega)]
theorem fH (b : Nat) : ∀ (vs : List Value) (o : Nat) (w : World) (k : Nat), k ≠ b → (w.setCells b o vs).heap[k]? = w.heap[k]?
 | [], _, _, _, _ => rfl
 | v :: vs, o, w, k, h => by
  rw [World.setCells, fH b vs (o + 1) _ k h]
  exact heap_setCell_other w ⟨b, o, none⟩ k v h
theorem fY (b : Nat) : ∀ (vs : List Value) (o : Nat) (w : World), (w.setCells b o vs).heap.size = w.heap.size
 | [], _, _ => rfl
 | v :: vs, o, w => by rw [World.setCells, fY b vs (o + 1)]; simp
theorem cz (b B : Nat) (hB : B ≤ b) : ∀ (vs : List Value) (o : Nat) (w0 w : World), Below B w0 w → Below B w0 (w.setCells b o vs)
 | [], _, _, _, h => h
 | v :: vs, o, w0, w, h => by
  rw [World.setCells]
  exact cz b B hB vs (o + 1) w0 _ (h.setCell (p := ⟨b, o, none⟩) hB v)
def mi [KF] (P : Program) (M0 : Nat → Prop) (base : Nat) (σ : St) (w : World) (ρ : List (Option Nat)) (v : V) (h' : List AObj) (s : Sem Next) : Prop :=
 ∃ n u w' ρ', s.run P w = .ok n w' ∧ (n = .value u ∨ (n = .skip ∧ u = undef)) ∧ Below base w w' ∧ HR M0 base w' ρ' h' ∧ Ch (Mu M0 ρ σ.h) (Mu M0 ρ' h') w w' ρ ρ' σ.h h' ∧ VR (Mu M0 ρ' h') w' ρ' h' v u
theorem jS.new (w : World) (cells : Array Value) (t : TypeId) : jS (w.alloc (.cells cells t)) w.heap.size cells := ⟨t, heap_alloc_new w _⟩
theorem gP (w : World) (o : Obj) (b : Nat) (h : b < w.heap.size) : (w.alloc o).heap[b]? = w.heap[b]? := by
 simp only [World.alloc, Array.getElem?_push]
 rw [if_neg (by omega)]
theorem Mp (k : HR M0 base w ρ σ.h) (t : TypeId) (cells : Array Value) (cs : List L) (hl : uW (Mu M0 ρ σ.h) w ρ σ.h cs cells.toList) :
 ∃ ρ', Below base w (w.alloc (.cells cells t)) ∧ HR M0 base (w.alloc (.cells cells t)) ρ' (σ.h ++ [.box cs]) ∧ Ch (Mu M0 ρ σ.h) (Mu M0 ρ' (σ.h ++ [.box cs])) w (w.alloc (.cells cells t)) ρ ρ' σ.h (σ.h ++ [.box cs]) ∧
  VR (Mu M0 ρ' (σ.h ++ [.box cs])) (w.alloc (.cells cells t)) ρ' (σ.h ++ [.box cs]) (.one (.ptr σ.h.length 0 0)) (.pointer (some ⟨w.heap.size, 0, none⟩)) := by
 obtain ⟨h1, h2⟩ := k.push (w' := w.alloc (.cells cells t)) (by simp) (fun b hb => gP w _ b hb) (some w.heap.size) (.box cs) (fun b e => by cases e; exact Nat.le_refl _)
  (fun c => ⟨w.heap.size, cells, rfl, k.le, jS.new w cells t, hl.ch c⟩)
 refine ⟨_, (Below.refl _ _).alloc k.le _, h1, h2, some w.heap.size, .box cs, ?_, ?_, w.heap.size, rfl, by simp⟩
 ·rw [← k.len]; simp
 ·simp
theorem rz {h : List AObj} : ∀ {ls : List L} {ps : List PV}, viewL h ls = some ps → ps.length = ls.length ∧ ∀ (i : Nat) l, ls[i]? = some l → ∃ p, ps[i]? = some p ∧ l.view h = some p
 | [], ps, e => by simp [viewL] at e; subst e; exact ⟨rfl, fun i l hl => by simp at hl⟩
 | l :: ls, ps, e => by
  unfold viewL at e
  split at e
  ·rename_i p ps' h1 h2
   cases e
   obtain ⟨h3, h4⟩ := rz h2
   refine ⟨by simp [h3], fun i l' hl => ?_⟩
   cases i with
   | zero => simp at hl; subst hl; exact ⟨p, rfl, h1⟩
   | succ i => simpa using h4 i l' (by simpa using hl)
  ·cases e
theorem Ft {h : List AObj} (l l' : L) : l'.view (freezeL h l) = l'.view h := by
 cases l with
 | arr o =>
  simp only [freezeL]
  split
  ·rename_i z es ho
   cases l' with
   | arr o' =>
    simp only [L.view]
    by_cases e : o = o'
    ·subst e
     rw [List.getElem?_set_self (List.getElem?_eq_some_iff.1 ho).1, ho]
    ·rw [List.getElem?_set_ne e]
   | _ => rfl
  ·rfl
 | _ => rfl
theorem zN {h : List AObj} (l l' : L) (hm : L.mut h l' = false ∨ l' = l) : L.mut (freezeL h l) l' = false := by
 cases l with
 | arr o =>
  simp only [freezeL]
  split
  ·rename_i z es ho
   cases l' with
   | arr o' =>
    simp only [L.mut]
    by_cases e : o = o'
    ·subst e
     rw [List.getElem?_set_self (List.getElem?_eq_some_iff.1 ho).1]
    ·rw [List.getElem?_set_ne e]
     rcases hm with hm | hm
     ·exact hm
     ·cases hm; exact absurd rfl e
   | _ => rfl
  ·rename_i hno
   cases l' with
   | arr o' =>
    rcases hm with hm | hm
    ·exact hm
    ·cases hm
     simp only [L.mut]
   | _ => rfl
 | _ =>
  rcases hm with hm | hm
  ·exact hm
  ·subst hm; rfl
theorem nP : ∀ (ls : List L) {h : List AObj} (l' : L), l'.view (freezeLs h ls) = l'.view h
 | [], _, _ => rfl
 | l :: ls, h, l' => (nP ls (h := freezeL h l) l').trans (Ft l l')
theorem mS : ∀ (ls : List L) {h : List AObj} (l' : L), (L.mut h l' = false ∨ l' ∈ ls) → L.mut (freezeLs h ls) l' = false
 | [], h, l', hm => by rcases hm with hm | hm; exact hm; cases hm
 | l :: ls, h, l', hm => by
  refine mS ls (h := freezeL h l) l' ?_
  rcases hm with hm | hm
  ·exact .inl (zN l l' (.inl hm))
  ·rcases List.mem_cons.1 hm with rfl | hm
   ·exact .inl (zN _ _ (.inr rfl))
   ·exact .inr hm
theorem nQ : ∀ (vs : List V) {h : List AObj} (l' : L), l'.view (freezeVs h vs) = l'.view h
 | [], _, _ => rfl
 | v :: vs, h, l' => (nQ vs (h := freezeLs h v.cells) l').trans (nP v.cells l')
theorem oR : ∀ (vs : List V) {h : List AObj} (l' : L), (L.mut h l' = false ∨ ∃ v ∈ vs, l' ∈ v.cells) → L.mut (freezeVs h vs) l' = false
 | [], h, l', hm => by rcases hm with hm | ⟨v, hv, _⟩; exact hm; cases hv
 | v :: vs, h, l', hm => by
  refine oR vs (h := freezeLs h v.cells) l' ?_
  rcases hm with hm | ⟨v', hv', hl⟩
  ·exact .inl (mS _ l' (.inl hm))
  ·rcases List.mem_cons.1 hv' with rfl | hv'
   ·exact .inl (mS _ l' (.inr hl))
   ·exact .inr ⟨v', hv', hl⟩
theorem vF {h h1 : List AObj} (k1 : HR M0 base w ρ h1) {ls : List L} {us : List Value} {ps : List PV} (hl : uW (Mu M0 ρ h1) w ρ h1 ls us) (hv : viewL h ls = some ps)
 (hview : ∀ l ∈ ls, l.view h1 = l.view h) (hmut : ∀ l ∈ ls, L.mut h1 l = false) : ps.length = us.length ∧ ∀ (j : Nat) p, ps[j]? = some p → ∃ v, us[j]? = some v ∧ aV (Mu M0 ρ h1) w p v := by
 obtain ⟨e1, e2⟩ := rz hv
 refine ⟨e1.trans hl.1, fun j p hp => ?_⟩
 have hj : j < ls.length := by rw [← e1]; exact (List.getElem?_eq_some_iff.1 hp).1
 have hlj : ls[j]? = some ls[j] := by simp [hj]
 have huj : us[j]? = some (us[j]'(by rw [← hl.1]; exact hj)) := by simp [← hl.1, hj]
 obtain ⟨p', hp', hview'⟩ := e2 j _ hlj
 rw [hp] at hp'; cases hp'
 have hmem : ls[j] ∈ ls := List.getElem_mem hj
 exact ⟨_, huj, qj k1 (hl.2 j _ _ hlj huj) (by rw [hview _ hmem]; exact hview') (hmut _ hmem)⟩
theorem Gs (s : SR Γ M0 base σ a w ρ) {o : Oper} {d : Md} {ao : AOp} {v : V} {h' : List AObj} {call : Nat → List V → Option V} {t : TypeId} (hop : o.op = .alloc t)
 (hc : iS P kf d o.op = some ao) (he : dN call σ ao = some (v, h')) : mi P M0 base σ w ρ v h' (execOp a.eval o) := by
 rw [hop] at hc; simp only [iS] at hc
 split at hc
 ·rename_i v0 hz
  split at hc
  ·rename_i cs hcs
   cases hc; cases he
   obtain ⟨i, hi, hz'⟩ : ∃ i, P.info? t = some i ∧ i.zero = some v0 := by
    unfold oM at hz
    cases hi : P.info? t with
    | none => simp [hi] at hz
    | some i => simp [hi] at hz; exact ⟨i, rfl, hz⟩
   obtain ⟨ρ', h1, h2, h3, h4⟩ := Mp s.hr t v0.cells cs (vq hcs)
   refine ⟨_, _, _, ρ', ?_, .inl rfl, h1, h2, h3, h4⟩
   simp only [execOp, hop]
   simp [Instr.alloc, zeroValue, typeInfo, hi, hz', newVar, newRow, run_newObj_alloc]
  ·cases hc
 ·cases hc
theorem J0 (s : SR Γ M0 base σ a w ρ) {o : Oper} {d : Md} {ao : AOp} {v : V} {h' : List AObj} {call : Nat → List V → Option V} {t : TypeId} {x : Operand} (hop : o.op = .box t x)
 (hc : iS P kf d o.op = some ao) (he : dN call σ ao = some (v, h')) : mi P M0 base σ w ρ v h' (execOp a.eval o) := by
 rw [hop] at hc; simp only [iS, Option.map_eq_some_iff] at hc
 obtain ⟨y, hy, rfl⟩ := hc
 simp only [dN] at he
 split at he
 ·rename_i hpl
  cases he
  have r := (bc s hy).cells (V.not_tup hpl)
  obtain ⟨ρ', h1, h2, h3, h4⟩ := Mp s.hr t (a.eval x).cells _ r
  refine ⟨_, _, _, ρ', ?_, .inl rfl, h1, h2, h3, h4⟩
  simp only [execOp, hop]
  simp [Instr.box, newVar, newRow, run_newObj_alloc]
 ·cases he
theorem CB {h : List AObj} (k : HR M0 base w ρ h) {w' : World} (hs : w.heap.size < w'.heap.size) (hb : ∀ b, b < w.heap.size → w'.heap[b]? = w.heap[b]?) {z cap : Nat} {es : List (List PV)} {cur : Array Value}
 (hz : 0 < z) (hes : ∀ e ∈ es, e.length = z) (hrow : jS w' w.heap.size cur) (h1 : cur.size = cap * z) (h2 : es.length ≤ cap) (h3 : cap ≤ maxLen)
 (hr : ∀ (i : Nat) (e : List PV) (j : Nat) (p : PV), es[i]? = some e → e[j]? = some p → ∃ v, cur[i * z + j]? = some v ∧ aV (Mu M0 ρ h) w p v) :
 ∃ ρ', HR M0 base w' ρ' (h ++ [.arr z es]) ∧ Ch (Mu M0 ρ h) (Mu M0 ρ' (h ++ [.arr z es])) w w' ρ ρ' h (h ++ [.arr z es]) ∧
  VR (Mu M0 ρ' (h ++ [.arr z es])) w' ρ' (h ++ [.arr z es]) (.one (.arr h.length)) (.slice (some ⟨w.heap.size, 0, none⟩) es.length cap) := by
 obtain ⟨g1, g2⟩ := k.push (w' := w') (Nat.le_of_lt hs) hb (some w.heap.size) (.arr z es) (fun b e => by cases e; exact Nat.le_refl _)
  (fun c => ⟨hz, hes, k.le, cur, cap, hrow, h1, h2, h3, fun i e j p he hp => by
   obtain ⟨v, hv, hrd⟩ := hr i e j p he hp
   exact ⟨v, hv, aV.go c.go p v hrd⟩⟩)
 refine ⟨_, g1, g2, some w.heap.size, .arr z es, ?_, ?_, cur, cap, hrow, h1, h2, h3, rfl⟩
 ·rw [← k.len]; simp
 ·simp
theorem Mj {z : Array Value} {n i j : Nat} (hj : j < z.size) (hi : i < n) : (madeCells z (n * z.size))[i * z.size + j]? = some z[j] := by
 have hlt : i * z.size + j < n * z.size := by
  calc i * z.size + j < i * z.size + z.size := by omega
   _ = (i + 1) * z.size := by rw [Nat.add_mul, Nat.one_mul]
   _ ≤ n * z.size := Nat.mul_le_mul_right _ hi
 have hmod : (i * z.size + j) % z.size = j := by
  rw [Nat.mul_comm, Nat.mul_add_mod]; exact Nat.mod_eq_of_lt hj
 simp [madeCells, hlt, hmod, hj]
theorem Kc {M : Nat → Prop} {v : Value} {p : PV} (e : PG v = some p) : aV M w p v := by
 unfold PG at e
 split at e <;> cases e
 ·simp [aV]
 ·simp [aV]
 ·simp [aV]
 ·simp only [aV]; exact .inl ⟨by trivial, _, _, rfl⟩
theorem Iv (s : SR Γ M0 base σ a w ρ) {o : Oper} {d : Md} {ao : AOp} {v : V} {h' : List AObj} {call : Nat → List V → Option V} {t : TypeId} {x y : Operand} (hop : o.op = .makeSlice t x y)
 (hc : iS P kf d o.op = some ao) (he : dN call σ ao = some (v, h')) : mi P M0 base σ w ρ v h' (execOp a.eval o) := by
 rw [hop] at hc; simp only [iS] at hc
 split at hc
 ·rename_i e x' y' ht hx hy
  split at hc
  ·rename_i hxy
   subst hxy
   split at hc
   ·rename_i by' z v0 hby hsz hz
    split at hc
    ·rename_i zs hzs
     split at hc
     ·rename_i hzl
      cases hc
      simp only [dN] at he
      split at he
      ·rename_i kk m hm
       split at he
       ·rename_i hb
        obtain ⟨h0, hbytes, h63, hzp⟩ := hb
        cases he
        obtain ⟨m, rfl⟩ := Int.eq_ofNat_of_zero_le h0
        have ex := (bc s hx).int hm
        have ey := (bc s hy).int hm
        obtain ⟨i, hi, hz', hs', hb'⟩ : ∃ i, P.info? e = some i ∧ i.zero = some v0 ∧ i.size = z ∧ i.bytes = by' := by
         unfold oM at hz; unfold t9 at hsz; unfold J2 at hby
         cases hi : P.info? e with
         | none => simp [hi] at hz
         | some i => simp [hi] at hz hsz hby; exact ⟨i, rfl, hz, hsz, hby⟩
        have hu : P.underlying t = some (.slice e) := by
         unfold m8 at ht
         split at ht <;> cases ht
         assumption
        have hcs : v0.cells.size = z := by rw [← hzl, ja hzs]; simp
        have hbI : (by' : Int) * (m : Int) ≤ 281474976710656 := by rw [Int.mul_comm]; omega
        have hrun := run_make (P := P) w t e i v0 hu hi hz' kk kk (m : Int) (m : Int) (by omega) (by omega) (by rw [hb']; exact hbI) h63
        simp only [Int.toNat_natCast] at hrun
        rw [hs', ← hcs] at hrun
        rw [hzl]
        have hz0 : 0 < z := by omega
        obtain ⟨ρ', g1, g2, g3⟩ := CB (h := σ.h) s.hr (w' := w.alloc (.cells (madeCells v0.cells (m * v0.cells.size)) e)) (by simp) (fun b hb => gP w _ b hb) (z := z) (cap := m) (es := List.replicate m zs) hz0
         (fun e' he' => by rw [(List.mem_replicate.1 he').2]; exact hzl) (jS.new w _ e) (by rw [size_madeCells, hcs]) (by simp) (by simp only [maxLen]; omega)
         (fun i' e' j p he' hp => by
          obtain ⟨hi', rfl⟩ : i' < m ∧ zs = e' := by simpa [List.getElem?_replicate] using he'
          obtain ⟨v', hv', hcv⟩ := NH hzs j p hp
          have hj : j < v0.cells.size := by simpa using (List.getElem?_eq_some_iff.1 hv').1
          refine ⟨v0.cells[j], by rw [← hcs]; exact Mj hj hi', ?_⟩
          have : v' = v0.cells[j] := by simpa [hj] using hv'.symm
          rw [← this]
          exact Kc hcv)
        refine ⟨.value (.slice (some ⟨w.heap.size, 0, none⟩) m m), .slice (some ⟨w.heap.size, 0, none⟩) m m, _, ρ', ?_, .inl rfl, (Below.refl _ _).alloc s.hr.le _, g1, g2, ?_⟩
        ·simp only [execOp, hop, ex, ey]
         simp only [Sem.run_bind, hrun, Result.andThen_ok, Sem.run_pure]
        ·simpa using g3
       ·cases he
      ·cases he
     ·cases hc
    ·cases hc
   ·cases hc
  ·cases hc
 ·cases hc
end
end Gi
namespace Gi
open Go Go.RowKit
variable {KI : KF}
section
variable {Γ : Ctx} {P : Program} {M0 : Nat → Prop} {base : Nat} {σ : St} {a : Act} {w : World} {ρ : List (Option Nat)}
theorem t8 {t : TypeId} {n b o : Nat} {u : Value} {cur : Array Value} (hn : t9 P t = some n) (hrow : jS w b cur) (hsz : u.cells.size = n) (hle : o + n ≤ cur.size) (h1 : ∀ v ∈ u.cells.toList, v.oneCell' = true) :
 (Instr.storeAt t (.pointer (some ⟨b, o, none⟩)) u).run P w = .ok () (w.setCells b o u.cells.toList) := by
 have hst := run_storeCells_cells (P := P) b o u.cells.toList 0 w (fun j hj => by
  rw [hrow.cell]
  have : o + j < cur.size := by simp at hj; omega
  simp [this]) (fun j _ => hrow.free _) h1
 simp only [Nat.add_zero] at hst
 simp [Instr.storeAt, Instr.sureAddr, storeVar, nU t hn, hsz, hst]
theorem uW.ones {M : Nat → Prop} {h : List AObj} {ls : List L} {us : List Value} (r : uW M w ρ h ls us) : ∀ v ∈ us, v.oneCell' = true := fun v hv => by
 obtain ⟨i, hi, rfl⟩ := List.getElem_of_mem hv
 exact (r.2 i (ls[i]'(by rw [r.1]; exact hi)) us[i] (by simp [r.1, hi]) (by simp [hi])).one
theorem u0 {ob z : Nat} {es : List (List PV)} : ∀ (ls : List L) (h : List AObj), ls.all (L.notArr ob) = true → h[ob]? = some (.arr z es) → (freezeLs h ls)[ob]? = some (.arr z es) := by
 intro ls
 induction ls with
 | nil => intro h _ hh; exact hh
 | cons l ls ih =>
  intro h hall hh
  simp only [List.all_cons, Bool.and_eq_true] at hall
  refine ih (freezeL h l) hall.2 ?_
  cases l with
  | arr o' =>
   simp only [freezeL]
   split
   ·rw [List.getElem?_set_ne (by simpa [L.notArr] using hall.1)]
    exact hh
   ·exact hh
  | _ => exact hh
theorem LN {i i' j j' z : Nat} (hj : j < z) (hj' : j' < z) (h : i * z + j = i' * z + j') : i = i' ∧ j = j' := by
 have h1 : (i * z + j) / z = i := by rw [Nat.mul_comm, Nat.mul_add_div (by omega), Nat.div_eq_of_lt hj, Nat.add_zero]
 have h2 : (i' * z + j') / z = i' := by rw [Nat.mul_comm, Nat.mul_add_div (by omega), Nat.div_eq_of_lt hj', Nat.add_zero]
 have : i = i' := by rw [← h1, h, h2]
 subst this
 exact ⟨rfl, by omega⟩
theorem HA (s : SR Γ M0 base σ a w ρ) {o : Oper} {d : Md} {ao : AOp} {v : V} {h' : List AObj} {call : Nat → List V → Option V} {t : TypeId} {x y : Operand} (hop : o.op = .store t x y)
 (hc : iS P kf d o.op = some ao) (he : dN call σ ao = some (v, h')) : mi P M0 base σ w ρ v h' (execOp a.eval o) := by
 rw [hop] at hc; simp only [iS] at hc
 split at hc
 ·rename_i n x' y' hn hx hy
  cases hc
  simp only [dN] at he
  split at he
  ·rename_i h'' hst
   cases he
   have rx := bc s hx
   have ry := bc s hy
   simp only [bS] at hst
   split at hst
   ·rename_i hlen
    split at hst
    ·rename_i ob i j hev
     rw [hev] at rx
     obtain ⟨r0, obj, hr0, hob, hpt⟩ := rx
     split at hst
     ·rename_i cs hcs
      rw [hcs] at hob; cases hob
      split at hst
      ·rename_i hcond
       obtain ⟨rfl, hle, hpl⟩ := hcond
       cases hst
       have hls := ry.cells (V.not_tup hpl)
       obtain ⟨b, cur, e, hbase, hrow, hcells⟩ := s.hr.objs ob _ r0 hcs hr0
       subst e
       obtain ⟨b', e', hu⟩ := hpt
       cases e'
       simp only [AObj.z, Nat.zero_mul, Nat.zero_add] at hu
       have hsz : (a.eval y).cells.size = n := by rw [← hlen, hls.1]; simp
       have hcl : cs.length = cur.size := by rw [hcells.1]; simp
       have hrun := t8 (P := P) hn hrow hsz (by omega) hls.ones (o := j)
       obtain ⟨cur', hrow', hsz', hget⟩ := eJ b (a.eval y).cells.toList j w cur hrow (by simp [hsz]; omega)
       obtain ⟨g1, g2⟩ := s.hr.upd (w' := w.setCells b j (a.eval y).cells.toList) (ob' := .box (putAt cs j (y'.ev σ).cells)) hcs hr0 rfl trivial (fY b _ j w).symm
        (fun k hk => fH b _ j w k (fun e => hk (by rw [e])))
        (fun k c e hr => by cases e; rw [hr.inj hrow]; exact ⟨cur', hrow', hsz'⟩)
        (fun c => ⟨b, cur', rfl, hbase, hrow', by rw [zj _ _ _ (by omega)]; simp only [Array.length_toList, hsz']; exact hcl, fun k l u hl hu' => by
         rw [zh _ _ _ (by omega)] at hl
         rw [Array.getElem?_toList, hget] at hu'
         simp only [Array.length_toList, hsz] at hu'
         rw [hlen] at hl
         split at hl
         ·rename_i hin
          rw [if_pos hin] at hu'
          exact (hls.2 _ l u hl hu').ch c
         ·rename_i hin
          rw [if_neg hin] at hu'
          exact (hcells.2 _ l u hl (by simpa using hu')).ch c⟩)
       refine ⟨.skip, undef, _, ρ, ?_, .inr ⟨rfl, rfl⟩, cz b base hbase _ j w w (Below.refl _ _), g1, g2, VR.undef⟩
       simp only [execOp, hop, hu]
       simp [hrun]
      ·cases hst
     ·rename_i z es hcs
      rw [hcs] at hob; cases hob
      split at hst
      ·rename_i e ps hei hps
       split at hst
       ·rename_i hcond
        obtain ⟨hle, hna⟩ := hcond
        cases hst
        have hnt : ∀ xs, y'.ev σ ≠ .tup xs := by
         intro xs e'
         rw [e'] at hps
         simp [V.cells, viewL, L.view] at hps
        have hls := ry.cells hnt
        obtain ⟨k1, c1⟩ := s.hr.freezeLs (y'.ev σ).cells
        have hcs1 : (freezeLs σ.h (y'.ev σ).cells)[ob]? = some (.arr z es) := u0 _ _ hna hcs
        have hls1 : uW (Mu M0 ρ (freezeLs σ.h (y'.ev σ).cells)) w ρ (freezeLs σ.h (y'.ev σ).cells) (y'.ev σ).cells (a.eval y).cells.toList := hls.ch c1
        obtain ⟨hpl, hpr⟩ := vF k1 hls1 hps (fun l _ => nP _ l) (fun l hl => mS _ l (.inr hl))
        obtain ⟨hz, hes, kx⟩ := k1.objs ob _ r0 hcs1 hr0
        obtain ⟨b', e', hu⟩ := hpt
        subst e'
        simp only [AObj.z] at hu
        obtain ⟨hbase, cur, cap, hrow, h1, h2, h3, h4⟩ := kx
        have hsz : (a.eval y).cells.size = n := by rw [← hlen, hls.1]; simp
        have hpn : ps.length = n := by rw [hpl]; simpa using hsz
        have hez : e.length = z := hes e (List.mem_of_getElem? hei)
        have hilt : i < es.length := (List.getElem?_eq_some_iff.1 hei).1
        have hfit : i * z + j + n ≤ cur.size := by
         rw [h1]
         calc i * z + j + n ≤ i * z + z := by omega
          _ = (i + 1) * z := by rw [Nat.add_mul, Nat.one_mul]
          _ ≤ cap * z := Nat.mul_le_mul_right _ (by omega)
        have hrun := t8 (P := P) hn hrow hsz hfit hls.ones
        obtain ⟨cur', hrow', hsz', hget⟩ := eJ b' (a.eval y).cells.toList (i * z + j) w cur hrow (by simp only [Array.length_toList, hsz]; exact hfit)
        obtain ⟨g1, g2⟩ := k1.upd (w' := w.setCells b' (i * z + j) (a.eval y).cells.toList) (ob' := .arr z (es.set i (putAt e j ps))) hcs1 hr0 rfl ⟨rfl, by simp⟩ (fY b' _ _ w).symm
         (fun k hk => fH b' _ _ w k (fun e => hk (by rw [e])))
         (fun k c e hr => by cases e; rw [hr.inj hrow]; exact ⟨cur', hrow', hsz'⟩)
         (fun c => by
          refine ⟨hz, fun e1 he1 => ?_, hbase, cur', cap, hrow', by rw [hsz']; exact h1, by simpa using h2, h3, fun i1 e1 j1 p1 hi1 hj1 => ?_⟩
          ·rcases List.mem_or_eq_of_mem_set he1 with hm | rfl
           ·exact hes e1 hm
           ·rw [zj _ _ _ (by omega)]; exact hez
          ·rw [hget]
           simp only [Array.length_toList, hsz]
           by_cases hii : i = i1
           ·subst hii
            rw [List.getElem?_set_self hilt] at hi1
            cases hi1
            rw [zh _ _ _ (by omega), hpn] at hj1
            split at hj1
            ·rename_i hin
             obtain ⟨u, hu1, hu2⟩ := hpr _ _ hj1
             exact ⟨u, by rw [if_pos (by omega), show i * z + j1 - (i * z + j) = j1 - j by omega]; exact hu1, aV.go c.go p1 u hu2⟩
            ·rename_i hin
             obtain ⟨u, hu1, hu2⟩ := h4 i e j1 p1 hei hj1
             exact ⟨u, by rw [if_neg (by omega)]; exact hu1, aV.go c.go p1 u hu2⟩
           ·rw [List.getElem?_set_ne hii] at hi1
            obtain ⟨u, hu1, hu2⟩ := h4 i1 e1 j1 p1 hi1 hj1
            have hj1z : j1 < z := by rw [← hes e1 (List.mem_of_getElem? hi1)]; exact (List.getElem?_eq_some_iff.1 hj1).1
            refine ⟨u, ?_, aV.go c.go p1 u hu2⟩
            rw [if_neg]
            ·exact hu1
            ·intro hin
             have : ∃ q, q < z ∧ i1 * z + j1 = i * z + q := ⟨i1 * z + j1 - i * z, by omega, by omega⟩
             obtain ⟨q, hq, e2⟩ := this
             exact hii (LN hj1z hq e2).1.symm)
        refine ⟨.skip, undef, _, ρ, ?_, .inr ⟨rfl, rfl⟩, cz b' base hbase _ _ w w (Below.refl _ _), g1, c1.trans g2, VR.undef⟩
        simp only [execOp, hop, hu]
        simp [hrun]
       ·cases hst
      ·cases hst
     ·cases hst
    ·cases hst
   ·cases hst
  ·cases he
 ·cases hc
end
end Gi
namespace Gi
open Go Go.RowKit
variable {KI : KF}
section
variable {Γ : Ctx} {P : Program} {M0 : Nat → Prop} {base : Nat} {σ : St} {a : Act} {w : World} {ρ : List (Option Nat)}
theorem qi {h : List AObj} : ∀ {vs : List V} {es : List (List PV)}, aZ h vs = some es → es.length = vs.length ∧ ∀ (i : Nat) v, vs[i]? = some v → ∃ e, es[i]? = some e ∧ viewL h v.cells = some e
 | [], es, e => by simp [aZ] at e; subst e; exact ⟨rfl, fun i l hl => by simp at hl⟩
 | v :: vs, es, e => by
  unfold aZ at e
  split at e
  ·rename_i p ps' h1 h2
   cases e
   obtain ⟨h3, h4⟩ := qi h2
   refine ⟨by simp [h3], fun i l' hl => ?_⟩
   cases i with
   | zero => simp at hl; subst hl; exact ⟨p, rfl, h1⟩
   | succ i => simpa using h4 i l' (by simpa using hl)
  ·cases e
theorem vD {z : Nat} : ∀ (us : List Value) (k : Nat) (cells : Array Value), (∀ u ∈ us, u.cells.size = z) → (k + us.length) * z ≤ cells.size →
 ∃ cells', Instr.fill (fun i => some (i * z, z)) cells ((us.zipIdx k).map fun x => (x.2, x.1)) = some cells' ∧ cells'.size = cells.size ∧
  (∀ i j u, us[i]? = some u → j < z → cells'[(k + i) * z + j]? = u.cells[j]?) ∧ (∀ p, p < k * z → cells'[p]? = cells[p]?)
 | [], k, cells, _, _ => ⟨cells, rfl, rfl, fun i j u hu => by simp at hu, fun p _ => rfl⟩
 | u :: us, k, cells, hu, hl => by
  simp only [List.length_cons] at hl
  have hsz : u.cells.size = z := hu u (by simp)
  have hkz : k * z + z ≤ cells.size := by
   refine Nat.le_trans ?_ hl
   calc k * z + z = (k + 1) * z := by rw [Nat.add_mul, Nat.one_mul]
    _ ≤ (k + (us.length + 1)) * z := Nat.mul_le_mul_right _ (by omega)
  have hcond : ¬ (u.cells.size ≠ z || decide (k * z + u.cells.size > cells.size)) = true := by simp [hsz]; omega
  have hfold : u.cells.zipIdx.foldl (fun cs (x : Value × Nat) => cs.setIfInBounds (k * z + x.2) x.1) cells = (u.cells.toList.zipIdx 0).foldl (fun cs (x : Value × Nat) => cs.setIfInBounds (k * z + x.2) x.1) cells := by
   rw [← Array.foldl_toList]; simp
  obtain ⟨cells', h1, h2, h3, h4⟩ := vD us (k + 1) ((u.cells.toList.zipIdx 0).foldl (fun cs (x : Value × Nat) => cs.setIfInBounds (k * z + x.2) x.1) cells)
   (fun u' hu' => hu u' (by simp [hu'])) (by rw [zp]; rwa [show k + 1 + us.length = k + (us.length + 1) by omega])
  refine ⟨cells', ?_, by rw [h2, zp], fun i j u' hu' hj => ?_, fun p hp => ?_⟩
  ·simp only [List.zipIdx_cons, List.map_cons, Instr.fill]
   rw [if_neg hcond]
   rw [hfold]
   exact h1
  ·cases i with
   | zero =>
    simp at hu'; subst hu'
    rw [Nat.add_zero, h4 _ (by rw [Nat.add_mul, Nat.one_mul]; omega), CH _ _ 0 cells (by simp [hsz]; omega)]
    rw [if_pos (by simp [hsz]; omega)]
    simp
   | succ i =>
    have := h3 i j u' (by simpa using hu') hj
    rwa [show k + 1 + i = k + (i + 1) by omega] at this
  ·rw [h4 p (by rw [Nat.add_mul, Nat.one_mul]; omega), CH _ _ 0 cells (by simp [hsz]; omega), if_neg (by omega)]
theorem EW (s : SR Γ M0 base σ a w ρ) {o : Oper} {d : Md} {ao : AOp} {v : V} {h' : List AObj} {call : Nat → List V → Option V} {t : TypeId} {n : Nat} {parts : Array (Nat × Operand)} (hop : o.op = .buildSlice t n parts)
 (hc : iS P kf d o.op = some ao) (he : dN call σ ao = some (v, h')) : mi P M0 base σ w ρ v h' (execOp a.eval o) := by
 rw [hop] at hc; simp only [iS] at hc
 split at hc
 ·rename_i e ps ht hps
  split at hc
  ·rename_i z v0 hsz hz
   split at hc
   ·rename_i hcond
    simp only [Bool.and_eq_true, beq_iff_eq] at hcond
    obtain ⟨hrange, hv0⟩ := hcond
    cases hc
    by_cases q : (d.st && !ps.isEmpty) = true
    ·rw [if_pos q] at he; cases he
    rw [if_neg q] at he
    simp only [dN] at he
    split at he
    ·rename_i hchk
     simp only [Bool.and_eq_true, decide_eq_true_eq, List.all_eq_true, beq_iff_eq, List.mem_map, forall_exists_index, and_imp, forall_apply_eq_imp_iff₂, List.length_map] at hchk
     obtain ⟨⟨hall, hz0⟩, h24⟩ := hchk
     split at he
     ·rename_i es hes
      cases he
      obtain ⟨i, hi, hz', hs'⟩ : ∃ i, P.info? e = some i ∧ i.zero = some v0 ∧ i.size = z := by
       unfold oM at hz; unfold t9 at hsz
       cases hi : P.info? e with
       | none => simp [hi] at hz
       | some i => simp [hi] at hz hsz; exact ⟨i, rfl, hz, hsz⟩
      have hu : P.underlying t = some (.slice e) := by
       unfold m8 at ht
       split at ht <;> cases ht
       assumption
      have hplen : ps.length = n := by rw [ja hps]; have := congrArg List.length hrange; simpa using this
      have hparts : (parts.map fun x => (x.1, a.eval x.2)).toList = ((parts.toList.map fun x => a.eval x.2).zipIdx 0).map fun x => (x.2, x.1) := by
       apply List.ext_getElem?
       intro k
       simp only [Array.toList_map, List.getElem?_map, List.getElem?_zipIdx, Nat.zero_add]
       have hk : (parts.toList.map (·.1))[k]? = (List.range n)[k]? := by rw [hrange]
       simp only [List.getElem?_map] at hk
       cases hq : parts.toList[k]? with
       | none => simp
       | some q =>
        simp only [hq, Option.map_some] at hk ⊢
        obtain ⟨h1, h2⟩ := List.getElem?_eq_some_iff.1 hk.symm
        simp at h2
        simp [← h2]
      have hval : ∀ (k : Nat) q, (parts.toList.map fun x => a.eval x.2)[k]? = some q → ∃ y, ps[k]? = some y ∧ VR (Mu M0 ρ σ.h) w ρ σ.h (y.ev σ) q ∧ uW (Mu M0 ρ σ.h) w ρ σ.h (y.ev σ).cells q.cells.toList := by
       intro k q hq
       simp only [List.getElem?_map, Option.map_eq_some_iff] at hq
       obtain ⟨q0, hq0, rfl⟩ := hq
       obtain ⟨y, hy, hy'⟩ := lu hps k q0 hq0
       have r := bc s hy'
       obtain ⟨e1, _, he1⟩ := (qi hes).2 k (y.ev σ) (by simp [hy])
       refine ⟨y, hy, r, r.cells ?_⟩
       intro xs exs
       rw [exs] at he1
       simp [V.cells, viewL, L.view] at he1
      have hsizes : ∀ u ∈ (parts.toList.map fun x => a.eval x.2), u.cells.size = z := by
       intro u hu'
       obtain ⟨k, hk, rfl⟩ := List.getElem_of_mem hu'
       obtain ⟨y, hy, _, hl⟩ := hval k _ (List.getElem?_eq_getElem hk)
       have := hall y (List.mem_of_getElem? hy)
       rw [← this, hl.1]; simp
      have hnl : (parts.toList.map fun x => a.eval x.2).length = n := by rw [List.length_map, ← ja hps, hplen]
      obtain ⟨cells', hf1, hf2, hf3, _⟩ := vD (z := z) (parts.toList.map fun x => a.eval x.2) 0 ((Array.range (n * z)).map (v0.cells[· % v0.cells.size]!)) hsizes (by rw [hnl]; simp)
      rw [← hparts, Array.toList_map] at hf1
      have hn24 : ¬ n * z > 2 ^ 24 := by rw [hplen] at h24; omega
      have hrun : (Instr.buildSlice t n (parts.map fun x => (x.1, a.eval x.2))).run P w = .ok (.slice (some ⟨w.heap.size, 0, none⟩) n n) (w.alloc (.cells cells' e)) := by
       simp only [Instr.buildSlice, Sem.run_bind, run_underlying hu, Result.andThen_ok, nU e hsz]
       rw [if_neg hn24]
       by_cases hnz : n * z = 0
       ·have hr0 : Array.range (n * z) = #[] := by rw [hnz]; rfl
        rw [hr0] at hf1
        simp only [hnz, if_true, Sem.run_bind, Sem.run_pure, Result.andThen_ok]
        have hr1 : Array.range 0 = #[] := rfl
        simp only [hr1, Array.map_empty] at hf1 ⊢
        simp [hf1, newRow]
       ·simp only [hnz, if_false]
        have hzv : (zeroValue e).run P w = .ok v0 w := by simp [zeroValue, typeInfo, hi, hz']
        simp [hzv, hf1, newRow]
      obtain ⟨k1, c1⟩ := s.hr.freezeVs (ps.map (Opd.ev σ))
      have hel : es.length = n := by rw [(qi hes).1]; simpa using hplen
      have hrow : ∀ (i : Nat) (e1 : List PV), es[i]? = some e1 → ∃ y q, ps[i]? = some y ∧ (parts.toList.map fun x => a.eval x.2)[i]? = some q ∧ viewL σ.h (y.ev σ).cells = some e1 ∧ uW (Mu M0 ρ σ.h) w ρ σ.h (y.ev σ).cells q.cells.toList := by
       intro i e1 he1
       have hi' : i < n := by rw [← hel]; exact (List.getElem?_eq_some_iff.1 he1).1
       have hq : (parts.toList.map fun x => a.eval x.2)[i]? = some ((parts.toList.map fun x => a.eval x.2)[i]'(by rw [hnl]; exact hi')) := by simp [hi', hnl]
       obtain ⟨y, hy, _, hl⟩ := hval i _ hq
       obtain ⟨e2, he2, hv2⟩ := (qi hes).2 i (y.ev σ) (by simp [hy])
       rw [he1] at he2; cases he2
       exact ⟨y, _, hy, hq, hv2, hl⟩
      obtain ⟨ρ', g1, g2, g3⟩ := CB (h := freezeVs σ.h (ps.map (Opd.ev σ))) k1 (w' := w.alloc (.cells cells' e)) (by simp) (fun b hb => gP w _ b hb) (z := z) (cap := n) (es := es) hz0
       (fun e1 he1 => by
        obtain ⟨k, hk, rfl⟩ := List.getElem_of_mem he1
        obtain ⟨y, q, hy, hq, hv, hl⟩ := hrow k _ (List.getElem?_eq_getElem hk)
        rw [(rz hv).1]
        exact hall y (List.mem_of_getElem? hy)) (jS.new w cells' e) (by rw [hf2]; simp) (by omega)
       (by
        have : n ≤ n * z := Nat.le_mul_of_pos_right n hz0
        simp only [maxLen]; omega)
       (fun i e1 j p he1 hp => by
        obtain ⟨y, q, hy, hq, hv, hl⟩ := hrow i e1 he1
        obtain ⟨hpl, hpr⟩ := vF k1 (hl.ch c1) hv (fun l _ => nQ _ l) (fun l hl' => oR _ l (.inr ⟨_, List.mem_map.2 ⟨y, List.mem_of_getElem? hy, rfl⟩, hl'⟩))
        obtain ⟨u, hu1, hu2⟩ := hpr j p hp
        have hj : j < z := by
         have h1 := (List.getElem?_eq_some_iff.1 hp).1
         rw [(rz hv).1, hall y (List.mem_of_getElem? hy)] at h1
         exact h1
        refine ⟨u, ?_, hu2⟩
        have := hf3 i j q hq hj
        rw [Nat.zero_add] at this
        rw [this]
        simpa using hu1)
      refine ⟨.value (.slice (some ⟨w.heap.size, 0, none⟩) n n), .slice (some ⟨w.heap.size, 0, none⟩) n n, _, ρ', ?_, .inl rfl, (Below.refl _ _).alloc s.hr.le _, g1, c1.trans g2, ?_⟩
      ·simp only [execOp, hop]
       have : (parts.map fun (x : Nat × Operand) => match x with | (i, x) => (i, a.eval x)) = parts.map fun x => (x.1, a.eval x.2) := rfl
       simp only [Sem.run_bind]
       first | rw [hrun] | (rw [this, hrun])
       simp
      ·rw [hel] at g3; exact g3
     ·cases he
    ·cases he
   ·cases hc
  ·cases hc
 ·cases hc
theorem Bo : ∀ {ls : List L} {ps : List PV}, bw ls = some ps → ls = ps.map .pv
 | [], ps, e => by simp only [bw] at e; cases e; rfl
 | l :: ls, ps, e => by
  cases l with
  | pv p =>
   simp only [bw] at e
   split at e
   ·rename_i qs h1
    cases e
    rw [Bo h1]; rfl
   ·cases e
  | _ => cases e
theorem tV : ∀ {vs : List V} {es : List (List PV)}, cd vs = some es → es.length = vs.length ∧ ∀ (i : Nat) v, vs[i]? = some v → ∃ e, es[i]? = some e ∧ v.cells = e.map .pv
 | [], es, e => by simp only [cd] at e; cases e; exact ⟨rfl, fun i l hl => by simp at hl⟩
 | v :: vs, es, e => by
  simp only [cd] at e
  split at e
  ·rename_i p ps' h1 h2
   cases e
   obtain ⟨h3, h4⟩ := tV h2
   refine ⟨by simp [h3], fun i l' hl => ?_⟩
   cases i with
   | zero => simp at hl; subst hl; exact ⟨p, rfl, Bo h1⟩
   | succ i => simpa using h4 i l' (by simpa using hl)
  ·cases e
theorem EV (s : SR Γ M0 base σ a w ρ) {o : Oper} {d : Md} {z : Nat} {ps : List Opd} {v : V} {call : Nat → List V → Option V}
 (hc : iS P kf d o.op = some (.buildF z ps)) (he : cF call σ (.buildF z ps) = some v) : ∃ u w', (execOp a.eval o).run P w = .ok (.value u) w' ∧ Below w.heap.size w w' ∧ VR (Mu M0 ρ σ.h) w' ρ σ.h v u := by
 obtain ⟨t, n, parts, hop⟩ : ∃ t n parts, o.op = .buildSlice t n parts := by
  cases hop : o.op
  case buildSlice t n parts => exact ⟨t, n, parts, rfl⟩
  case makeFunc fn first caps => rw [hop] at hc; cases fn <;> simp only [iS] at hc <;> first | (cases hc; done) | ((repeat' (split at hc)) <;> cases hc)
  all_goals
   rw [hop] at hc
   simp only [iS] at hc
   first
   | (cases hc; done)
   | (simp only [Option.map_eq_some_iff] at hc; obtain ⟨_, _, hc⟩ := hc; cases hc; done)
   | ((repeat' (split at hc)) <;> cases hc)
 rw [hop] at hc; simp only [iS] at hc
 split at hc
 ·rename_i e ps' ht hps
  split at hc
  ·rename_i z' v0 hsz hz
   split at hc
   ·rename_i hcond
    simp only [Bool.and_eq_true, beq_iff_eq] at hcond
    obtain ⟨hrange, hv0⟩ := hcond
    by_cases q : (d.st && !ps'.isEmpty) = true
    case neg => rw [if_neg q] at hc; cases hc
    rw [if_pos q] at hc
    cases hc
    simp only [cF] at he
    split at he
    ·rename_i es hes
     split at he
     ·rename_i hchk
      cases he
      obtain ⟨hne, hlen, hz0, h24⟩ := hchk
      have hes1 : es.length = ps.length := by rw [(tV hes).1]; simp
      rw [hes1] at h24
      have hall : ∀ y ∈ ps, (y.ev σ).cells.length = z := by
       intro y hy
       obtain ⟨k, hk, rfl⟩ := List.getElem_of_mem hy
       obtain ⟨e1, he1, hcl⟩ := (tV hes).2 k (ps[k].ev σ) (by simp [hk])
       rw [hcl]
       have := List.all_eq_true.1 hlen e1 (List.mem_of_getElem? he1)
       simpa using this
      obtain ⟨i, hi, hz', hs'⟩ : ∃ i, P.info? e = some i ∧ i.zero = some v0 ∧ i.size = z := by
       unfold oM at hz; unfold t9 at hsz
       cases hi : P.info? e with
       | none => simp [hi] at hz
       | some i => simp [hi] at hz hsz; exact ⟨i, rfl, hz, hsz⟩
      have hu : P.underlying t = some (.slice e) := by
       unfold m8 at ht
       split at ht <;> cases ht
       assumption
      have hplen : ps.length = n := by rw [ja hps]; have := congrArg List.length hrange; simpa using this
      have hparts : (parts.map fun x => (x.1, a.eval x.2)).toList = ((parts.toList.map fun x => a.eval x.2).zipIdx 0).map fun x => (x.2, x.1) := by
       apply List.ext_getElem?
       intro k
       simp only [Array.toList_map, List.getElem?_map, List.getElem?_zipIdx, Nat.zero_add]
       have hk : (parts.toList.map (·.1))[k]? = (List.range n)[k]? := by rw [hrange]
       simp only [List.getElem?_map] at hk
       cases hq : parts.toList[k]? with
       | none => simp
       | some q =>
        simp only [hq, Option.map_some] at hk ⊢
        obtain ⟨h1, h2⟩ := List.getElem?_eq_some_iff.1 hk.symm
        simp at h2
        simp [← h2]
      have hval : ∀ (k : Nat) q, (parts.toList.map fun x => a.eval x.2)[k]? = some q → ∃ y, ps[k]? = some y ∧ VR (Mu M0 ρ σ.h) w ρ σ.h (y.ev σ) q ∧ uW (Mu M0 ρ σ.h) w ρ σ.h (y.ev σ).cells q.cells.toList := by
       intro k q hq
       simp only [List.getElem?_map, Option.map_eq_some_iff] at hq
       obtain ⟨q0, hq0, rfl⟩ := hq
       obtain ⟨y, hy, hy'⟩ := lu hps k q0 hq0
       have r := bc s hy'
       obtain ⟨e1, _, he1⟩ := (tV hes).2 k (y.ev σ) (by simp [hy])
       refine ⟨y, hy, r, r.cells ?_⟩
       intro xs exs
       rw [exs] at he1
       cases e1 <;> simp [V.cells] at he1
      have hsizes : ∀ u ∈ (parts.toList.map fun x => a.eval x.2), u.cells.size = z := by
       intro u hu'
       obtain ⟨k, hk, rfl⟩ := List.getElem_of_mem hu'
       obtain ⟨y, hy, _, hl⟩ := hval k _ (List.getElem?_eq_getElem hk)
       have := hall y (List.mem_of_getElem? hy)
       rw [← this, hl.1]; simp
      have hnl : (parts.toList.map fun x => a.eval x.2).length = n := by rw [List.length_map, ← ja hps, hplen]
      obtain ⟨cells', hf1, hf2, hf3, _⟩ := vD (z := z) (parts.toList.map fun x => a.eval x.2) 0 ((Array.range (n * z)).map (v0.cells[· % v0.cells.size]!)) hsizes (by rw [hnl]; simp)
      rw [← hparts, Array.toList_map] at hf1
      have hn24 : ¬ n * z > 2 ^ 24 := by rw [hplen] at h24; omega
      have hrun : (Instr.buildSlice t n (parts.map fun x => (x.1, a.eval x.2))).run P w = .ok (.slice (some ⟨w.heap.size, 0, none⟩) n n) (w.alloc (.cells cells' e)) := by
       simp only [Instr.buildSlice, Sem.run_bind, run_underlying hu, Result.andThen_ok, nU e hsz]
       rw [if_neg hn24]
       by_cases hnz : n * z = 0
       ·have hr0 : Array.range (n * z) = #[] := by rw [hnz]; rfl
        rw [hr0] at hf1
        simp only [hnz, if_true, Sem.run_bind, Sem.run_pure, Result.andThen_ok]
        have hr1 : Array.range 0 = #[] := rfl
        simp only [hr1, Array.map_empty] at hf1 ⊢
        simp [hf1, newRow]
       ·simp only [hnz, if_false]
        have hzv : (zeroValue e).run P w = .ok v0 w := by simp [zeroValue, typeInfo, hi, hz']
        simp [hzv, hf1, newRow]
      have hel : es.length = n := by rw [hes1, hplen]
      obtain ⟨k1, c1⟩ := s.hr.world (w' := w.alloc (.cells cells' e)) (by simp) (fun b hb => gP w _ b hb)
      refine ⟨.slice (some ⟨w.heap.size, 0, none⟩) n n, w.alloc (.cells cells' e), ?_, (Below.refl _ _).alloc (Nat.le_refl _) _, ?_⟩
      ·simp only [execOp, hop]
       have : (parts.map fun (x : Nat × Operand) => match x with | (i, x) => (i, a.eval x)) = parts.map fun x => (x.1, a.eval x.2) := rfl
       simp only [Sem.run_bind]
       first | rw [hrun] | (rw [this, hrun])
       simp
      ·show aV _ _ (.lst es) _
       simp only [aV]
       refine .inr ⟨w.heap.size, 0, n, z, by rw [hel], fun hm => ?_, by simp, ep.of fun i e1 he1 => ?_, by rw [hel]; exact Nat.le_refl _⟩
       ·rcases hm with hm | ⟨oo, ob, ho, hmut, hr⟩
        ·have := s.hr.old _ hm; have := s.hr.le; omega
        ·have := (s.hr.objs oo ob _ ho hr).lt (AObj.mut_live hmut)
         omega
       ·have hi' : i < n := by rw [← hel]; exact (List.getElem?_eq_some_iff.1 he1).1
        have hq : (parts.toList.map fun x => a.eval x.2)[i]? = some ((parts.toList.map fun x => a.eval x.2)[i]'(by rw [hnl]; exact hi')) := by simp [hi', hnl]
        obtain ⟨y, hy, _, hl⟩ := hval i _ hq
        obtain ⟨e2, he2, hv2⟩ := (tV hes).2 i (y.ev σ) (by simp [hy])
        rw [he1] at he2; cases he2
        have hlz : e1.length = z := by have := hall y (List.mem_of_getElem? hy); rw [hv2] at this; simpa using this
        refine ⟨hlz, fQ.of fun j p hp => ?_⟩
        have hj : j < z := by rw [← hlz]; exact (List.getElem?_eq_some_iff.1 hp).1
        have hjl : j < ((parts.toList.map fun x => a.eval x.2)[i]'(by rw [hnl]; exact hi')).cells.toList.length := by
         rw [← hl.1, hv2]; simpa [hlz] using hj
        have hlr := hl.2 j (.pv p) _ (by rw [hv2]; simp [hp]) (List.getElem?_eq_getElem hjl)
        refine ⟨_, ?_, aV.go c1.go p _ hlr⟩
        rw [(jS.new w cells' e).cell]
        have := hf3 i j _ hq hj
        rw [Nat.zero_add] at this ⊢
        rw [this]
        simp at hjl
        simp [hjl]
     ·cases he
    ·cases he
   ·cases hc
  ·cases hc
 ·cases hc
end
end Gi
namespace Gi
open Go Go.RowKit
variable {KI : KF}
section
variable {Γ : Ctx} {P : Program} {M0 : Nat → Prop} {base : Nat} {σ : St} {a : Act} {w : World} {ρ : List (Option Nat)}
theorem HR.rename {h : List AObj} (k : HR M0 base w ρ h) {o z : Nat} {es es' : List (List PV)} {r : Option Nat} (ho : h[o]? = some (.arr z es)) (hr : ρ[o]? = some r)
 (hob : (∀ b, Mu M0 (ρ ++ [r]) (h.set o .dead ++ [.arr z es']) b → Mu M0 ρ h b) → Lq (Mu M0 (ρ ++ [r]) (h.set o .dead ++ [.arr z es'])) base w (ρ ++ [r]) (h.set o .dead ++ [.arr z es']) r (.arr z es')) :
 HR M0 base w (ρ ++ [r]) (h.set o .dead ++ [.arr z es']) ∧ Ch (Mu M0 ρ h) (Mu M0 (ρ ++ [r]) (h.set o .dead ++ [.arr z es'])) w w ρ (ρ ++ [r]) h (h.set o .dead ++ [.arr z es']) := by
 have hlt : o < h.length := (List.getElem?_eq_some_iff.1 ho).1
 have get : ∀ {i : Nat} {x : AObj} {q : Option Nat}, (h.set o .dead ++ [.arr z es'])[i]? = some x → (ρ ++ [r])[i]? = some q → (i = h.length ∧ x = .arr z es' ∧ q = r) ∨ (i = o ∧ x = .dead) ∨ (i ≠ o ∧ i < h.length ∧ h[i]? = some x ∧ ρ[i]? = some q) := by
  intro i x q hx hq
  by_cases hi : i < h.length
  ·rw [List.getElem?_append_left (by simpa using hi)] at hx
   rw [List.getElem?_append_left (by rw [k.len]; exact hi)] at hq
   by_cases e : o = i
   ·subst e
    rw [List.getElem?_set_self hlt] at hx
    cases hx
    exact .inr (.inl ⟨rfl, rfl⟩)
   ·rw [List.getElem?_set_ne e] at hx
    exact .inr (.inr ⟨fun e' => e e'.symm, hi, hx, hq⟩)
  ·rw [List.getElem?_append_right (by simp; omega)] at hx
   have h1 := (List.getElem?_eq_some_iff.1 hx).1
   simp at h1
   have : i = h.length := by omega
   subst this
   simp at hx
   rw [← k.len] at hq
   simp at hq
   exact .inl ⟨rfl, hx.symm, hq.symm⟩
 have mu : ∀ b, Mu M0 (ρ ++ [r]) (h.set o .dead ++ [.arr z es']) b → Mu M0 ρ h b := by
  intro b hm
  rcases hm with hm | ⟨i, x, hi, hx, hri⟩
  ·exact .inl hm
  ·rcases get hi hri with ⟨_, rfl, e⟩ | ⟨_, rfl⟩ | ⟨_, _, h1, h2⟩
   ·exact .inr ⟨o, _, ho, rfl, by rw [hr, ← e]⟩
   ·cases hx
   ·exact .inr ⟨i, x, h1, hx, h2⟩
 have c : Ch (Mu M0 ρ h) (Mu M0 (ρ ++ [r]) (h.set o .dead ++ [.arr z es'])) w w ρ (ρ ++ [r]) h (h.set o .dead ++ [.arr z es']) := by
  refine ⟨⟨Nat.le_refl _, fun b _ hm => mu b hm, fun _ _ _ => rfl⟩, fun b cur hrw => ⟨cur, hrw, rfl⟩, fun i q x h1 h2 => ?_⟩
  have hi : i < h.length := (List.getElem?_eq_some_iff.1 h2).1
  rw [List.getElem?_append_left (by rw [k.len]; exact hi), List.getElem?_append_left (by simpa using hi)]
  by_cases e : o = i
  ·subst e
   exact ⟨.dead, h1, List.getElem?_set_self hlt, by rw [ho] at h2; cases h2; trivial⟩
  ·exact ⟨x, h1, by rw [List.getElem?_set_ne e]; exact h2, C8.refl x⟩
 refine ⟨⟨by simp [k.len], k.old, k.le, fun i x q hi hq => ?_, fun i i' x x' b h1 h2 m1 m2 r1 r2 => ?_⟩, c⟩
 ·rcases get hi hq with ⟨_, rfl, rfl⟩ | ⟨_, rfl⟩ | ⟨_, _, h1, h2⟩
  ·exact hob mu
  ·trivial
  ·exact (k.objs i x q h1 h2).keep c (fun _ _ _ => rfl)
 ·rcases get h1 r1 with ⟨e1, rfl, q1⟩ | ⟨_, rfl⟩ | ⟨n1, l1, g1, p1⟩
  ·rcases get h2 r2 with ⟨e2, rfl, q2⟩ | ⟨_, rfl⟩ | ⟨n2, l2, g2, p2⟩
   ·omega
   ·cases m2
   ·exact absurd (k.apart i' o x' _ b g2 ho m2 rfl p2 (by rw [hr, ← q1])) n2
  ·cases m1
  ·rcases get h2 r2 with ⟨e2, rfl, q2⟩ | ⟨_, rfl⟩ | ⟨n2, l2, g2, p2⟩
   ·exact absurd (k.apart i o x _ b g1 ho m1 rfl p1 (by rw [hr, ← q2])) n1
   ·cases m2
   ·exact k.apart i i' x x' b g1 g2 m1 m2 p1 p2
theorem src (s : SR Γ M0 base σ a w ρ) {x : V} {ys : List (List PV)} {u : Value} {z : Nat} (r : VR (Mu M0 ρ σ.h) w ρ σ.h x u) (hx : asList σ.h x = some ys) (hz : ∀ e ∈ ys, e.length = z) (hz0 : 0 < z) :
 ∃ (ad : Option Addr) (c : Nat) (news : List Value), u = .slice ad ys.length c ∧ news.length = ys.length * z ∧ (∀ w', (∀ b, b < w.heap.size → w'.heap[b]? = w.heap[b]?) → (Builtin.firstCells z ys.length u).run P w' = .ok news.toArray w') ∧ (∀ v ∈ news, v.oneCell' = true) ∧
  ∀ (i : Nat) (e : List PV) (j : Nat) (p : PV), ys[i]? = some e → e[j]? = some p → ∃ v, news[i * z + j]? = some v ∧ aV (Mu M0 ρ σ.h) w p v := by
 by_cases hne : ys = []
 ·obtain ⟨ad, c, rfl⟩ := (rJ s r hx).slice
  subst hne
  refine ⟨ad, c, [], rfl, by simp, fun w' _ => ?_, by simp, fun i e j p he => by simp at he⟩
  cases ad with
  | none => simp [Builtin.firstCells]
  | some ad => simp [Builtin.firstCells, loadCells, loadCellsFrom]
 ·have hcs : ∃ b o c, u = .slice (some ⟨b, o, none⟩) ys.length c ∧ b < w.heap.size ∧ ∀ (i : Nat) (e : List PV) (j : Nat) (p : PV), ys[i]? = some e → e[j]? = some p → ∃ v, w.cell? ⟨b, o + i * z + j, none⟩ = some v ∧ aV (Mu M0 ρ σ.h) w p v := by
   unfold asList at hx
   split at hx
   ·rename_i l
    split at hx
    ·rename_i es' hvw
     cases hx
     by_cases hm : L.mut σ.h l = true
     ·cases l with
      | arr o =>
       obtain ⟨r0, ob, hr0, hob, hs⟩ := r
       simp only [L.view, hob] at hvw
       simp only [L.mut, hob] at hm
       cases ob with
       | arr z' es =>
        simp at hvw
        subst hvw
        obtain ⟨hz0', hes, kx⟩ := s.hr.objs o _ r0 hob hr0
        obtain ⟨e0, es', he0⟩ := List.exists_cons_of_ne_nil hne
        have hzz : z' = z := by
         have h1 := hes e0 (by rw [he0]; simp)
         rw [← h1]; exact hz e0 (by rw [he0]; simp)
        subst hzz
        cases r0 with
        | none => exact absurd kx hne
        | some b =>
         obtain ⟨_, cur, cap, hrow, h1, h2, h3, h4⟩ := kx
         obtain ⟨cur', cap', hrow', _, _, _, rfl⟩ := hs
         refine ⟨b, 0, _, rfl, hrow.lt, fun i e j p he hp => ?_⟩
         obtain ⟨v, hv, hr⟩ := h4 i e j p he hp
         exact ⟨v, by rw [hrow.cell]; simpa using hv, hr⟩
       | _ => simp at hm
      | _ => simp [L.mut] at hm
     ·obtain ⟨b, o, c, e, _, hlt, hc⟩ := (qj s.hr r hvw (by simpa using hm)).cells hz hne
      exact ⟨b, o, c, e, hlt, hc⟩
    ·cases hx
   ·cases hx
  obtain ⟨b, o, c, rfl, hlt, hc⟩ := hcs
  have hcell : ∀ k, k < ys.length * z → ∃ v, w.cell? ⟨b, o + k, none⟩ = some v ∧ v.oneCell' = true := by
   intro k hk
   have hi : k / z < ys.length := (Nat.div_lt_iff_lt_mul hz0).2 hk
   have hj : k % z < z := Nat.mod_lt _ hz0
   have he : ys[k / z]? = some ys[k / z] := by simp [hi]
   have hl : (ys[k / z]).length = z := hz _ (List.getElem_mem hi)
   obtain ⟨v, hv, hr⟩ := hc (k / z) _ (k % z) ((ys[k / z])[k % z]'(by rw [hl]; exact hj)) he (by simp [hl, hj])
   refine ⟨v, ?_, hr.one⟩
   rw [Nat.add_assoc, Nat.mul_comm, Nat.div_add_mod] at hv
   exact hv
  refine ⟨_, c, (List.range (ys.length * z)).map fun k => (w.cell? ⟨b, o + k, none⟩).getD undef, rfl, by simp, fun w' hw' => ?_, fun v hv => ?_, fun i e j p he hp => ?_⟩
  ·have := run_loadCells_list (P := P) w' ⟨b, o, none⟩ ((List.range (ys.length * z)).map fun k => (w.cell? ⟨b, o + k, none⟩).getD undef) (fun j v hv => by
    simp only [List.getElem?_map, Option.map_eq_some_iff] at hv
    obtain ⟨k, hk, rfl⟩ := hv
    obtain ⟨h1, h2⟩ := List.getElem?_eq_some_iff.1 hk
    simp at h1 h2
    subst h2
    obtain ⟨v, hv, _⟩ := hcell j h1
    rw [Addr.add_mid, World.cell?_of_block (a := ⟨b, o + j, none⟩) (hw' b hlt), hv]
    rfl)
   simp only [List.length_map, List.length_range] at this
   simp only [Builtin.firstCells]
   exact this
  ·obtain ⟨k, hk, rfl⟩ := List.mem_map.1 hv
   obtain ⟨v, hv, h1⟩ := hcell k (by simpa using hk)
   rw [hv]; exact h1
  ·obtain ⟨v, hv, hr⟩ := hc i e j p he hp
   have hi : i < ys.length := (List.getElem?_eq_some_iff.1 he).1
   have hj : j < z := by rw [← hz e (List.mem_of_getElem? he)]; exact (List.getElem?_eq_some_iff.1 hp).1
   have hlt' : i * z + j < ys.length * z := by
    calc i * z + j < i * z + z := by omega
     _ = (i + 1) * z := by rw [Nat.add_mul, Nat.one_mul]
     _ ≤ ys.length * z := Nat.mul_le_mul_right _ hi
   refine ⟨v, ?_, hr⟩
   rw [Nat.add_assoc] at hv
   simp [hlt', hv]
theorem Bi {t t' ty e : TypeId} {i : TypeInfo} (ht : P.underlying t = some (.slice e)) (ht' : P.underlying t' = some .string ∨ ∃ e', P.underlying t' = some (.slice e')) (hi : P.info? e = some i) {g n cap m : Nat} {cur : Array Value} (hrow : jS w g cur) {u : Value} (hu : ∀ w, (Builtin.lenOf u).run P w = .ok m w) {news : List Value}
 (hl : news.length = m * i.size) (hf : (Builtin.firstCells i.size m u).run P w = .ok news.toArray w) (h1 : ∀ v ∈ news, v.oneCell' = true) (hroom : n + m ≤ cap) (hfit : n * i.size + news.length ≤ cur.size) :
 (Builtin.append_ #[t, t'] ty #[.slice (some ⟨g, 0, none⟩) n cap, u]).run P w = .ok (.slice (some ⟨g, 0, none⟩) (n + m) cap) (w.setCells g (n * i.size) news) := by
 have hst := run_storeCells_cells (P := P) g (n * i.size) news 0 w (fun j hj => by
  rw [hrow.cell]
  have : n * i.size + j < cur.size := by omega
  simp [this]) (fun j _ => hrow.free _) h1
 simp only [Nat.add_zero] at hst
 have e0 : (⟨g, 0, none⟩ : Addr).add (n * i.size) = ⟨g, n * i.size, none⟩ := by rw [Addr.add_mid]; simp
 rcases ht' with ht' | ⟨e', ht'⟩
 ·simp [Builtin.append_, run_underlying ht, run_underlying ht', Go.sizeOf, typeInfo, hi, hu, hroom, hf, e0, hst]
 ·simp [Builtin.append_, run_underlying ht, run_underlying ht', Go.sizeOf, typeInfo, hi, hu, hroom, hf, e0, hst]
theorem Gu {t t' ty e : TypeId} {i : TypeInfo} (ht : P.underlying t = some (.slice e)) (ht' : P.underlying t' = some .string ∨ ∃ e', P.underlying t' = some (.slice e')) (hi : P.info? e = some i) {u : Value} (hu : ∀ w, (Builtin.lenOf u).run P w = .ok 0 w) (hf : (Builtin.firstCells i.size 0 u).run P w = .ok #[] w) :
 (Builtin.append_ #[t, t'] ty #[.slice none 0 0, u]).run P w = .ok (.slice none 0 0) w := by
 rcases ht' with ht' | ⟨e', ht'⟩
 ·simp [Builtin.append_, run_underlying ht, run_underlying ht', Go.sizeOf, typeInfo, hi, hu, hf]
 ·simp [Builtin.append_, run_underlying ht, run_underlying ht', Go.sizeOf, typeInfo, hi, hu, hf]
theorem wv {t t' ty e : TypeId} {i : TypeInfo} {z : Value} (ht : P.underlying t = some (.slice e)) (ht' : P.underlying t' = some .string ∨ ∃ e', P.underlying t' = some (.slice e')) (hi : P.info? e = some i) (hz : i.zero = some z) {s : Value} {bs : Option Addr} {n cap m : Nat} (hs : s = .slice bs n cap) {u : Value} (hu : ∀ w, (Builtin.lenOf u).run P w = .ok m w)
 {olds news : List Value} (hfo : (Builtin.firstCells i.size n s).run P w.drew = .ok olds.toArray w.drew) (hf : (Builtin.firstCells i.size m u).run P w.drew = .ok news.toArray w.drew)
 (hg : cap < n + m) (h63 : n + m ≤ 9223372036854775807) (hfit : (n + m) * i.bytes ≤ 140737488355328) :
 (Builtin.append_ #[t, t'] ty #[s, u]).run P w = .ok (.slice (some ⟨w.heap.size, 0, none⟩) (n + m) (grownCap w (n + m) cap e))
  (w.drew.alloc (.cells (olds.toArray ++ news.toArray ++ Builtin.zeroCells z.cells (grownCap w (n + m) cap e - (n + m))) e)) := by
 have hn : ¬ (n + m ≤ cap) := by omega
 have h63' : ¬ (9223372036854775807 < ((n : Int) + (m : Int))) := by omega
 have h48' : ¬ (281474976710656 < Builtin.nextslicecap (n + m) cap * i.bytes) := by have := growslice_fits hg hfit; omega
 subst hs
 rcases ht' with ht' | ⟨e', ht'⟩
 ·simp [Builtin.append_, run_underlying ht, run_underlying ht', Go.sizeOf, typeInfo, zeroValue, hi, hz, hu, hn, h63', h48', Question.forced, hf, hfo, newRow, grownCap]
  congr 2
  apply Array.ext'
  simp [List.append_assoc]
 ·simp [Builtin.append_, run_underlying ht, run_underlying ht', Go.sizeOf, typeInfo, zeroValue, hi, hz, hu, hn, h63', h48', Question.forced, hf, hfo, newRow, grownCap]
  congr 2
  apply Array.ext'
  simp [List.append_assoc]
theorem zV {M : Nat → Prop} {z : Nat} {es ys : List (List PV)} {cur : List Value} (hes : ∀ e ∈ es, e.length = z)
 (h1 : ∀ (i : Nat) (e : List PV) (j : Nat) (p : PV), es[i]? = some e → e[j]? = some p → ∃ v, cur[i * z + j]? = some v ∧ aV M w p v)
 (h2 : ∀ (i : Nat) (e : List PV) (j : Nat) (p : PV), ys[i]? = some e → e[j]? = some p → ∃ v, cur[(es.length + i) * z + j]? = some v ∧ aV M w p v) :
 ∀ (i : Nat) (e : List PV) (j : Nat) (p : PV), (es ++ ys)[i]? = some e → e[j]? = some p → ∃ v, cur[i * z + j]? = some v ∧ aV M w p v := by
 intro i e j p he hp
 by_cases hi : i < es.length
 ·rw [List.getElem?_append_left hi] at he
  exact h1 i e j p he hp
 ·rw [List.getElem?_append_right (by omega)] at he
  have := h2 _ e j p he hp
  rwa [show es.length + (i - es.length) = i by omega] at this
theorem append_nil (s : SR Γ M0 base σ a w ρ) {o : Oper} {t t' e : TypeId} {i : TypeInfo} {v0 : Value} {ox oy : Operand} {ys : List (List PV)} {news : List Value} (hu : P.underlying t = some (.slice e)) (ht' : P.underlying t' = some .string ∨ ∃ e', P.underlying t' = some (.slice e')) (hi : P.info? e = some i) (hz' : i.zero = some v0) (hv0 : v0.cells.size = i.size)
 (aq : ∀ {r : Value} {w' : World}, (Builtin.append_ #[t, t'] o.type #[a.eval ox, a.eval oy]).run P w = .ok r w' → (execOp a.eval o).run P w = .ok (.value r) w') (hlen : ∀ w, (Builtin.lenOf (a.eval oy)).run P w = .ok ys.length w) (hyz : ∀ e ∈ ys, e.length = i.size) (hz0 : 0 < i.size) (hnl : news.length = ys.length * i.size)
 (hfirst : ∀ w', (∀ b, b < w.heap.size → w'.heap[b]? = w.heap[b]?) → (Builtin.firstCells i.size ys.length (a.eval oy)).run P w' = .ok news.toArray w') (hones : ∀ v ∈ news, v.oneCell' = true)
 (hrows : ∀ (i' : Nat) (e : List PV) (j : Nat) (p : PV), ys[i']? = some e → e[j]? = some p → ∃ v, news[i' * i.size + j]? = some v ∧ aV (Mu M0 ρ σ.h) w p v)
 (ex : a.eval ox = .slice none 0 0) (hbytes : ys.length * i.bytes ≤ 140737488355328) (h63 : ys.length ≤ 9223372036854775807) :
 mi P M0 base σ w ρ (.one (.arr σ.h.length)) (σ.h ++ [.arr i.size ys]) (execOp a.eval o) := by
 by_cases hy0 : ys = []
 ·subst hy0
  have hn0 : news = [] := List.eq_nil_of_length_eq_zero (by simpa using hnl)
  subst hn0
  have hr := Gu (P := P) (ty := o.type) (w := w) hu ht' hi hlen (hfirst w (fun _ _ => rfl))
  obtain ⟨g1, g2⟩ := s.hr.push (w' := w) (Nat.le_refl _) (fun _ _ => rfl) none (.arr i.size []) (fun b e => by cases e) (fun _ => ⟨hz0, by simp, by trivial⟩)
  refine ⟨_, _, _, _, aq (by rw [ex]; exact hr), .inl rfl, Below.refl _ _, g1, g2, none, .arr i.size [], ?_, by simp, rfl⟩
  rw [← s.hr.len]; simp
 ·have hpos : 0 < ys.length := List.length_pos_iff.2 hy0
  have hr := wv (P := P) (ty := o.type) (w := w) hu ht' hi hz' ex hlen (olds := []) (by rw [ex]; simp [Builtin.firstCells]) (hfirst w.drew (fun _ _ => rfl)) (by omega) (by omega) (by simpa using hbytes)
  simp only [Nat.zero_add] at hr
  have hcap := grownCap_ge w ys.length 0 e
  have hcm := grownCap_le_maxLen w ys.length 0 e (by simp only [maxLen]; omega)
  obtain ⟨ρ', g1, g2, g3⟩ := CB (h := σ.h) s.hr (w' := w.drew.alloc (.cells ((([] : List Value)).toArray ++ news.toArray ++ Builtin.zeroCells v0.cells (grownCap w ys.length 0 e - ys.length)) e)) (by simp)
   (fun b hb => gP w.drew _ b hb) (z := i.size) (cap := grownCap w ys.length 0 e) (es := ys) hz0 hyz (jS.new w.drew _ e)
   (by
    simp only [Array.size_append, List.size_toArray, size_zeroCells, hv0, hnl, List.length_nil, Nat.zero_add, ← Nat.add_mul]
    congr 1; omega) hcap hcm
   (fun i' e' j p he' hp => by
    obtain ⟨v, hv, hrd⟩ := hrows i' e' j p he' hp
    refine ⟨v, ?_, hrd⟩
    have hlt := (List.getElem?_eq_some_iff.1 hv).1
    rw [Array.getElem?_append_left (by simpa using hlt)]
    simpa using hv)
  exact ⟨_, _, _, ρ', aq hr, .inl rfl, ⟨rfl, rfl, rfl, by simp, fun k hk => gP w.drew _ k (Nat.lt_of_lt_of_le hk s.hr.le)⟩, g1, g2, g3⟩
theorem Bj (s : SR Γ M0 base σ a w ρ) {o : Oper} {t t' e : TypeId} {i : TypeInfo} {v0 : Value} {ox oy : Operand} {ys : List (List PV)} {news : List Value} (hu : P.underlying t = some (.slice e)) (ht' : P.underlying t' = some .string ∨ ∃ e', P.underlying t' = some (.slice e')) (hi : P.info? e = some i) (hz' : i.zero = some v0) (hv0 : v0.cells.size = i.size)
 (aq : ∀ {r : Value} {w' : World}, (Builtin.append_ #[t, t'] o.type #[a.eval ox, a.eval oy]).run P w = .ok r w' → (execOp a.eval o).run P w = .ok (.value r) w') (hlen : ∀ w, (Builtin.lenOf (a.eval oy)).run P w = .ok ys.length w) (hyz : ∀ e ∈ ys, e.length = i.size) (hz0 : 0 < i.size) (hnl : news.length = ys.length * i.size)
 (hfirst : ∀ w', (∀ b, b < w.heap.size → w'.heap[b]? = w.heap[b]?) → (Builtin.firstCells i.size ys.length (a.eval oy)).run P w' = .ok news.toArray w') (hones : ∀ v ∈ news, v.oneCell' = true)
 (hrows : ∀ (i' : Nat) (e : List PV) (j : Nat) (p : PV), ys[i']? = some e → e[j]? = some p → ∃ v, news[i' * i.size + j]? = some v ∧ aV (Mu M0 ρ σ.h) w p v)
 {ob : Nat} {es : List (List PV)} (hob : σ.h[ob]? = some (.arr i.size es)) (rx : LR (Mu M0 ρ σ.h) w ρ σ.h (.arr ob) (a.eval ox)) (hbytes : (es.length + ys.length) * i.bytes ≤ 140737488355328) (h63 : es.length + ys.length ≤ 9223372036854775807) :
 mi P M0 base σ w ρ (.one (.arr σ.h.length)) (σ.h.set ob .dead ++ [.arr i.size (es ++ ys)]) (execOp a.eval o) := by
 obtain ⟨r0, ob0, hr0, hob0, hsl⟩ := rx
 rw [hob] at hob0; cases hob0
 obtain ⟨_, hes, kx⟩ := s.hr.objs ob _ r0 hob hr0
 have hall : ∀ e ∈ es ++ ys, e.length = i.size := fun e1 he1 => by
  rcases List.mem_append.1 he1 with h1 | h1
  ·exact hes e1 h1
  ·exact hyz e1 h1
 have hid : ∀ (r1 : Option Nat), (ρ ++ [r1])[σ.h.length]? = some r1 := fun r1 => by rw [← s.hr.len]; simp
 have hob' : ∀ ob1, (σ.h.set ob .dead ++ [ob1])[σ.h.length]? = some ob1 := fun ob1 => by
  rw [List.getElem?_append_right (by simp)]; simp
 have grow : ∀ {bs : Option Addr} {cap : Nat} {olds : List Value}, a.eval ox = .slice bs es.length cap → cap < es.length + ys.length → olds.length = es.length * i.size →
  (Builtin.firstCells i.size es.length (a.eval ox)).run P w.drew = .ok olds.toArray w.drew →
  (∀ (i' : Nat) (e : List PV) (j : Nat) (p : PV), es[i']? = some e → e[j]? = some p → ∃ v, olds[i' * i.size + j]? = some v ∧ aV (Mu M0 ρ σ.h) w p v) →
  mi P M0 base σ w ρ (.one (.arr σ.h.length)) (σ.h.set ob .dead ++ [.arr i.size (es ++ ys)]) (execOp a.eval o) := by
  intro bs cap olds ex hlt hol hof horow
  have hr := wv (P := P) (ty := o.type) (w := w) hu ht' hi hz' ex hlen (by rw [ex] at hof ⊢; exact hof) (hfirst w.drew (fun _ _ => rfl)) hlt (by omega) hbytes
  have hcap := grownCap_ge w (es.length + ys.length) cap e
  have hcm := grownCap_le_maxLen w (es.length + ys.length) cap e (by simp only [maxLen]; omega)
  obtain ⟨k2, c2⟩ := s.hr.upd (w' := w) (ob' := .dead) hob hr0 rfl trivial rfl (fun _ _ => rfl) (fun b cur _ hrw => ⟨cur, hrw, rfl⟩) (fun _ => trivial)
  obtain ⟨ρ', g1, g2, g3⟩ := CB (h := σ.h.set ob .dead) k2 (w' := w.drew.alloc (.cells (olds.toArray ++ news.toArray ++ Builtin.zeroCells v0.cells (grownCap w (es.length + ys.length) cap e - (es.length + ys.length))) e)) (by simp)
   (fun b hb => gP w.drew _ b hb) (z := i.size) (cap := grownCap w (es.length + ys.length) cap e) (es := es ++ ys) hz0 hall (jS.new w.drew _ e)
   (by
    simp only [Array.size_append, List.size_toArray, size_zeroCells, hv0, hnl, hol, ← Nat.add_mul]
    congr 1; omega) (by simpa using hcap) hcm
   (fun i' e' j p he' hp => by
    have key := zV (M := Mu M0 ρ σ.h) (w := w) (z := i.size) (es := es) (ys := ys) (cur := olds ++ news) hes
     (fun i1 e1 j1 p1 h1 h2 => by
      obtain ⟨v, hv, hrd⟩ := horow i1 e1 j1 p1 h1 h2
      exact ⟨v, by rw [List.getElem?_append_left (List.getElem?_eq_some_iff.1 hv).1]; exact hv, hrd⟩)
     (fun i1 e1 j1 p1 h1 h2 => by
      obtain ⟨v, hv, hrd⟩ := hrows i1 e1 j1 p1 h1 h2
      refine ⟨v, ?_, hrd⟩
      rw [List.getElem?_append_right (by rw [hol, Nat.add_mul]; omega), hol]
      rw [show (es.length + i1) * i.size + j1 - es.length * i.size = i1 * i.size + j1 by rw [Nat.add_mul]; omega]
      exact hv) i' e' j p he' hp
    obtain ⟨v, hv, hrd⟩ := key
    refine ⟨v, ?_, aV.go c2.go p v hrd⟩
    have hlt := (List.getElem?_eq_some_iff.1 hv).1
    rw [Array.getElem?_append_left (by simpa using hlt)]
    simpa using hv)
  refine ⟨_, _, _, ρ', aq hr, .inl rfl, ⟨rfl, rfl, rfl, by simp, fun k hk => gP w.drew _ k (Nat.lt_of_lt_of_le hk s.hr.le)⟩, g1, c2.trans g2, ?_⟩
  simpa using g3
 cases r0 with
 | none =>
  obtain rfl : es = [] := kx
  have ex : a.eval ox = .slice none 0 0 := hsl
  by_cases hy0 : ys = []
  ·subst hy0
   have hn0 : news = [] := List.eq_nil_of_length_eq_zero (by simpa using hnl)
   subst hn0
   have hr := Gu (P := P) (ty := o.type) (w := w) hu ht' hi hlen (hfirst w (fun _ _ => rfl))
   obtain ⟨g1, g2⟩ := s.hr.rename (es' := []) hob hr0 (fun _ => ⟨hz0, by simp, by trivial⟩)
   exact ⟨_, _, _, _, aq (by rw [ex]; exact hr), .inl rfl, Below.refl _ _, g1, g2, none, .arr i.size [], hid none, hob' _, rfl⟩
  ·have hpos : 0 < ys.length := List.length_pos_iff.2 hy0
   exact grow (olds := []) (by simpa using ex) (by simpa using hpos) (by simp) (by rw [ex]; simp [Builtin.firstCells]) (fun i1 e1 j1 p1 h1 => by simp at h1)
 | some b =>
  obtain ⟨hbase, cur, cap, hrow, h1, h2, h3, h4⟩ := kx
  obtain ⟨cur', cap', hrow', h1', h2', h3', ex⟩ := hsl
  cases hrow.inj hrow'
  have hcap : cap' = cap := Nat.eq_of_mul_eq_mul_right hz0 (h1'.symm.trans h1)
  subst hcap
  by_cases hroom : es.length + ys.length ≤ cap'
  ·have hfit : es.length * i.size + news.length ≤ cur.size := by
    rw [hnl, h1, ← Nat.add_mul]; exact Nat.mul_le_mul_right _ hroom
   have hr := Bi (P := P) (ty := o.type) (w := w) hu ht' hi hrow hlen hnl (hfirst w (fun _ _ => rfl)) hones hroom hfit
   obtain ⟨cur2, hrow2, hsz2, hget2⟩ := eJ b news (es.length * i.size) w cur hrow hfit
   have hold : ∀ (i1 : Nat) (e1 : List PV) (j1 : Nat), es[i1]? = some e1 → j1 < e1.length → cur2[i1 * i.size + j1]? = cur[i1 * i.size + j1]? := by
    intro i1 e1 j1 he1 hj1
    rw [hget2, if_neg]
    have hi1 : i1 < es.length := (List.getElem?_eq_some_iff.1 he1).1
    rw [hes e1 (List.mem_of_getElem? he1)] at hj1
    have : i1 * i.size + j1 < es.length * i.size := by
     calc i1 * i.size + j1 < i1 * i.size + i.size := by omega
      _ = (i1 + 1) * i.size := by rw [Nat.add_mul, Nat.one_mul]
      _ ≤ es.length * i.size := Nat.mul_le_mul_right _ hi1
    omega
   obtain ⟨k2, c2⟩ := s.hr.upd (w' := w.setCells b (es.length * i.size) news) (ob' := .arr i.size es) hob hr0 rfl ⟨rfl, rfl⟩ (fY b _ _ w).symm
    (fun k hk => fH b _ _ w k (fun e => hk (by rw [e])))
    (fun k c e hrw => by cases e; rw [hrw.inj hrow]; exact ⟨cur2, hrow2, hsz2⟩)
    (fun c => ⟨hz0, hes, hbase, cur2, cap', hrow2, by rw [hsz2]; exact h1, h2, h3, fun i1 e1 j1 p1 he1 hp1 => by
     obtain ⟨v, hv, hrd⟩ := h4 i1 e1 j1 p1 he1 hp1
     exact ⟨v, by rw [hold i1 e1 j1 he1 (List.getElem?_eq_some_iff.1 hp1).1]; exact hv, aV.go c.go p1 v hrd⟩⟩)
   have hset : σ.h.set ob (.arr i.size es) = σ.h := by
    apply List.ext_getElem?
    intro k
    by_cases hk : ob = k
    ·subst hk
     rw [List.getElem?_set_self (List.getElem?_eq_some_iff.1 hob).1, hob]
    ·rw [List.getElem?_set_ne hk]
   rw [hset] at k2 c2
   obtain ⟨g1, g2⟩ := k2.rename (es' := es ++ ys) hob hr0 (fun mu => by
    refine ⟨hz0, hall, hbase, cur2, cap', hrow2, by rw [hsz2]; exact h1, by simpa using hroom, h3, fun i1 e1 j1 p1 he1 hp1 => ?_⟩
    have key := zV (M := Mu M0 ρ σ.h) (w := w.setCells b (es.length * i.size) news) (z := i.size) (es := es) (ys := ys) (cur := cur2.toList) hes
     (fun i1 e1 j1 p1 q1 q2 => by
      obtain ⟨v, hv, hrd⟩ := h4 i1 e1 j1 p1 q1 q2
      exact ⟨v, by rw [Array.getElem?_toList, hold i1 e1 j1 q1 (List.getElem?_eq_some_iff.1 q2).1]; exact hv, aV.go c2.go p1 v hrd⟩)
     (fun i1 e1 j1 p1 q1 q2 => by
      obtain ⟨v, hv, hrd⟩ := hrows i1 e1 j1 p1 q1 q2
      refine ⟨v, ?_, aV.go c2.go p1 v hrd⟩
      have hlt := (List.getElem?_eq_some_iff.1 hv).1
      rw [Array.getElem?_toList, hget2, show (es.length + i1) * i.size + j1 = es.length * i.size + (i1 * i.size + j1) by rw [Nat.add_mul]; omega, if_pos (by omega)]
      rw [show es.length * i.size + (i1 * i.size + j1) - es.length * i.size = i1 * i.size + j1 by omega]
      exact hv) i1 e1 j1 p1 he1 hp1
    obtain ⟨v, hv, hrd⟩ := key
    exact ⟨v, by simpa using hv, hrd.weak mu⟩)
   refine ⟨_, _, _, _, aq (by rw [ex]; exact hr), .inl rfl, cz b base hbase _ _ w w (Below.refl _ _), g1, c2.trans g2, some b, _, hid _, hob' _, cur2, cap', hrow2, by rw [hsz2]; exact h1, by simpa using hroom, h3, by simp⟩
  ·have hol : ((cur.toList.take (es.length * i.size))).length = es.length * i.size := by
    have : es.length * i.size ≤ cur.size := by rw [h1]; exact Nat.mul_le_mul_right _ h2
    simp; omega
   refine grow (olds := cur.toList.take (es.length * i.size)) ex (by omega) hol ?_ (fun i1 e1 j1 p1 he1 hp1 => ?_)
   ·have := run_loadCells_list (P := P) w.drew ⟨b, 0, none⟩ (cur.toList.take (es.length * i.size)) (fun j v hv => by
     rw [Addr.add_mid]
     have : (w.drew).cell? ⟨b, 0 + j, none⟩ = w.cell? ⟨b, 0 + j, none⟩ := rfl
     rw [this, hrow.cell]
     rw [List.getElem?_take] at hv
     split at hv
     ·simpa using hv
     ·cases hv)
    rw [hol] at this
    rw [ex]
    simp only [Builtin.firstCells]
    exact this
   ·obtain ⟨v, hv, hrd⟩ := h4 i1 e1 j1 p1 he1 hp1
    refine ⟨v, ?_, hrd⟩
    have hi1 : i1 < es.length := (List.getElem?_eq_some_iff.1 he1).1
    have hj1 := (List.getElem?_eq_some_iff.1 hp1).1
    rw [hes e1 (List.mem_of_getElem? he1)] at hj1
    have : i1 * i.size + j1 < es.length * i.size := by
     calc i1 * i.size + j1 < i1 * i.size + i.size := by omega
      _ = (i1 + 1) * i.size := by rw [Nat.add_mul, Nat.one_mul]
      _ ≤ es.length * i.size := Nat.mul_le_mul_right _ hi1
    rw [List.getElem?_take, if_pos this]
    simpa using hv
theorem EQ (s : SR Γ M0 base σ a w ρ) {o : Oper} {d : Md} {v : V} {h' : List AObj} {call : Nat → List V → Option V} {c : Call} {z bytes : Nat} {x y : Opd} (hop : o.op = .call c)
 (hc : iS P kf d o.op = some (.append z bytes x y)) (he : dN call σ (.append z bytes x y) = some (v, h')) : mi P M0 base σ w ρ v h' (execOp a.eval o) := by
 rw [hop] at hc; simp only [iS] at hc
 split at hc
 ·split at hc
  ·(repeat' (split at hc)) <;> cases hc
  ·cases hc
 ·(repeat' (split at hc)) <;> cases hc
 ·split at hc
  ·(repeat' (split at hc)) <;> cases hc
  ·cases hc
 ·rename_i hcal
  split at hc
  ·rename_i ox oy t u hargs htys
   split at hc
   ·rename_i e e' x0 y0 ht _ hx hy
    split at hc
    ·rename_i z0 b0 v0 hsz hby hz
     split at hc
     ·rename_i hcond
      obtain ⟨hv0, rfl⟩ := hcond
      cases hc
      obtain ⟨i, hi, hz', hs', hb'⟩ : ∃ i, P.info? e = some i ∧ i.zero = some v0 ∧ i.size = z ∧ i.bytes = bytes := by
       unfold oM at hz; unfold t9 at hsz; unfold J2 at hby
       cases hi : P.info? e with
       | none => simp [hi] at hz
       | some i => simp [hi] at hz hsz hby; exact ⟨i, rfl, hz, hsz, hby⟩
      subst hs' hb'
      have hu : P.underlying t = some (.slice e) := by
       unfold m8 at ht
       split at ht <;> cases ht
       assumption
      have aq : ∀ {r : Value} {w' : World}, (Builtin.append_ #[t, t] o.type #[a.eval ox, a.eval oy]).run P w = .ok r w' → (execOp a.eval o).run P w = .ok (.value r) w' := by
       intro r w' hr
       have e2 : c.args.map a.eval = #[a.eval ox, a.eval oy] := Array.ext' (by rw [Array.toList_map, hargs]; rfl)
       have e3 : c.argTypes = #[t, t] := Array.ext' htys
       simp only [execOp, hop, resolve, hcal, Sem.run_bind, Sem.run_pure, Result.andThen_ok, invoke, e3, e2, builtin, hr]
      have rx := bc s hx
      have ry := bc s hy
      have ht' : P.underlying t = some .string ∨ ∃ e', P.underlying t = some (.slice e') := .inr ⟨e, hu⟩
      simp only [dN] at he
      split at he
      ·
       rename_i ys hxe hys
       rw [hxe] at rx
       split at he
       ·rename_i hchk
        simp only [Bool.and_eq_true, decide_eq_true_eq, List.all_eq_true, beq_iff_eq] at hchk
        obtain ⟨⟨⟨hyz, hz0⟩, hbytes⟩, h63⟩ := hchk
        cases he
        obtain ⟨ad, cc, news, ey, hnl, hfirst, hones, hrows⟩ := src (P := P) s ry hys hyz hz0
        exact append_nil s hu ht' hi hz' hv0 aq (by intro w; rw [ey]; rfl) hyz hz0 hnl hfirst hones hrows rx hbytes h63
       ·cases he
      ·rename_i ob ys hxe hys
       rw [hxe] at rx
       split at he
       ·rename_i z' es hob
        split at he
        ·rename_i hchk
         obtain ⟨rfl, hyz', hbytes, h63, hna⟩ := hchk
         have hyz : ∀ e ∈ ys, e.length = i.size := by simpa using hyz'
         cases he
         obtain ⟨r0, hr0⟩ := s.hr.mem hob
         obtain ⟨hz0, hes, kx⟩ := s.hr.objs ob _ r0 hob hr0
         obtain ⟨ad, cc, news, ey, hnl, hfirst, hones, hrows⟩ := src (P := P) s ry hys hyz hz0
         exact Bj s hu ht' hi hz' hv0 aq (by intro w; rw [ey]; rfl) hyz hz0 hnl hfirst hones hrows hob rx hbytes h63
        ·cases he
       ·cases he
      ·cases he
     ·cases hc
    ·cases hc
   ·(repeat' (split at hc)) <;> cases hc
   ·cases hc
  ·cases hc
 ·split at hc
  ·(repeat' (split at hc)) <;> cases hc
  ·cases hc
 ·split at hc
  ·(repeat' (split at hc)) <;> cases hc
  ·cases hc
 ·cases hc
theorem FB {M : Nat → Prop} (st : List UInt8) : ∀ (i' : Nat) (e : List PV) (j : Nat) (p : PV), (aU st)[i']? = some e → e[j]? = some p → ∃ v, (st.map fun b => Value.int .u8 b.toNat)[i' * 1 + j]? = some v ∧ aV M w p v := by
 intro i' e j p he hp
 simp only [aU, List.getElem?_map, Option.map_eq_some_iff] at he
 obtain ⟨b, hb, rfl⟩ := he
 cases j with
 | zero => simp at hp; subst hp; exact ⟨.int .u8 b.toNat, by simp [hb], by simp [aV]⟩
 | succ j => simp at hp
theorem C9 (s : SR Γ M0 base σ a w ρ) {o : Oper} {d : Md} {v : V} {h' : List AObj} {call : Nat → List V → Option V} {c : Call} {bytes : Nat} {x y : Opd} (hop : o.op = .call c)
 (hc : iS P kf d o.op = some (.appendS bytes x y)) (he : dN call σ (.appendS bytes x y) = some (v, h')) : mi P M0 base σ w ρ v h' (execOp a.eval o) := by
 rw [hop] at hc; simp only [iS] at hc
 split at hc
 ·split at hc
  ·(repeat' (split at hc)) <;> cases hc
  ·cases hc
 ·(repeat' (split at hc)) <;> cases hc
 ·split at hc
  ·(repeat' (split at hc)) <;> cases hc
  ·cases hc
 ·rename_i hcal
  split at hc
  ·rename_i ox oy t u hargs htys
   split at hc
   ·split at hc
    ·(repeat' (split at hc)) <;> cases hc
    ·cases hc
   ·rename_i e x0 y0 ht hstr hx hy
    split at hc
    ·rename_i b0 hue hsz hby hz
     cases hc
     obtain ⟨i, hi, hz', hs', hb'⟩ : ∃ i, P.info? e = some i ∧ i.zero = some (.int .u8 0) ∧ i.size = 1 ∧ i.bytes = bytes := by
      unfold oM at hz; unfold t9 at hsz; unfold J2 at hby
      cases hi : P.info? e with
      | none => simp [hi] at hz
      | some i => simp [hi] at hz hsz hby; exact ⟨i, rfl, hz, hsz, hby⟩
     have hu : P.underlying t = some (.slice e) := by
      unfold m8 at ht
      split at ht <;> cases ht
      assumption
     have aq : ∀ {r : Value} {w' : World}, (Builtin.append_ #[t, u] o.type #[a.eval ox, a.eval oy]).run P w = .ok r w' → (execOp a.eval o).run P w = .ok (.value r) w' := by
      intro r w' hr
      have e2 : c.args.map a.eval = #[a.eval ox, a.eval oy] := Array.ext' (by rw [Array.toList_map, hargs]; rfl)
      have e3 : c.argTypes = #[t, u] := Array.ext' htys
      simp only [execOp, hop, resolve, hcal, Sem.run_bind, Sem.run_pure, Result.andThen_ok, invoke, e3, e2, builtin, hr]
     have rx := bc s hx
     have ry := bc s hy
     have facts : ∀ {st : List UInt8}, isStr (y.ev σ) = some st → (∀ w, (Builtin.lenOf (a.eval oy)).run P w = .ok (aU st).length w) ∧ (∀ w' : World, (∀ b, b < w.heap.size → w'.heap[b]? = w.heap[b]?) → (Builtin.firstCells i.size (aU st).length (a.eval oy)).run P w' = .ok (st.map fun b => Value.int .u8 b.toNat).toArray w') := by
      intro st hst
      have ey := ry.str hst
      have hl : (aU st).length = st.length := by simp [aU]
      rw [ey, hl]
      refine ⟨fun w => by simp [Builtin.lenOf, ByteArray.size], fun w' _ => ?_⟩
      have hex : (⟨st.toArray⟩ : ByteArray).extract 0 st.length = ⟨st.toArray⟩ := by
       apply ByteArray.ext
       simp [ByteArray.data_extract]
      simp [Builtin.firstCells, hex]
     have hl : ∀ st : List UInt8, (aU st).length = st.length := fun st => by simp [aU]
     have hyz : ∀ (st : List UInt8), ∀ e ∈ aU st, e.length = i.size := fun st e' he' => by
      rw [hs']
      simp only [aU, List.mem_map] at he'
      obtain ⟨b, _, rfl⟩ := he'
      rfl
     have hrw : ∀ (st : List UInt8) (i' : Nat) (e : List PV) (j : Nat) (p : PV), (aU st)[i']? = some e → e[j]? = some p → ∃ v, (st.map fun b => Value.int .u8 b.toNat)[i' * i.size + j]? = some v ∧ aV (Mu M0 ρ σ.h) w p v := fun st => by rw [hs']; exact FB st
     have hon : ∀ (st : List UInt8), ∀ v ∈ (st.map fun b => Value.int .u8 b.toNat), v.oneCell' = true := fun st v hv => by
      obtain ⟨b, _, rfl⟩ := List.mem_map.1 hv
      rfl
     have hsz1 : (Value.int .u8 0).cells.size = i.size := by rw [hs']; rfl
     simp only [dN] at he
     split at he
     ·rename_i st hxe hst
      rw [hxe] at rx
      split at he
      ·rename_i hchk
       obtain ⟨hb, h63⟩ := hchk
       cases he
       obtain ⟨f1, f2⟩ := facts hst
       have := append_nil s (ys := aU st) (news := st.map fun b => Value.int .u8 b.toNat) hu (.inl hstr) hi hz' hsz1 aq f1 (hyz st) (by omega) (by simp [hl, hs']) f2 (hon st) (hrw st) rx (by rw [hl, hb']; exact hb) (by rw [hl]; exact h63)
       rwa [hs'] at this
      ·cases he
     ·rename_i ob st hxe hst
      rw [hxe] at rx
      split at he
      ·rename_i z' es hob
       split at he
       ·rename_i hchk
        obtain ⟨rfl, hb, h63⟩ := hchk
        cases he
        obtain ⟨f1, f2⟩ := facts hst
        rw [← hs'] at hob
        have := Bj s (ys := aU st) (news := st.map fun b => Value.int .u8 b.toNat) hu (.inl hstr) hi hz' hsz1 aq f1 (hyz st) (by omega) (by simp [hl, hs']) f2 (hon st) (hrw st) hob rx (by rw [hl, hb']; exact hb) (by rw [hl]; exact h63)
        rwa [hs'] at this
       ·cases he
      ·cases he
     ·cases he
    ·cases hc
   ·cases hc
  ·cases hc
 ·split at hc
  ·(repeat' (split at hc)) <;> cases hc
  ·cases hc
 ·split at hc
  ·(repeat' (split at hc)) <;> cases hc
  ·cases hc
 ·cases hc
end
end Gi
namespace Gi
open Go Go.RowKit
variable {KI : KF}
section
variable {Γ : Ctx} {P : Program} {M0 : Nat → Prop} {base : Nat} {σ : St} {a : Act} {w : World} {ρ : List (Option Nat)}
theorem ep.sub {M : Nat → Prop} {z : Nat} {es : List (List PV)} {b o l n : Nat} (r : ep M w z es b o) : ep M w z ((es.drop l).take n) b (o + l * z) :=
 ep.of fun i e he => by
  rw [List.getElem?_take] at he
  split at he
  ·rw [List.getElem?_drop] at he
   have := ep.at r he
   rwa [show o + l * z + i * z = o + (l + i) * z by rw [Nat.add_mul]; omega]
  ·cases he
theorem CK (s : SR Γ M0 base σ a w ρ) {o : Oper} {d : Md} {ao : AOp} {v : V} {h' : List AObj} {call : Nat → List V → Option V} {t : TypeId} {x : Operand} {lo hi mx : Option Operand} (hop : o.op = .slice t x lo hi mx)
 (hc : iS P kf d o.op = some ao) (he : dN call σ ao = some (v, h')) : mi P M0 base σ w ρ v h' (execOp a.eval o) := by
 rw [hop] at hc; simp only [iS] at hc
 split at hc
 ·cases hc; cases he
 ·rename_i e y lo' hi' hu hx hlo hhi
  split at hc
  ·rename_i z hz
   split at hc
   ·cases hc
   ·rename_i hz0
    cases hc
    by_cases q : d.st = true
    ·rw [if_pos q] at he; cases he
    rw [if_neg q] at he
    simp only [dN] at he
    split at he
    ·rename_i es hes
     have bnd : ∀ {o : Option Operand} {os : List Opd} {n : Int} (def' : Int), iO iu o.toList = some os →
      bA σ def' os.head? = some n → (o = none ∧ n = def') ∨ ∃ oo k, o = some oo ∧ a.eval oo = .int k n := by
      intro o os n def' ho hn
      cases o with
      | none =>
       simp [iO] at ho; subst ho
       simp [bA] at hn
       exact .inl ⟨rfl, hn.symm⟩
      | some oo =>
       simp only [Option.toList, iO] at ho
       split at ho
       ·rename_i y' ys' h1 h2
        cases h2; cases ho
        simp only [List.head?_cons, bA] at hn
        split at hn
        ·rename_i k n' heq
         cases hn
         exact .inr ⟨oo, k, rfl, (bc s h1).int heq⟩
        ·cases hn
       ·cases ho
     split at he
     ·rename_i l r hl hr
      split at he
      ·rename_i hb
       obtain ⟨h0, h1, h2, hall⟩ := hb
       cases he
       have hL := bnd 0 hlo hl
       have hR := bnd (es.length : Int) hhi hr
       obtain ⟨k1, c1⟩ := s.hr.freezeLs (y.ev σ).cells
       have rx := bc s hx
       have hrd : aV (Mu M0 ρ (freezeLs σ.h (y.ev σ).cells)) w (.lst es) (a.eval x) := by
        unfold asList at hes
        split at hes
        ·rename_i l' hyl
         split at hes
         ·rename_i es' hvw
          cases hes
          rw [hyl] at rx
          have rx' : LR (Mu M0 ρ σ.h) w ρ σ.h l' (a.eval x) := rx
          refine qj k1 (rx'.ch c1) (by rw [nP]; exact hvw) (mS _ _ (.inr ?_))
          rw [hyl]; simp [V.cells]
         ·cases hes
        ·cases hes
       obtain ⟨ad, cc, ex⟩ := hrd.slice
       have hcap : es.length ≤ cc := by
        rw [ex] at hrd
        simp only [aV] at hrd
        rcases hrd with ⟨rfl, _⟩ | ⟨b, o', c', z', e', _, _, _, hc'⟩
        ·simp
        ·cases e'; exact hc'
       have e1 : (Instr.sliceBounds true es.length cc (lo.map a.eval) (hi.map a.eval) none).run P w = .ok (l.toNat, r.toNat, cc) w := by
        simp only [Instr.sliceBounds, Sem.run_bind, Sem.run_pure, Result.andThen_ok, if_true, Option.isSome_none]
        rcases hR with ⟨rfl, rfl⟩ | ⟨oo, k, rfl, ho⟩
        ·rcases hL with ⟨rfl, rfl⟩ | ⟨oo, k, rfl, ho⟩
         ·simp
         ·simp [ho, tW k _ h0 (show l ≤ (es.length : Int) by omega)]
        ·rcases hL with ⟨rfl, rfl⟩ | ⟨oo', k', rfl, ho'⟩
         ·simp [ho, tW k _ (show (0 : Int) ≤ r by omega) (show r ≤ (cc : Int) by omega)]
         ·simp [ho, ho', tW k _ (show (0 : Int) ≤ r by omega) (show r ≤ (cc : Int) by omega), tW k' _ h0 (show l ≤ (r.toNat : Int) by omega)]
       have hrun : (Instr.sliceAt t (a.eval x) (lo.map a.eval) (hi.map a.eval) (Option.map a.eval none)).run P w = .ok (.slice (if cc = l.toNat then ad else ad.map (·.add (l.toNat * z))) (r.toNat - l.toNat) (cc - l.toNat)) w := by
        rw [ex]
        simp only [Instr.sliceAt, Sem.run_bind, run_underlying hu, Result.andThen_ok, Instr.slice, Option.map_none, e1, nU e hz, Sem.run_pure]
       refine ⟨.value (.slice (if cc = l.toNat then ad else ad.map (·.add (l.toNat * z))) (r.toNat - l.toNat) (cc - l.toNat)), .slice (if cc = l.toNat then ad else ad.map (·.add (l.toNat * z))) (r.toNat - l.toNat) (cc - l.toNat), w, ρ, ?_, .inl rfl, Below.refl _ _, k1, c1, ?_⟩
       ·simp only [execOp, hop, Sem.run_bind, hrun, Result.andThen_ok, Sem.run_pure]
       ·show aV _ w (.lst ((es.drop l.toNat).take (r.toNat - l.toNat))) _
        have hlen : ((es.drop l.toNat).take (r.toNat - l.toNat)).length = r.toNat - l.toNat := by simp; omega
        by_cases hlr : l = r
        ·subst hlr
         simp only [Nat.sub_self, List.take_zero, aV]
         exact .inl ⟨by trivial, _, _, rfl⟩
        ·have hpos : l.toNat < r.toNat := by omega
         have hne : cc ≠ l.toNat := by omega
         rw [ex] at hrd
         simp only [aV] at hrd ⊢
         rcases hrd with ⟨rfl, _⟩ | ⟨b, o', c', z', e', hm, hlt, hrr, hc'⟩
         ·simp at h2; omega
         ·cases e'
          have hzz : z' = z := by
           obtain ⟨e0, es', rfl⟩ := List.exists_cons_of_ne_nil (show es ≠ [] by rintro rfl; simp at h2; omega)
           have q1 := (ep.at hrr (i := 0) (e := e0) rfl).1
           simp only [List.all_cons, Bool.and_eq_true, beq_iff_eq] at hall
           rw [← q1]; exact hall.1
          subst hzz
          refine .inr ⟨b, o' + l.toNat * z', cc - l.toNat, z', ?_, hm, hlt, hrr.sub, by rw [hlen]; omega⟩
          rw [hlen, if_neg hne]
          simp [Addr.add_mid]
      ·cases he
     ·cases he
    ·cases he
  ·cases hc
 ·cases hc
theorem IG (s : SR Γ M0 base σ a w ρ) {o : Oper} {d : Md} {z : Nat} {x : Opd} {lo hi : Option Opd} {v : V} {call : Nat → List V → Option V}
 (hc : iS P kf d o.op = some (.slcF z x lo hi)) (he : cF call σ (.slcF z x lo hi) = some v) : mi P M0 base σ w ρ v σ.h (execOp a.eval o) := by
 obtain ⟨t, x', lo', hi', mx', hop, hc'⟩ : ∃ t x' lo' hi' mx', o.op = .slice t x' lo' hi' mx' ∧ iS P kf ⟨d.draw, d.dt, false, d.sb, d.tr⟩ o.op = some (.slcL z x lo hi) := by
  cases hop : o.op
  case slice t x' lo' hi' mx' =>
   refine ⟨t, x', lo', hi', mx', rfl, ?_⟩
   rw [hop] at hc
   simp only [iS] at hc ⊢
   split at hc
   ·cases hc
   ·split at hc
    ·split at hc
     ·cases hc
     ·rename_i hz0
      by_cases q : d.st = true
      ·rw [if_pos q] at hc
       cases hc
       simp only [if_neg hz0, Bool.false_eq_true, if_false]
      ·rw [if_neg q] at hc; cases hc
    ·cases hc
   ·cases hc
  case makeFunc fn first caps => rw [hop] at hc; cases fn <;> simp only [iS] at hc <;> first | (cases hc; done) | ((repeat' (split at hc)) <;> cases hc)
  all_goals
   rw [hop] at hc
   simp only [iS] at hc
   first
   | (cases hc; done)
   | (simp only [Option.map_eq_some_iff] at hc; obtain ⟨_, _, hc⟩ := hc; cases hc; done)
   | ((repeat' (split at hc)) <;> cases hc)
 refine CK (call := call) s hop hc' ?_
 simp only [cF] at he
 split at he
 ·rename_i es hx
  split at he
  ·rename_i l r hl hr
   split at he
   ·rename_i hb
    cases he
    simp only [dN, hx, asList, L.view, hl, hr, if_pos hb]
    rfl
   ·cases he
  ·cases he
 ·cases he
theorem GB {h : List AObj} (k : HR M0 base w ρ h) {v : V} {u : Value} {e : List PV} {h1 : List AObj} (r : VR (Mu M0 ρ h) w ρ h v u) (hc : o9 h v = some (e, h1)) :
 HR M0 base w ρ h1 ∧ Ch (Mu M0 ρ h) (Mu M0 ρ h1) w w ρ ρ h h1 ∧ wq (Mu M0 ρ h1) w e u := by
 unfold o9 at hc
 split at hc
 ·rename_i o i j
  split at hc
  ·rename_i hij
   obtain ⟨rfl, rfl⟩ := hij
   obtain ⟨r0, ob, hr0, hob, hpt⟩ := r
   have fboxc : ∀ {h2 : List AObj} {ps : List PV} {b : Nat}, HR M0 base w ρ h2 → h2[o]? = some (.fbox ps) → r0 = some b → u = .pointer (some ⟨b, 0, none⟩) → wq (Mu M0 ρ h2) w ps u := by
    intro h2 ps b k2 ho2 hrb hu
    obtain ⟨b', cur, e', hm, hrow, hl, hrd⟩ := k2.objs o _ r0 ho2 hr0
    rw [hrb] at e'; cases e'
    refine ⟨b, 0, hu, hm, hrow.lt, fQ.of fun j p hp => ?_⟩
    obtain ⟨v, hv, hr⟩ := hrd j p hp
    exact ⟨v, by rw [hrow.cell]; simpa using hv, hr⟩
   split at hc
   ·rename_i cs hcs
    rw [hcs] at hob; cases hob
    split at hc
    ·rename_i ps hps
     split at hc
     ·rename_i hmut
      cases hc
      have hmut' : ∀ l ∈ cs, L.mut h l = false := by simpa using hmut
      obtain ⟨k1, c1⟩ := k.fbox hcs (fun us hls => by
       obtain ⟨q1, q2⟩ := vF k hls hps (fun l _ => rfl) hmut'
       exact ⟨q1, q2⟩)
      obtain ⟨b, hrb, hu⟩ := hpt
      refine ⟨k1, c1, fboxc k1 (List.getElem?_set_self (List.getElem?_eq_some_iff.1 hcs).1) hrb ?_⟩
      rw [hu]; simp [AObj.z]
     ·cases hc
    ·cases hc
   ·rename_i ps hcs
    rw [hcs] at hob; cases hob
    cases hc
    obtain ⟨b, hrb, hu⟩ := hpt
    exact ⟨k, Ch.refl _ _ _ _, fboxc k hcs hrb (by rw [hu]; simp [AObj.z])⟩
   ·cases hc
  ·cases hc
 ·rename_i e' j
  split at hc
  ·rename_i hj
   subst hj
   cases hc
   obtain ⟨b, o, hu, hm, hlt, hr⟩ := r
   exact ⟨k, Ch.refl _ _ _ _, b, o, hu, hm, hlt, hr⟩
  ·cases hc
 ·cases hc
theorem wx : ∀ {vs : List V} {us : List Value} {h h1 : List AObj} {es : List (List PV)}, HR M0 base w ρ h → vs.length = us.length → (∀ (i : Nat) (v : V) (u : Value), vs[i]? = some v → us[i]? = some u → VR (Mu M0 ρ h) w ρ h v u) → kT h vs = some (es, h1) →
 HR M0 base w ρ h1 ∧ Ch (Mu M0 ρ h) (Mu M0 ρ h1) w w ρ ρ h h1 ∧ es.length = us.length ∧ ∀ (i : Nat) (e : List PV) (u : Value), es[i]? = some e → us[i]? = some u → wq (Mu M0 ρ h1) w e u
 | [], us, h, h1, es, k, hl, _, hc => by
  simp [kT] at hc
  obtain ⟨rfl, rfl⟩ := hc
  exact ⟨k, Ch.refl _ _ _ _, by simpa using hl, fun i e u he => by simp at he⟩
 | v :: vs, [], h, h1, es, k, hl, _, hc => by simp at hl
 | v :: vs, u :: us, h, h1, es, k, hl, hr, hc => by
  unfold kT at hc
  split at hc
  ·rename_i e1 h2 hc1
   split at hc
   ·rename_i es2 h3 hc2
    cases hc
    obtain ⟨k1, c1, r1⟩ := GB k (hr 0 v u rfl rfl) hc1
    obtain ⟨k2, c2, l2, r2⟩ := wx k1 (by simpa using hl) (fun i v' u' hv hu => (hr (i + 1) v' u' (by simpa using hv) (by simpa using hu)).ch c1) hc2
    refine ⟨k2, c1.trans c2, by simp [l2], fun i e u' he hu => ?_⟩
    cases i with
    | zero =>
     simp at he hu; subst he; subst hu
     exact r1.go c2.go
    | succ i => exact r2 i e u' (by simpa using he) (by simpa using hu)
   ·cases hc
  ·cases hc
theorem Iw (s : SR Γ M0 base σ a w ρ) {o : Oper} {d : Md} {ao : AOp} {v : V} {h' : List AObj} {call : Nat → List V → Option V} {fn : Fn} {first caps : Array Operand} (hop : o.op = .makeFunc fn first caps)
 (hc : iS P kf d o.op = some ao) (he : dN call σ ao = some (v, h')) : mi P M0 base σ w ρ v h' (execOp a.eval o) := by
 rw [hop] at hc
 cases fn with
 | func f =>
  simp only [iS] at hc
  split at hc
  ·rename_i k cs hk hcs
   split at hc
   ·rename_i hfirst
    cases hc
    simp only [dN] at he
    split at he
    ·rename_i es h1 hcap
     cases he
     have hl : (cs.map (Opd.ev σ)).length = (caps.map a.eval).toList.length := by simp [ja hcs]
     obtain ⟨k1, c1, l1, r1⟩ := wx s.hr hl (fun i v u hv hu => by
      simp only [List.getElem?_map, Option.map_eq_some_iff, Array.toList_map] at hv hu
      obtain ⟨y, hy, rfl⟩ := hv
      obtain ⟨x, hx, rfl⟩ := hu
      obtain ⟨y', hy', hc⟩ := lu hcs i x hx
      rw [hy] at hy'; cases hy'
      exact bc s hc) hcap
     have hf0 : first = #[] := by simpa using hfirst
     subst hf0
     refine ⟨.value (.func (.func f) #[] (caps.map a.eval)), .func (.func f) #[] (caps.map a.eval), w, ρ, ?_, .inl rfl, Below.refl _ _, k1, c1, f, caps.map a.eval, rfl, hk, by rw [l1]; simp, fun i e u he hu => r1 i e u he (by simpa using hu)⟩
     simp [execOp, hop, Instr.makeFunc]
    ·cases he
   ·cases hc
  ·cases hc
 | _ => simp [iS] at hc
theorem KV (s : SR Γ M0 base σ a w ρ) {o : Oper} {d : Md} {x : Opd} {v : V} {call : Nat → List V → Option V}
 (hc : iS P kf d o.op = some (.s2b x)) (he : cF call σ (.s2b x) = some v) : ∃ u w', (execOp a.eval o).run P w = .ok (.value u) w' ∧ Below w.heap.size w w' ∧ VR (Mu M0 ρ σ.h) w' ρ σ.h v u := by
 obtain ⟨src, dst, y, e, hop, h1, h2, h3, h4⟩ : ∃ src dst y e, o.op = .convert src dst y ∧ P.underlying src = some .string ∧ P.underlying dst = some (.slice e) ∧ iu y = some x ∧ P.underlying e = some (.int .u8) := by
  cases hop : o.op
  case convert src dst y =>
   rw [hop] at hc; simp only [iS] at hc
   split at hc
   ·cases hc
   ·split at hc <;> cases hc
   ·rename_i e y' q1 q2 q3
    split at hc
    ·rename_i q4 q5
     cases hc
     exact ⟨src, dst, y, e, rfl, q1, q2, q3, q4⟩
    ·cases hc
   ·cases hc
  case makeFunc fn first caps => rw [hop] at hc; cases fn <;> simp only [iS] at hc <;> first | (cases hc; done) | ((repeat' (split at hc)) <;> cases hc)
  all_goals
   rw [hop] at hc
   simp only [iS] at hc
   first
   | (cases hc; done)
   | (simp only [Option.map_eq_some_iff] at hc; obtain ⟨_, _, hc⟩ := hc; cases hc; done)
   | ((repeat' (split at hc)) <;> cases hc)
 simp only [cF] at he
 split at he
 ·rename_i st hst
  cases he
  have ex := (bc s h3).str hst
  have hrun := run_bytes_of_string (P := P) w src dst e ⟨st.toArray⟩ h1 h2 h4
  have hsz : (⟨st.toArray⟩ : ByteArray).size = st.length := by simp [ByteArray.size]
  rw [hsz] at hrun
  have hcap := grownCap_ge w st.length 0 e
  generalize grownCap w st.length 0 e = cap at hrun hcap
  generalize hw' : w.drew.alloc (.cells (bytesRow ⟨st.toArray⟩ cap) e ((bytesRow ⟨st.toArray⟩ cap).size, (bytesRow ⟨st.toArray⟩ cap).size + 1)) = w' at hrun
  have hold : ∀ b, b < w.heap.size → w'.heap[b]? = w.heap[b]? := fun b hb => by rw [← hw']; exact gP w.drew _ b hb
  have hsize : w'.heap.size = w.heap.size + 1 := by rw [← hw']; simp
  have hnew : w'.heap[w.heap.size]? = some (.cells (bytesRow ⟨st.toArray⟩ cap) e ((bytesRow ⟨st.toArray⟩ cap).size, (bytesRow ⟨st.toArray⟩ cap).size + 1)) := by
   rw [← hw']; exact heap_alloc_new w.drew _
  refine ⟨.slice (some ⟨w.heap.size, 0, none⟩) st.length cap, w', ?_, ⟨by rw [← hw']; rfl, by rw [← hw']; rfl, by rw [← hw']; rfl, by omega, hold⟩, ?_⟩
  ·simp only [execOp, hop, ex, Sem.run_bind, hrun, Result.andThen_ok, Sem.run_pure]
  ·show aV _ w' (.lst (aU st)) _
   simp only [aV]
   have hl : (aU st).length = st.length := by simp [aU]
   refine .inr ⟨w.heap.size, 0, cap, 1, by rw [hl], fun hm => ?_, by omega, ep.of fun i e' he' => ?_, by rw [hl]; exact hcap⟩
   ·rcases hm with hm | ⟨oo, ob, ho, hmut, hr⟩
    ·have := s.hr.old _ hm; have := s.hr.le; omega
    ·have := (s.hr.objs oo ob _ ho hr).lt (AObj.mut_live hmut)
     omega
   ·simp only [aU, List.getElem?_map, Option.map_eq_some_iff] at he'
    obtain ⟨b, hb, rfl⟩ := he'
    refine ⟨rfl, fQ.of fun j p hp => ?_⟩
    cases j with
    | zero =>
     simp at hp; subst hp
     refine ⟨.int .u8 b.toNat, ?_, by simp [aV]⟩
     have hi : i < st.length := (List.getElem?_eq_some_iff.1 hb).1
     have hb' : st[i] = b := (List.getElem?_eq_some_iff.1 hb).2
     simp only [World.cell?, hnew]
     simp [bytesRow, Array.getElem?_append, hi, hb']
    | succ j => simp at hp
 ·cases he
end
end Gi
namespace Gi
open Go Go.RowKit
variable {KI : KF}
section
variable {Γ : Ctx} {P : Program} {M0 : Nat → Prop} {base : Nat} {σ : St} {a : Act} {w : World} {ρ : List (Option Nat)}
theorem Hh (hP : KI.pr = P) (s : SR Γ M0 base σ a w ρ) {o : Oper} {d : Md} {ao : AOp} {v : V} {h' : List AObj} {call : Nat → List V → Option V} {t : TypeId} {r : Option Operand} (hop : o.op = .makeMap t r)
 (hc : iS P kf d o.op = some ao) (he : dN call σ ao = some (v, h')) : mi P M0 base σ w ρ v h' (execOp a.eval o) := by
 rw [hop] at hc; simp only [iS] at hc
 split at hc
 ·rename_i hr
  split at hc
  ·rename_i ht
   cases hc; cases he
   subst hP
   have hsome : (pD KI.pr t).isSome = true := by
    unfold Ml at ht
    exact List.find?_some (p := fun t => (pD KI.pr t).isSome) ht
   obtain ⟨⟨k, e⟩, hke⟩ := Option.isSome_iff_exists.1 hsome
   obtain ⟨h1, h2⟩ := s.hr.push (w' := w.alloc (.map #[] 0)) (by simp) (fun b hb => gP w _ b hb) (some w.heap.size) (.imap []) (fun b e => by cases e; exact Nat.le_refl _)
    (fun c => ⟨w.heap.size, rfl, s.hr.le, t, k, e, .map [], ht, hke, World.ownsMap_made w KI.pr k _, fun x _ => rfl⟩)
   refine ⟨.value (.map (some w.heap.size)), _, _, _, ?_, .inl rfl, (Below.refl _ _).alloc s.hr.le _, h1, h2, w.heap.size, [], ?_, ?_, rfl⟩
   ·simp only [execOp, hop]
    simp [Instr.makeMap, run_newObj_alloc]
   ·rw [← s.hr.len]; simp
   ·simp
  ·cases hc
 ·cases hc
theorem Ix (hP : KI.pr = P) (s : SR Γ M0 base σ a w ρ) {o : Oper} {d : Md} {ao : AOp} {v : V} {h' : List AObj} {call : Nat → List V → Option V} {t : TypeId} {m x y : Operand} (hop : o.op = .mapUpdate t m x y)
 (hc : iS P kf d o.op = some ao) (he : dN call σ ao = some (v, h')) : mi P M0 base σ w ρ v h' (execOp a.eval o) := by
 rw [hop] at hc; simp only [iS] at hc
 split at hc
 ·rename_i m' x' y' hm hx hy
  split at hc
  ·rename_i ht
   cases hc
   simp only [dN] at he
   split at he
   ·rename_i o' n u em ex ey
    split at he
    ·rename_i kvs hob
     split at he
     ·rename_i hcond
      obtain ⟨hn, hu, hlen⟩ := hcond
      cases he
      subst hP
      have rm := bc s hm
      rw [em] at rm
      obtain ⟨b, kvs', hr, ho, ev⟩ := rm
      rw [hob] at ho; cases ho
      have rx := bc s hx
      rw [ex] at rx
      have exv : a.eval x = .int .i64 n := by simpa [VR, LR, aV] using rx
      have ry := bc s hy
      rw [ey] at ry
      have eyv : a.eval y = .int .i64 u := by simpa [VR, LR, aV] using ry
      obtain ⟨b', e1, hbase, hM⟩ := s.hr.objs o' _ _ hob hr
      cases e1
      obtain ⟨t', k, e, D, q1, q2, q3, q4⟩ := hM
      rw [ht] at q1; cases q1
      obtain ⟨u1, u2, u3⟩ := ve q2
      obtain ⟨w', hrun, hown, es, clock, es', clock', hb0, hw'⟩ := q3.store (Maps.int_keyed u2) u1 (by unfold maxLen; omega) (Maps.keyOf_int_mk u2 (Fy hn)) (plainElem_int u3 (Fy hu))
      have hsz : w'.heap.size = w.heap.size := by rw [hw']; simp [ChangeMaps.setBlock]
      have hoth : ∀ c, c ≠ b → w'.heap[c]? = w.heap[c]? := by
       intro c hc
       rw [hw']
       simp only [ChangeMaps.setBlock]
       rw [Array.getElem?_setIfInBounds_ne (Ne.symm hc)]
      obtain ⟨g1, g2⟩ := s.hr.upd (w' := w') (ob' := .imap ((n, u) :: kvs)) hob hr rfl trivial hsz.symm
       (fun c hc => hoth c (fun e => hc (by rw [e])))
       (fun c cur e hrw => by
        cases e
        obtain ⟨T, hrw⟩ := hrw
        rw [hb0] at hrw
        cases hrw)
       (fun c => ⟨b, rfl, hbase, t, k, e, D.put (.int .i64 n) (.lit (.int .i64 u)), ht, q2, hown, fun z hz => by
        by_cases hzn : z = n
        ·subst hzn
         rw [Maps.atKey_put_same q3.isMap ((Maps.int_keyed u2).key (Maps.keyOf_int_mk u2 hz))]
         simp [vV]
        ·rw [Maps.atKey_put_other (by intro e; cases e; exact hzn rfl), q4 z hz]
         simp [vV, hzn]⟩)
      refine ⟨.skip, undef, w', ρ, ?_, .inr ⟨rfl, rfl⟩, ⟨by rw [hw']; rfl, by rw [hw']; rfl, by rw [hw']; rfl, by rw [hsz]; exact Nat.le_refl _, fun c hc => hoth c (by omega)⟩, g1, g2, VR.undef⟩
      simp only [execOp, hop, ev, exv, eyv]
      simp [hrun]
     ·cases he
    ·cases he
   ·cases he
  ·cases hc
 ·cases hc
theorem EN (s : SR Γ M0 base σ a w ρ) {o : Oper} {d : Md} {cs : List L} {t : TypeId} (hop : o.op = .alloc t)
 (hc : iS P kf d o.op = some (.alloc cs)) : mi P M0 base σ w ρ (.one (.tp cs.length)) (σ.h ++ [.tbox cs.length]) (execOp a.eval o) := by
 rw [hop] at hc; simp only [iS] at hc
 split at hc
 ·rename_i v0 hz
  split at hc
  ·rename_i cs' hcs
   cases hc
   obtain ⟨i, hi, hz'⟩ : ∃ i, P.info? t = some i ∧ i.zero = some v0 := by
    unfold oM at hz
    cases hi : P.info? t with
    | none => simp [hi] at hz
    | some i => simp [hi] at hz; exact ⟨i, rfl, hz⟩
   have hl : cs.length = v0.cells.size := by
    have := (vq (KI := KI) (M := Mu M0 ρ σ.h) (w := w) (ρ := ρ) (h := σ.h) hcs : uW (Mu M0 ρ σ.h) w ρ σ.h cs v0.cells.toList).1
    simpa using this
   obtain ⟨h1, h2⟩ := s.hr.push (w' := w.alloc (.cells v0.cells t)) (by simp) (fun b hb => gP w _ b hb) (some w.heap.size) (.tbox cs.length) (fun b e => by cases e; exact Nat.le_refl _)
    (fun c => ⟨w.heap.size, v0.cells, rfl, s.hr.le, jS.new w v0.cells t, hl.symm⟩)
   refine ⟨_, .pointer (some ⟨w.heap.size, 0, none⟩), _, _, ?_, .inl rfl, (Below.refl _ _).alloc s.hr.le _, h1, h2, σ.h.length, w.heap.size, ?_, ?_, rfl⟩
   ·simp only [execOp, hop]
    simp [Instr.alloc, zeroValue, typeInfo, hi, hz', newVar, newRow, run_newObj_alloc]
   ·rw [← s.hr.len]; simp
   ·simp
  ·cases hc
 ·cases hc
theorem FO (s : SR Γ M0 base σ a w ρ) {o : Oper} {d : Md} {t : TypeId} {x y : Operand} {n : Nat} {x' y' : Opd} (hop : o.op = .store t x y)
 (hc : iS P kf d o.op = some (.store n x' y')) (hev : x'.ev σ = .one (.tp n)) (hlen : (y'.ev σ).cells.length = n) (hpl : (y'.ev σ).cells.all plain = true) : mi P M0 base σ w ρ (.tup []) σ.h (execOp a.eval o) := by
 rw [hop] at hc; simp only [iS] at hc
 split at hc
 ·rename_i n1 x1 y1 hn hx hy
  cases hc
  have rx := bc s hx
  have ry := bc s hy
  rw [hev] at rx
  obtain ⟨ob, b, hr0, hob, hu⟩ := rx
  have hls := ry.cells (V.not_tup hpl)
  obtain ⟨b', cur, e, hbase, hrow, hcur⟩ := s.hr.objs ob _ _ hob hr0
  cases e
  have hsz : (a.eval y).cells.size = n := by rw [← hlen, hls.1]; simp
  have hrun := t8 (P := P) hn hrow hsz (by omega) hls.ones (o := 0)
  obtain ⟨cur', hrow', hsz', hget⟩ := eJ b (a.eval y).cells.toList 0 w cur hrow (by simp [hsz]; omega)
  have hlt : ob < σ.h.length := (List.getElem?_eq_some_iff.1 hob).1
  have hset : σ.h.set ob (.tbox n) = σ.h := by
   have := (List.getElem?_eq_some_iff.1 hob).2
   rw [← this]
   exact List.set_getElem_self hlt
  obtain ⟨g1, g2⟩ := s.hr.upd (w' := w.setCells b 0 (a.eval y).cells.toList) (ob' := .tbox n) hob hr0 rfl rfl (fY b _ 0 w).symm
   (fun k hk => fH b _ 0 w k (fun e => hk (by rw [e])))
   (fun k c e hr => by cases e; rw [hr.inj hrow]; exact ⟨cur', hrow', hsz'⟩)
   (fun c => ⟨b, cur', rfl, hbase, hrow', by rw [hsz']; exact hcur⟩)
  rw [hset] at g1 g2
  refine ⟨.skip, undef, _, ρ, ?_, .inr ⟨rfl, rfl⟩, cz b base hbase _ 0 w w (Below.refl _ _), g1, g2, VR.undef⟩
  simp only [execOp, hop, hu]
  simp [hrun]
 ·cases hc
end
end Gi
namespace Gi
open Go Go.RowKit
variable {KI : KF}
def Be (P : Program) (f z bytes : Nat) : Prop :=
 ∀ (w : World) (r : Option Nat) (n c i vb m vc : Nat) (cs vs : List Value) (cur vcur : Array Value),
  0 < m → i ≤ n → n ≤ c → c ≤ maxLen → n + m ≤ maxLen → (n + m) * bytes ≤ 140737488355328 → cs.length = n * z → vs.length = m * z → (∀ v ∈ cs, v.oneCell' = true) → (∀ v ∈ vs, v.oneCell' = true) →
  (match r with
   | none => n = 0 ∧ c = 0
   | some b => jS w b cur ∧ cur.size = c * z ∧ vb ≠ b ∧ ∀ (j : Nat) v, cs[j]? = some v → cur[j]? = some v) →
  jS w vb vcur → (∀ (j : Nat) v, vs[j]? = some v → vcur[j]? = some v) →
  Calls P f #[.slice (r.map fun b => ⟨b, 0, none⟩) n c, .int .i64 i, .slice (some ⟨vb, 0, none⟩) m vc] w fun e w' =>
   ∃ b' c' cur', e = .returned (.slice (some ⟨b', 0, none⟩) (n + m) c') ∧ jS w' b' cur' ∧ cur'.size = c' * z ∧ n + m ≤ c' ∧ c' ≤ maxLen ∧
    (∀ (j : Nat) v, (cs.take (i * z) ++ vs ++ cs.drop (i * z))[j]? = some v → cur'[j]? = some v) ∧
    (r = some b' ∧ cur'.size = cur.size ∧ w'.heap.size = w.heap.size ∨ b' = w.heap.size ∧ w.heap.size < w'.heap.size) ∧ w'.os = w.os ∧ w'.tape = w.tape ∧ w'.output = w.output ∧ ∀ k, k < w.heap.size → k ≠ b' → w'.heap[k]? = w.heap[k]?
section
variable {Γ : Ctx} {P : Program} {M0 : Nat → Prop} {base : Nat} {σ : St} {a : Act} {w : World} {ρ : List (Option Nat)}
theorem Lx {z i n j : Nat} (h : i < n) (hj : j < z) : i * z + j < n * z := by
 calc i * z + j < i * z + z := by omega
  _ = (i + 1) * z := by rw [Nat.add_mul, Nat.one_mul]
  _ ≤ n * z := Nat.mul_le_mul_right _ h
theorem zW {M : Nat → Prop} {z i : Nat} {es vs : List (List PV)} {cs vcs : List Value} (hes : ∀ e ∈ es, e.length = z) (hvs : ∀ e ∈ vs, e.length = z) (hcl : cs.length = es.length * z) (hvl : vcs.length = vs.length * z) (hi : i ≤ es.length)
 (h1 : ∀ (a : Nat) (e : List PV) (j : Nat) (p : PV), es[a]? = some e → e[j]? = some p → ∃ v, cs[a * z + j]? = some v ∧ aV M w p v)
 (h2 : ∀ (a : Nat) (e : List PV) (j : Nat) (p : PV), vs[a]? = some e → e[j]? = some p → ∃ v, vcs[a * z + j]? = some v ∧ aV M w p v) :
 ∀ (a : Nat) (e : List PV) (j : Nat) (p : PV), (es.take i ++ vs ++ es.drop i)[a]? = some e → e[j]? = some p → ∃ v, (cs.take (i * z) ++ vcs ++ cs.drop (i * z))[a * z + j]? = some v ∧ aV M w p v := by
 have hiz : i * z ≤ cs.length := by rw [hcl]; exact Nat.mul_le_mul_right _ hi
 have htl : (cs.take (i * z)).length = i * z := by rw [List.length_take]; omega
 have hel : (es.take i).length = i := by rw [List.length_take]; omega
 intro a e j p he hp
 have hj := (List.getElem?_eq_some_iff.1 hp).1
 by_cases ha : a < i
 ·rw [List.append_assoc, List.getElem?_append_left (by rw [hel]; exact ha), List.getElem?_take, if_pos ha] at he
  rw [hes e (List.mem_of_getElem? he)] at hj
  have hlt := Lx ha hj
  obtain ⟨v, hv, hr⟩ := h1 a e j p he hp
  exact ⟨v, by rw [List.append_assoc, List.getElem?_append_left (by rw [htl]; exact hlt), List.getElem?_take, if_pos hlt]; exact hv, hr⟩
 ·by_cases hb : a < i + vs.length
  ·rw [List.append_assoc, List.getElem?_append_right (by rw [hel]; omega), hel, List.getElem?_append_left (by omega)] at he
   rw [hvs e (List.mem_of_getElem? he)] at hj
   have hlt := Lx (show a - i < vs.length by omega) hj
   have hsub : a * z + j - i * z = (a - i) * z + j := by
    rw [Nat.sub_mul]
    have : i * z ≤ a * z := Nat.mul_le_mul_right _ (by omega)
    omega
   have hge : i * z ≤ a * z + j := Nat.le_trans (Nat.mul_le_mul_right _ (by omega)) (Nat.le_add_right _ _)
   obtain ⟨v, hv, hr⟩ := h2 (a - i) e j p he hp
   exact ⟨v, by rw [List.append_assoc, List.getElem?_append_right (by rw [htl]; exact hge), htl, hsub, List.getElem?_append_left (by rw [hvl]; exact hlt)]; exact hv, hr⟩
  ·rw [List.getElem?_append_right (by rw [List.length_append, hel]; omega), List.length_append, hel, List.getElem?_drop] at he
   rw [hes e (List.mem_of_getElem? he)] at hj
   have hge : (i + vs.length) * z ≤ a * z + j := Nat.le_trans (Nat.mul_le_mul_right _ (by omega)) (Nat.le_add_right _ _)
   rw [Nat.add_mul] at hge
   have hsub : i * z + (a * z + j - (i * z + vs.length * z)) = (i + (a - (i + vs.length))) * z + j := by
    rw [Nat.add_mul, Nat.sub_mul, Nat.add_mul]
    have : (i + vs.length) * z ≤ a * z := Nat.mul_le_mul_right _ (by omega)
    rw [Nat.add_mul] at this
    omega
   obtain ⟨v, hv, hr⟩ := h1 _ e j p he hp
   exact ⟨v, by rw [List.getElem?_append_right (by rw [List.length_append, htl, hvl]; exact hge), List.length_append, htl, hvl, List.getElem?_drop, hsub]; exact hv, hr⟩
theorem CG {M : Nat → Prop} {z : Nat} {es : List (List PV)} {cs : List Value} (hz : 0 < z) (hes : ∀ e ∈ es, e.length = z) (hcl : cs.length = es.length * z)
 (h1 : ∀ (a : Nat) (e : List PV) (j : Nat) (p : PV), es[a]? = some e → e[j]? = some p → ∃ v, cs[a * z + j]? = some v ∧ aV M w p v) : ∀ v ∈ cs, v.oneCell' = true := by
 intro v hv
 obtain ⟨k, hk, rfl⟩ := List.mem_iff_getElem.1 hv
 have ha : k / z < es.length := by
  rw [Nat.div_lt_iff_lt_mul hz, ← hcl]; exact hk
 have hj : k % z < es[k / z].length := by rw [hes _ (List.getElem_mem ha)]; exact Nat.mod_lt _ hz
 obtain ⟨u, hu, hr⟩ := h1 (k / z) es[k / z] (k % z) es[k / z][k % z] (by simp [ha]) (by simp [hj])
 rw [show k / z * z + k % z = k by rw [Nat.mul_comm]; exact Nat.div_add_mod k z, List.getElem?_eq_getElem hk] at hu
 cases hu
 exact hr.one
theorem vZ {M : Nat → Prop} {z cap : Nat} {es : List (List PV)} {cur : Array Value} (hes : ∀ e ∈ es, e.length = z) (hsize : cur.size = cap * z) (hcap : es.length ≤ cap)
 (h1 : ∀ (a : Nat) (e : List PV) (j : Nat) (p : PV), es[a]? = some e → e[j]? = some p → ∃ v, cur[a * z + j]? = some v ∧ aV M w p v) :
 (cur.toList.take (es.length * z)).length = es.length * z ∧ (∀ (j : Nat) v, (cur.toList.take (es.length * z))[j]? = some v → cur[j]? = some v) ∧
 ∀ (a : Nat) (e : List PV) (j : Nat) (p : PV), es[a]? = some e → e[j]? = some p → ∃ v, (cur.toList.take (es.length * z))[a * z + j]? = some v ∧ aV M w p v := by
 have hle : es.length * z ≤ cur.size := by rw [hsize]; exact Nat.mul_le_mul_right _ hcap
 refine ⟨by simp; omega, fun j v hv => ?_, fun a e j p he hp => ?_⟩
 ·rw [List.getElem?_take] at hv
  split at hv
  ·simpa using hv
  ·cases hv
 ·obtain ⟨v, hv, hr⟩ := h1 a e j p he hp
  have hj := (List.getElem?_eq_some_iff.1 hp).1
  rw [hes e (List.mem_of_getElem? he)] at hj
  refine ⟨v, ?_, hr⟩
  rw [List.getElem?_take, if_pos (Lx (List.getElem?_eq_some_iff.1 he).1 hj)]
  simpa using hv
theorem MW {i : Nat} {es vs : List (List PV)} (hi : i ≤ es.length) : (es.take i ++ vs ++ es.drop i).length = es.length + vs.length := by simp; omega
theorem Cr {f z bytes : Nat} (hz0 : 0 < z) {h : List AObj} (k : HR M0 base w ρ h) {w' : World} {es : List (List PV)} {cs : List Value} {c' : Nat} {cur' : Array Value} (hall : ∀ e ∈ es, e.length = z)
 (hrows : ∀ (a : Nat) (e : List PV) (j : Nat) (p : PV), es[a]? = some e → e[j]? = some p → ∃ v, cs[a * z + j]? = some v ∧ aV (Mu M0 ρ h) w p v)
 (hrow : jS w' w.heap.size cur') (hsize : cur'.size = c' * z) (hn : es.length ≤ c') (hc : c' ≤ maxLen) (hcells : ∀ (j : Nat) v, cs[j]? = some v → cur'[j]? = some v) (hlt : w.heap.size < w'.heap.size) (hfr : ∀ b, b < w.heap.size → w'.heap[b]? = w.heap[b]?) :
 ∃ ρ', HR M0 base w' ρ' (h ++ [.arr z es]) ∧ Ch (Mu M0 ρ h) (Mu M0 ρ' (h ++ [.arr z es])) w w' ρ ρ' h (h ++ [.arr z es]) ∧
  VR (Mu M0 ρ' (h ++ [.arr z es])) w' ρ' (h ++ [.arr z es]) (.one (.arr h.length)) (.slice (some ⟨w.heap.size, 0, none⟩) es.length c') :=
 CB k hlt hfr hz0 hall hrow hsize hn hc fun a e j p he hp => by
  obtain ⟨v, hv, hr⟩ := hrows a e j p he hp
  exact ⟨v, hcells _ v hv, hr⟩
theorem Ip (s : SR Γ M0 base σ a w ρ) {f z bytes : Nat} (ok : Be P f z bytes) {o o2 : Nat} {es vs : List (List PV)} (ho : σ.h[o]? = some (.arr z es)) (ho2 : σ.h[o2]? = some (.arr z vs)) (hne : o ≠ o2) (hm : 0 < vs.length) {i : Nat} (hi : i ≤ es.length)
 (hlim : (es.length + vs.length) * bytes ≤ 140737488355328) (h63 : es.length + vs.length ≤ maxLen) {ux uv : Value} (rx : LR (Mu M0 ρ σ.h) w ρ σ.h (.arr o) ux) (rv : LR (Mu M0 ρ σ.h) w ρ σ.h (.arr o2) uv) :
 Calls P f #[ux, .int .i64 i, uv] w fun e w' => ∃ u ρ', e = .returned u ∧ Below base w w' ∧ HR M0 base w' ρ' (σ.h.set o .dead ++ [.arr z (es.take i ++ vs ++ es.drop i)]) ∧
  Ch (Mu M0 ρ σ.h) (Mu M0 ρ' (σ.h.set o .dead ++ [.arr z (es.take i ++ vs ++ es.drop i)])) w w' ρ ρ' σ.h (σ.h.set o .dead ++ [.arr z (es.take i ++ vs ++ es.drop i)]) ∧
  VR (Mu M0 ρ' (σ.h.set o .dead ++ [.arr z (es.take i ++ vs ++ es.drop i)])) w' ρ' (σ.h.set o .dead ++ [.arr z (es.take i ++ vs ++ es.drop i)]) (.one (.arr σ.h.length)) u := by
 obtain ⟨r0, ob0, hr0, hob0, hsl⟩ := rx
 rw [ho] at hob0; cases hob0
 obtain ⟨r2, ob2, hr2, hob2, hsl2⟩ := rv
 rw [ho2] at hob2; cases hob2
 obtain ⟨hz0, hes, kx⟩ := s.hr.objs o _ r0 ho hr0
 obtain ⟨_, hvs, kv⟩ := s.hr.objs o2 _ r2 ho2 hr2
 cases r2 with
 | none => obtain rfl : vs = [] := kv; simp at hm
 | some vb =>
 obtain ⟨_, vcur, vcap, hvrow, v1, v2, v3, v4⟩ := kv
 obtain ⟨vcur', vcap', hvrow', v1', v2', v3', ev⟩ := hsl2
 obtain ⟨q1, q2, q3⟩ := vZ hvs v1 v2 v4
 have qo := CG hz0 hvs q1 q3
 have hnl := MW (vs := vs) hi
 have hall : ∀ e ∈ es.take i ++ vs ++ es.drop i, e.length = z := fun e he => by
  simp only [List.mem_append] at he
  rcases he with (h | h) | h
  ·exact hes e (List.mem_of_mem_take h)
  ·exact hvs e h
  ·exact hes e (List.mem_of_mem_drop h)
 have dead := s.hr.upd (w' := w) (ob' := .dead) ho hr0 rfl trivial rfl (fun _ _ => rfl) (fun b cur _ hrw => ⟨cur, hrw, rfl⟩) (fun _ => trivial)
 have fresh : ∀ {cs : List Value} {w' : World} {c' : Nat} {cur' : Array Value}, (∀ (a : Nat) (e : List PV) (j : Nat) (p : PV), (es.take i ++ vs ++ es.drop i)[a]? = some e → e[j]? = some p → ∃ v, cs[a * z + j]? = some v ∧ aV (Mu M0 ρ σ.h) w p v) →
  jS w' w.heap.size cur' → cur'.size = c' * z → es.length + vs.length ≤ c' → c' ≤ maxLen → (∀ (j : Nat) v, cs[j]? = some v → cur'[j]? = some v) → w.heap.size < w'.heap.size → w'.os = w.os → w'.tape = w.tape → w'.output = w.output → (∀ k, k < w.heap.size → k ≠ w.heap.size → w'.heap[k]? = w.heap[k]?) →
  ∃ u ρ', (Ending.returned (.slice (some ⟨w.heap.size, 0, none⟩) (es.length + vs.length) c') = .returned u) ∧ Below base w w' ∧ HR M0 base w' ρ' (σ.h.set o .dead ++ [.arr z (es.take i ++ vs ++ es.drop i)]) ∧
   Ch (Mu M0 ρ σ.h) (Mu M0 ρ' (σ.h.set o .dead ++ [.arr z (es.take i ++ vs ++ es.drop i)])) w w' ρ ρ' σ.h (σ.h.set o .dead ++ [.arr z (es.take i ++ vs ++ es.drop i)]) ∧
   VR (Mu M0 ρ' (σ.h.set o .dead ++ [.arr z (es.take i ++ vs ++ es.drop i)])) w' ρ' (σ.h.set o .dead ++ [.arr z (es.take i ++ vs ++ es.drop i)]) (.one (.arr σ.h.length)) u := by
  intro cs w' c' cur' hrows hrow hsize hn hc hcells hlt e1 e2 e3 hfr
  obtain ⟨k2, c2⟩ := dead
  obtain ⟨ρ', g1, g2, g3⟩ := Cr (f := f) (bytes := bytes) hz0 k2 hall (fun a e j p he hp => by
   obtain ⟨v, hv, hr⟩ := hrows a e j p he hp
   exact ⟨v, hv, aV.go c2.go p v hr⟩) hrow hsize (by rw [hnl]; exact hn) hc hcells hlt (fun b hb => hfr b hb (by omega))
  refine ⟨_, ρ', rfl, ⟨e1, e2, e3, Nat.le_of_lt hlt, fun k hk => hfr k (Nat.lt_of_lt_of_le hk s.hr.le) (by have := s.hr.le; omega)⟩, g1, c2.trans g2, ?_⟩
  rw [hnl] at g3
  simpa using g3
 cases r0 with
 | none =>
  obtain rfl : es = [] := kx
  have ex : ux = .slice none 0 0 := hsl
  subst ex ev
  have hi0 : i = 0 := by simpa using hi
  subst hi0
  refine (ok w none 0 0 0 vb vs.length vcap' [] (vcur.toList.take (vs.length * z)) #[] vcur hm (Nat.le_refl _) (Nat.le_refl _) (Nat.zero_le _) (by simpa using h63) (by simpa using hlim) (by simp) q1 (by simp) qo ⟨rfl, rfl⟩ hvrow q2).mono fun e w' ⟨b', c', cur', he, hrow, hsize, hn, hc, hcells, hwhere, e1, e2, e3, hfr⟩ => ?_
  rcases hwhere with ⟨h, _⟩ | ⟨rfl, hlt⟩
  ·cases h
  ·subst he
   exact fresh (cs := [].take (0 * z) ++ vcur.toList.take (vs.length * z) ++ [].drop (0 * z)) (zW (i := 0) (es := []) (cs := []) (by simp) hvs (by simp) q1 (by simp) (fun a e j p he => by simp at he) q3) hrow hsize (by simpa using hn) hc hcells hlt e1 e2 e3 hfr
 | some b =>
  obtain ⟨hbase, cur, cap, hrow, h1, h2, h3, h4⟩ := kx
  obtain ⟨cur1, cap1, hrow1, h11, h21, h31, ex⟩ := hsl
  cases hrow.inj hrow1
  have hcap : cap1 = cap := Nat.eq_of_mul_eq_mul_right hz0 (h11.symm.trans h1)
  subst hcap ex ev
  have hvb : vb ≠ b := fun e => hne (s.hr.apart o o2 _ _ b ho ho2 rfl rfl hr0 (by rw [hr2, e]))
  obtain ⟨p1, p2, p3⟩ := vZ hes h1 h2 h4
  have po := CG hz0 hes p1 p3
  have hrows := zW hes hvs p1 q1 hi p3 q3
  refine (ok w (some b) es.length cap1 i vb vs.length vcap' (cur.toList.take (es.length * z)) (vcur.toList.take (vs.length * z)) cur vcur hm hi h2 h3 h63 hlim p1 q1 po qo ⟨hrow, h1, hvb, p2⟩ hvrow q2).mono fun e w' ⟨b', c', cur', he, hrow', hsize, hn, hc, hcells, hwhere, e1, e2, e3, hfr⟩ => ?_
  subst he
  rcases hwhere with ⟨hb', hcz, hws⟩ | ⟨rfl, hlt⟩
  ·cases hb'
   have hfr' : ∀ k, k ≠ b → w'.heap[k]? = w.heap[k]? := fun k hk => by
    by_cases hl : k < w.heap.size
    ·exact hfr k hl hk
    ·rw [Array.getElem?_eq_none (by omega), Array.getElem?_eq_none (by omega)]
   have hc1 : c' = cap1 := Nat.eq_of_mul_eq_mul_right hz0 (hsize.symm.trans (hcz.trans h1))
   obtain ⟨k2, c2⟩ := s.hr.upd (w' := w') (ob' := .arr z ((es.take i ++ vs ++ es.drop i).take es.length)) ho hr0 rfl ⟨rfl, by rw [List.length_take, hnl]; omega⟩ hws.symm
    (fun k hk => hfr' k (fun e => hk (by rw [e])))
    (fun k c e hrw => by cases e; rw [hrw.inj hrow]; exact ⟨cur', hrow', hcz⟩)
    (fun c => ⟨hz0, fun e he => hall e (List.mem_of_mem_take he), hbase, cur', c', hrow', hsize, by rw [List.length_take, hnl]; omega, hc, fun a1 e1 j1 p1 he1 hp1 => by
     rw [List.getElem?_take] at he1
     split at he1
     ·obtain ⟨v, hv, hrd⟩ := hrows a1 e1 j1 p1 he1 hp1
      exact ⟨v, hcells _ v hv, aV.go c.go p1 v hrd⟩
     ·cases he1⟩)
   have hlt0 : o < σ.h.length := (List.getElem?_eq_some_iff.1 ho).1
   obtain ⟨g1, g2⟩ := k2.rename (z := z) (es := (es.take i ++ vs ++ es.drop i).take es.length) (es' := es.take i ++ vs ++ es.drop i) (List.getElem?_set_self hlt0) hr0 (fun mu => by
    refine ⟨hz0, hall, hbase, cur', c', hrow', hsize, by rw [hnl]; exact hn, hc, fun a1 e1 j1 p1 he1 hp1 => ?_⟩
    obtain ⟨v, hv, hrd⟩ := hrows a1 e1 j1 p1 he1 hp1
    exact ⟨v, hcells _ v hv, (aV.go c2.go p1 v hrd).weak mu⟩)
   rw [List.set_set] at g1 g2
   refine ⟨_, _, rfl, ⟨e1, e2, e3, by omega, fun k hk => hfr' k (by omega)⟩, g1, c2.trans g2, some b, .arr z (es.take i ++ vs ++ es.drop i), ?_, ?_, cur', c', hrow', hsize, by rw [hnl]; exact hn, hc, by rw [hnl]⟩
   ·rw [← s.hr.len]; simp
   ·rw [List.getElem?_append_right (by simp)]; simp
  ·exact fresh hrows hrow' hsize hn hc hcells hlt e1 e2 e3 hfr
theorem Ir (s : SR Γ M0 base σ a w ρ) {f z bytes : Nat} (ok : Be P f z bytes) {o2 : Nat} {vs : List (List PV)} (ho2 : σ.h[o2]? = some (.arr z vs)) (hm : 0 < vs.length)
 (hlim : vs.length * bytes ≤ 140737488355328) (h63 : vs.length ≤ maxLen) {uv : Value} (rv : LR (Mu M0 ρ σ.h) w ρ σ.h (.arr o2) uv) :
 Calls P f #[.slice none 0 0, .int .i64 (0 : Nat), uv] w fun e w' => ∃ u ρ', e = .returned u ∧ Below base w w' ∧ HR M0 base w' ρ' (σ.h ++ [.arr z vs]) ∧
  Ch (Mu M0 ρ σ.h) (Mu M0 ρ' (σ.h ++ [.arr z vs])) w w' ρ ρ' σ.h (σ.h ++ [.arr z vs]) ∧ VR (Mu M0 ρ' (σ.h ++ [.arr z vs])) w' ρ' (σ.h ++ [.arr z vs]) (.one (.arr σ.h.length)) u := by
 obtain ⟨r2, ob2, hr2, hob2, hsl2⟩ := rv
 rw [ho2] at hob2; cases hob2
 obtain ⟨hz0, hvs, kv⟩ := s.hr.objs o2 _ r2 ho2 hr2
 cases r2 with
 | none => obtain rfl : vs = [] := kv; simp at hm
 | some vb =>
 obtain ⟨_, vcur, vcap, hvrow, v1, v2, v3, v4⟩ := kv
 obtain ⟨vcur', vcap', hvrow', v1', v2', v3', ev⟩ := hsl2
 subst ev
 obtain ⟨q1, q2, q3⟩ := vZ hvs v1 v2 v4
 have qo := CG hz0 hvs q1 q3
 refine (ok w none 0 0 0 vb vs.length vcap' [] (vcur.toList.take (vs.length * z)) #[] vcur hm (Nat.le_refl _) (Nat.le_refl _) (Nat.zero_le _) (by simpa using h63) (by simpa using hlim) (by simp) q1 (by simp) qo ⟨rfl, rfl⟩ hvrow q2).mono fun e w' ⟨b', c', cur', he, hrow, hsize, hn, hc, hcells, hwhere, e1, e2, e3, hfr⟩ => ?_
 rcases hwhere with ⟨h, _⟩ | ⟨rfl, hlt⟩
 ·cases h
 ·subst he
  obtain ⟨ρ', g1, g2, g3⟩ := Cr (f := f) (bytes := bytes) hz0 s.hr (cs := vcur.toList.take (vs.length * z)) hvs q3 hrow hsize (by simpa using hn) hc (fun j v hj => hcells j v (by simpa using hj)) hlt (fun b hb => hfr b hb (by omega))
  refine ⟨_, ρ', rfl, ⟨e1, e2, e3, Nat.le_of_lt hlt, fun k hk => hfr k (Nat.lt_of_lt_of_le hk s.hr.le) (by have := s.hr.le; omega)⟩, g1, g2, ?_⟩
  simpa using g3
end
end Gi
