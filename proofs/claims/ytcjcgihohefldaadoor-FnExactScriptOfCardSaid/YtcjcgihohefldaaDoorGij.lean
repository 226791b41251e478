/- The operations that turn the variables, continued: a store, a slice's literal, an append. -/
import Derived.Test.YtcjcgihohefldaaDoorGii
namespace Gi
open Go Go.RowKit
set_option linter.unusedVariables false
set_option linter.unusedSimpArgs false
variable {KI : KF}

section
variable {Γ : Ctx} {P : Program} {M0 : Nat → Prop} {base : Nat} {σ : St} {a : Act} {w : World} {ρ : List (Option Nat)}

theorem storeAt_run {t : TypeId} {n b o : Nat} {u : Value} {cur : Array Value} (hn : szT P t = some n) (hrow : Row w b cur) (hsz : u.cells.size = n) (hle : o + n ≤ cur.size) (h1 : ∀ v ∈ u.cells.toList, v.oneCell' = true) :
    (Instr.storeAt t (.pointer (some ⟨b, o, none⟩)) u).run P w = .ok () (w.setCells b o u.cells.toList) := by
  have hst := run_storeCells_cells (P := P) b o u.cells.toList 0 w (fun j hj => by
      rw [hrow.cell]
      have : o + j < cur.size := by simp at hj; omega
      simp [this]) (fun j _ => hrow.free _) h1
  simp only [Nat.add_zero] at hst
  simp [Instr.storeAt, Instr.sureAddr, storeVar, cellsize t hn, hsz, hst]

theorem LRs.ones {M : Nat → Prop} {h : List AObj} {ls : List L} {us : List Value} (r : LRs M w ρ h ls us) : ∀ v ∈ us, v.oneCell' = true := fun v hv => by
  obtain ⟨i, hi, rfl⟩ := List.getElem_of_mem hv
  exact (r.2 i (ls[i]'(by rw [r.1]; exact hi)) us[i] (by simp [r.1, hi]) (by simp [hi])).one

theorem freezeLs_keep {ob z : Nat} {es : List (List PV)} : ∀ (ls : List L) (h : List AObj), ls.all (L.notArr ob) = true → h[ob]? = some (.arr z es) → (freezeLs h ls)[ob]? = some (.arr z es) := by
  intro ls
  induction ls with
  | nil => intro h _ hh; exact hh
  | cons l ls ih =>
    intro h hall hh
    simp only [List.all_cons, Bool.and_eq_true] at hall
    refine ih (freezeL h l) hall.2 ?_
    cases l with
    | arr o' =>
      simp only [freezeL]
      split
      · rw [List.getElem?_set_ne (by simpa [L.notArr] using hall.1)]
        exact hh
      · rw [List.getElem?_set_ne (by simpa [L.notArr] using hall.1)]
        exact hh
      · exact hh
    | _ => exact hh

theorem flat_pos {i i' j j' z : Nat} (hj : j < z) (hj' : j' < z) (h : i * z + j = i' * z + j') : i = i' ∧ j = j' := by
  have h1 : (i * z + j) / z = i := by rw [Nat.mul_comm, Nat.mul_add_div (by omega), Nat.div_eq_of_lt hj, Nat.add_zero]
  have h2 : (i' * z + j') / z = i' := by rw [Nat.mul_comm, Nat.mul_add_div (by omega), Nat.div_eq_of_lt hj', Nat.add_zero]
  have : i = i' := by rw [← h1, h, h2]
  subst this
  exact ⟨rfl, by omega⟩

theorem store_sound (s : SR Γ M0 base σ a w ρ) {o : Oper} {d : Md} {ao : AOp} {v : V} {h' : List AObj} {call : Nat → List V → Option V} {t : TypeId} {x y : Operand} (hop : o.op = .store t x y)
    (hc : cOp P kf d o.op = some ao) (he : eop call σ ao = some (v, h')) : Turns P M0 base σ w ρ v h' (execOp a.eval o) := by
  rw [hop] at hc; simp only [cOp] at hc
  split at hc
  · rename_i n x' y' hn hx hy
    cases hc
    simp only [eop] at he
    split at he
    · rename_i h'' hst
      cases he
      have rx := opd_sound s hx
      have ry := opd_sound s hy
      simp only [storeV] at hst
      split at hst
      · rename_i hlen
        split at hst
        · rename_i ob i j hev
          rw [hev] at rx
          obtain ⟨r0, obj, hr0, hob, hpt⟩ := rx
          split at hst
          · rename_i cs hcs
            rw [hcs] at hob; cases hob
            split at hst
            · rename_i hcond
              obtain ⟨rfl, hle, hpl⟩ := hcond
              cases hst
              have hls := ry.cells (V.not_tup hpl)
              obtain ⟨b, cur, e, hbase, hrow, hcells⟩ := s.hr.objs ob _ r0 hcs hr0
              subst e
              obtain ⟨b', e', hu⟩ := hpt
              cases e'
              simp only [AObj.z, Nat.zero_mul, Nat.zero_add] at hu
              have hsz : (a.eval y).cells.size = n := by rw [← hlen, hls.1]; simp
              have hcl : cs.length = cur.size := by rw [hcells.1]; simp
              have hrun := storeAt_run (P := P) hn hrow hsz (by omega) hls.ones (o := j)
              obtain ⟨cur', hrow', hsz', hget⟩ := setCells_row b (a.eval y).cells.toList j w cur hrow (by simp [hsz]; omega)
              obtain ⟨g1, g2⟩ := s.hr.upd (w' := w.setCells b j (a.eval y).cells.toList) (ob' := .box (putAt cs j (y'.ev σ).cells)) hcs hr0 rfl trivial (setCells_size b _ j w).symm
                (fun k hk => setCells_other b _ j w k (fun e => hk (by rw [e])))
                (fun k c e hr => by cases e; rw [hr.inj hrow]; exact ⟨cur', hrow', hsz'⟩)
                (fun c => ⟨b, cur', rfl, hbase, hrow', by rw [putAt_len _ _ _ (by omega)]; simp only [Array.length_toList, hsz']; exact hcl, fun k l u hl hu' => by
                  rw [putAt_get _ _ _ (by omega)] at hl
                  rw [Array.getElem?_toList, hget] at hu'
                  simp only [Array.length_toList, hsz] at hu'
                  rw [hlen] at hl
                  split at hl
                  · rename_i hin
                    rw [if_pos hin] at hu'
                    exact (hls.2 _ l u hl hu').ch c
                  · rename_i hin
                    rw [if_neg hin] at hu'
                    exact (hcells.2 _ l u hl (by simpa using hu')).ch c⟩)
              refine ⟨.skip, undef, _, ρ, ?_, .inr ⟨rfl, rfl⟩, setCells_below b base hbase _ j w w (Below.refl _ _), g1, g2, VR.undef⟩
              simp only [execOp, hop, hu]
              simp [hrun]
            · cases hst
          · rename_i z es hcs
            rw [hcs] at hob; cases hob
            split at hst
            · rename_i e ps hei hps
              split at hst
              · rename_i hcond
                obtain ⟨hle, hna⟩ := hcond
                cases hst
                have hnt : ∀ xs, y'.ev σ ≠ .tup xs := by
                  intro xs e'
                  rw [e'] at hps
                  simp [V.cells, viewL, L.view] at hps
                have hls := ry.cells hnt
                obtain ⟨k1, c1⟩ := s.hr.freezeLs (y'.ev σ).cells
                have hcs1 : (freezeLs σ.h (y'.ev σ).cells)[ob]? = some (.arr z es) := freezeLs_keep _ _ hna hcs
                have hls1 : LRs (Mu M0 ρ (freezeLs σ.h (y'.ev σ).cells)) w ρ (freezeLs σ.h (y'.ev σ).cells) (y'.ev σ).cells (a.eval y).cells.toList := hls.ch c1
                obtain ⟨hpl, hpr⟩ := froz_reads k1 hls1 hps (fun l _ => freezeLs_view _ l) (fun l hl => freezeLs_mut _ l (.inr hl))
                obtain ⟨hz, hes, kx⟩ := k1.objs ob _ r0 hcs1 hr0
                obtain ⟨b', e', hu⟩ := hpt
                subst e'
                simp only [AObj.z] at hu
                obtain ⟨hbase, cur, cap, hrow, h1, h2, h3, h4⟩ := kx
                have hsz : (a.eval y).cells.size = n := by rw [← hlen, hls.1]; simp
                have hpn : ps.length = n := by rw [hpl]; simpa using hsz
                have hez : e.length = z := hes e (List.mem_of_getElem? hei)
                have hilt : i < es.length := (List.getElem?_eq_some_iff.1 hei).1
                have hfit : i * z + j + n ≤ cur.size := by
                  rw [h1]
                  calc i * z + j + n ≤ i * z + z := by omega
                    _ = (i + 1) * z := by rw [Nat.add_mul, Nat.one_mul]
                    _ ≤ cap * z := Nat.mul_le_mul_right _ (by omega)
                have hrun := storeAt_run (P := P) hn hrow hsz hfit hls.ones
                obtain ⟨cur', hrow', hsz', hget⟩ := setCells_row b' (a.eval y).cells.toList (i * z + j) w cur hrow (by simp only [Array.length_toList, hsz]; exact hfit)
                obtain ⟨g1, g2⟩ := k1.upd (w' := w.setCells b' (i * z + j) (a.eval y).cells.toList) (ob' := .arr z (es.set i (putAt e j ps))) hcs1 hr0 rfl ⟨rfl, by simp⟩ (setCells_size b' _ _ w).symm
                  (fun k hk => setCells_other b' _ _ w k (fun e => hk (by rw [e])))
                  (fun k c e hr => by cases e; rw [hr.inj hrow]; exact ⟨cur', hrow', hsz'⟩)
                  (fun c => by
                    refine ⟨hz, fun e1 he1 => ?_, hbase, cur', cap, hrow', by rw [hsz']; exact h1, by simpa using h2, h3, fun i1 e1 j1 p1 hi1 hj1 => ?_⟩
                    · rcases List.mem_or_eq_of_mem_set he1 with hm | rfl
                      · exact hes e1 hm
                      · rw [putAt_len _ _ _ (by omega)]; exact hez
                    · rw [hget]
                      simp only [Array.length_toList, hsz]
                      by_cases hii : i = i1
                      · subst hii
                        rw [List.getElem?_set_self hilt] at hi1
                        cases hi1
                        rw [putAt_get _ _ _ (by omega), hpn] at hj1
                        split at hj1
                        · rename_i hin
                          obtain ⟨u, hu1, hu2⟩ := hpr _ _ hj1
                          exact ⟨u, by rw [if_pos (by omega), show i * z + j1 - (i * z + j) = j1 - j by omega]; exact hu1, Reads.go c.go p1 u hu2⟩
                        · rename_i hin
                          obtain ⟨u, hu1, hu2⟩ := h4 i e j1 p1 hei hj1
                          exact ⟨u, by rw [if_neg (by omega)]; exact hu1, Reads.go c.go p1 u hu2⟩
                      · rw [List.getElem?_set_ne hii] at hi1
                        obtain ⟨u, hu1, hu2⟩ := h4 i1 e1 j1 p1 hi1 hj1
                        have hj1z : j1 < z := by rw [← hes e1 (List.mem_of_getElem? hi1)]; exact (List.getElem?_eq_some_iff.1 hj1).1
                        refine ⟨u, ?_, Reads.go c.go p1 u hu2⟩
                        rw [if_neg]
                        · exact hu1
                        · intro hin
                          have : ∃ q, q < z ∧ i1 * z + j1 = i * z + q := ⟨i1 * z + j1 - i * z, by omega, by omega⟩
                          obtain ⟨q, hq, e2⟩ := this
                          exact hii (flat_pos hj1z hq e2).1.symm)
                refine ⟨.skip, undef, _, ρ, ?_, .inr ⟨rfl, rfl⟩, setCells_below b' base hbase _ _ w w (Below.refl _ _), g1, c1.trans g2, VR.undef⟩
                simp only [execOp, hop, hu]
                simp [hrun]
              · cases hst
            · cases hst
          · cases hst
        · cases hst
      · cases hst
    · cases he
  · cases hc

end
end Gi
