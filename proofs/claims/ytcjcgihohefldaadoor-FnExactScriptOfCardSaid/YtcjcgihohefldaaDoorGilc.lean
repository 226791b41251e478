/- Maps from numbers to numbers: made, looked at, written. -/
import Derived.Test.YtcjcgihohefldaaDoorGilb
namespace Gi
open Go Go.RowKit
set_option linter.unusedVariables false
set_option linter.unusedSimpArgs false
variable {KI : KF}

section
variable {Γ : Ctx} {P : Program} {M0 : Nat → Prop} {base : Nat} {σ : St} {a : Act} {w : World} {ρ : List (Option Nat)}

theorem mkmap_sound (hP : KI.pr = P) (s : SR Γ M0 base σ a w ρ) {o : Oper} {d : Md} {ao : AOp} {v : V} {h' : List AObj} {call : Nat → List V → Option V} {t : TypeId} {r : Option Operand} (hop : o.op = .makeMap t r)
    (hc : cOp P kf d o.op = some ao) (he : eop call σ ao = some (v, h')) : Turns P M0 base σ w ρ v h' (execOp a.eval o) := by
  rw [hop] at hc; simp only [cOp] at hc
  split at hc
  · rename_i hr
    split at hc
    · rename_i ht
      cases hc; cases he
      subst hP
      have hsome : (isIntMap KI.pr t).isSome = true := by
        unfold mapT at ht
        exact List.find?_some (p := fun t => (isIntMap KI.pr t).isSome) ht
      obtain ⟨⟨k, e⟩, hke⟩ := Option.isSome_iff_exists.1 hsome
      obtain ⟨h1, h2⟩ := s.hr.push (w' := w.alloc (.map #[] 0)) (by simp) (fun b hb => alloc_old w _ b hb) (some w.heap.size) (.imap []) (fun b e => by cases e; exact Nat.le_refl _)
        (fun c => ⟨w.heap.size, rfl, s.hr.le, t, k, e, .map [], ht, hke, World.ownsMap_made w KI.pr k _, fun x _ => rfl⟩)
      refine ⟨.value (.map (some w.heap.size)), _, _, _, ?_, .inl rfl, (Below.refl _ _).alloc s.hr.le _, h1, h2, w.heap.size, [], ?_, ?_, rfl⟩
      · simp only [execOp, hop]
        simp [Instr.makeMap, run_newObj_alloc]
      · rw [← s.hr.len]; simp
      · simp
    · cases hc
  · cases hc

theorem mset_sound (hP : KI.pr = P) (s : SR Γ M0 base σ a w ρ) {o : Oper} {d : Md} {ao : AOp} {v : V} {h' : List AObj} {call : Nat → List V → Option V} {t : TypeId} {m x y : Operand} (hop : o.op = .mapUpdate t m x y)
    (hc : cOp P kf d o.op = some ao) (he : eop call σ ao = some (v, h')) : Turns P M0 base σ w ρ v h' (execOp a.eval o) := by
  rw [hop] at hc; simp only [cOp] at hc
  split at hc
  · rename_i m' x' y' hm hx hy
    split at hc
    · rename_i ht
      cases hc
      simp only [eop] at he
      split at he
      · rename_i o' n u em ex ey
        split at he
        · rename_i kvs hob
          split at he
          · rename_i hcond
            obtain ⟨hn, hu, hlen⟩ := hcond
            cases he
            subst hP
            have rm := opd_sound s hm
            rw [em] at rm
            obtain ⟨b, kvs', hr, ho, ev⟩ := rm
            rw [hob] at ho; cases ho
            have rx := opd_sound s hx
            rw [ex] at rx
            have exv : a.eval x = .int .i64 n := by simpa [VR, LR, Reads] using rx
            have ry := opd_sound s hy
            rw [ey] at ry
            have eyv : a.eval y = .int .i64 u := by simpa [VR, LR, Reads] using ry
            obtain ⟨b', e1, hbase, hM⟩ := s.hr.objs o' _ _ hob hr
            cases e1
            obtain ⟨t', k, e, D, q1, q2, q3, q4⟩ := hM
            rw [ht] at q1; cases q1
            obtain ⟨u1, u2, u3⟩ := isIntMap_spec q2
            obtain ⟨w', hrun, hown, es, clock, es', clock', hb0, hw'⟩ := q3.store (Maps.int_keyed u2) u1 (by unfold maxLen; omega) (Maps.keyOf_int_mk u2 (inR_wf hn)) (plainElem_int u3 (inR_wf hu))
            have hsz : w'.heap.size = w.heap.size := by rw [hw']; simp [ChangeMaps.setBlock]
            have hoth : ∀ c, c ≠ b → w'.heap[c]? = w.heap[c]? := by
              intro c hc
              rw [hw']
              simp only [ChangeMaps.setBlock]
              rw [Array.getElem?_setIfInBounds_ne (Ne.symm hc)]
            obtain ⟨g1, g2⟩ := s.hr.upd (w' := w') (ob' := .imap ((n, u) :: kvs)) hob hr rfl trivial hsz.symm
              (fun c hc => hoth c (fun e => hc (by rw [e])))
              (fun c cur e hrw => by
                cases e
                obtain ⟨T, hrw⟩ := hrw
                rw [hb0] at hrw
                cases hrw)
              (fun c => ⟨b, rfl, hbase, t, k, e, D.put (.int .i64 n) (.lit (.int .i64 u)), ht, q2, hown, fun z hz => by
                by_cases hzn : z = n
                · subst hzn
                  rw [Maps.atKey_put_same q3.isMap ((Maps.int_keyed u2).key (Maps.keyOf_int_mk u2 hz))]
                  simp [look]
                · rw [Maps.atKey_put_other (by intro e; cases e; exact hzn rfl), q4 z hz]
                  simp [look, hzn]⟩)
            refine ⟨.skip, undef, w', ρ, ?_, .inr ⟨rfl, rfl⟩, ⟨by rw [hw']; rfl, by rw [hw']; rfl, by rw [hw']; rfl, by rw [hsz]; exact Nat.le_refl _, fun c hc => hoth c (by omega)⟩, g1, g2, VR.undef⟩
            simp only [execOp, hop, ev, exv, eyv]
            simp [hrun]
          · cases he
        · cases he
      · cases he
    · cases hc
  · cases hc

/-- A variable that nobody reads. -/
theorem allocT_sound (s : SR Γ M0 base σ a w ρ) {o : Oper} {d : Md} {cs : List L} {t : TypeId} (hop : o.op = .alloc t)
    (hc : cOp P kf d o.op = some (.alloc cs)) : Turns P M0 base σ w ρ (.one (.tp cs.length)) (σ.h ++ [.tbox cs.length]) (execOp a.eval o) := by
  rw [hop] at hc; simp only [cOp] at hc
  split at hc
  · rename_i v0 hz
    split at hc
    · rename_i cs' hcs
      cases hc
      obtain ⟨i, hi, hz'⟩ : ∃ i, P.info? t = some i ∧ i.zero = some v0 := by
        unfold zeroT at hz
        cases hi : P.info? t with
        | none => simp [hi] at hz
        | some i => simp [hi] at hz; exact ⟨i, rfl, hz⟩
      have hl : cs.length = v0.cells.size := by
        have := (cvLs_sound (KI := KI) (M := Mu M0 ρ σ.h) (w := w) (ρ := ρ) (h := σ.h) hcs : LRs (Mu M0 ρ σ.h) w ρ σ.h cs v0.cells.toList).1
        simpa using this
      obtain ⟨h1, h2⟩ := s.hr.push (w' := w.alloc (.cells v0.cells t)) (by simp) (fun b hb => alloc_old w _ b hb) (some w.heap.size) (.tbox cs.length) (fun b e => by cases e; exact Nat.le_refl _)
        (fun c => ⟨w.heap.size, v0.cells, rfl, s.hr.le, Row.new w v0.cells t, hl.symm⟩)
      refine ⟨_, .pointer (some ⟨w.heap.size, 0, none⟩), _, _, ?_, .inl rfl, (Below.refl _ _).alloc s.hr.le _, h1, h2, σ.h.length, w.heap.size, ?_, ?_, rfl⟩
      · simp only [execOp, hop]
        simp [Instr.alloc, zeroValue, typeInfo, hi, hz', newVar, newRow, run_newObj_alloc]
      · rw [← s.hr.len]; simp
      · simp
    · cases hc
  · cases hc

theorem storeT_sound (s : SR Γ M0 base σ a w ρ) {o : Oper} {d : Md} {t : TypeId} {x y : Operand} {n : Nat} {x' y' : Opd} (hop : o.op = .store t x y)
    (hc : cOp P kf d o.op = some (.store n x' y')) (hev : x'.ev σ = .one (.tp n)) (hlen : (y'.ev σ).cells.length = n) (hpl : (y'.ev σ).cells.all plain = true) : Turns P M0 base σ w ρ (.tup []) σ.h (execOp a.eval o) := by
  rw [hop] at hc; simp only [cOp] at hc
  split at hc
  · rename_i n1 x1 y1 hn hx hy
    cases hc
    have rx := opd_sound s hx
    have ry := opd_sound s hy
    rw [hev] at rx
    obtain ⟨ob, b, hr0, hob, hu⟩ := rx
    have hls := ry.cells (V.not_tup hpl)
    obtain ⟨b', cur, e, hbase, hrow, hcur⟩ := s.hr.objs ob _ _ hob hr0
    cases e
    have hsz : (a.eval y).cells.size = n := by rw [← hlen, hls.1]; simp
    have hrun := storeAt_run (P := P) hn hrow hsz (by omega) hls.ones (o := 0)
    obtain ⟨cur', hrow', hsz', hget⟩ := setCells_row b (a.eval y).cells.toList 0 w cur hrow (by simp [hsz]; omega)
    have hlt : ob < σ.h.length := (List.getElem?_eq_some_iff.1 hob).1
    have hset : σ.h.set ob (.tbox n) = σ.h := by
      have := (List.getElem?_eq_some_iff.1 hob).2
      rw [← this]
      exact List.set_getElem_self hlt
    obtain ⟨g1, g2⟩ := s.hr.upd (w' := w.setCells b 0 (a.eval y).cells.toList) (ob' := .tbox n) hob hr0 rfl rfl (setCells_size b _ 0 w).symm
      (fun k hk => setCells_other b _ 0 w k (fun e => hk (by rw [e])))
      (fun k c e hr => by cases e; rw [hr.inj hrow]; exact ⟨cur', hrow', hsz'⟩)
      (fun c => ⟨b, cur', rfl, hbase, hrow', by rw [hsz']; exact hcur⟩)
    rw [hset] at g1 g2
    refine ⟨.skip, undef, _, ρ, ?_, .inr ⟨rfl, rfl⟩, setCells_below b base hbase _ 0 w w (Below.refl _ _), g1, g2, VR.undef⟩
    simp only [execOp, hop, hu]
    simp [hrun]
  · cases hc

/-- A new variable, and a place that is kept. -/
theorem allocW_sound (s : SR Γ M0 base σ a w ρ) {o : Oper} {d : Md} {cs : List L} {t : TypeId} (hop : o.op = .alloc t)
    (hc : cOp P kf d o.op = some (.alloc cs)) : Turns P M0 base σ w ρ (.one (.ptr σ.h.length 0 0)) (σ.h ++ [.box cs, .res]) (execOp a.eval o) := by
  obtain ⟨n, u, w', ρ', e1, e2, e3, e4, e5, e6⟩ := alloc_sound (call := fun _ _ => none) s hop hc (show eop _ σ (.alloc cs) = some (.one (.ptr σ.h.length 0 0), σ.h ++ [.box cs]) from rfl)
  obtain ⟨g1, g2⟩ := e4.push (w' := w') (Nat.le_refl _) (fun _ _ => rfl) none .res (fun b e => by cases e) (fun _ => rfl)
  rw [List.append_assoc] at g1 g2
  exact ⟨n, u, w', _, e1, e2, e3, g1, e5.trans g2, e6.ch g2⟩
/-- .. which a variable fills. -/
theorem allocAt_sound (s : SR Γ M0 base σ a w ρ) {o : Oper} {d : Md} {cs : List L} {t : TypeId} {i : Nat} (hi : σ.h[i]? = some .res) (hop : o.op = .alloc t)
    (hc : cOp P kf d o.op = some (.alloc cs)) : Turns P M0 base σ w ρ (.one (.ptr i 0 0)) (σ.h.set i (.box cs)) (execOp a.eval o) := by
  rw [hop] at hc; simp only [cOp] at hc
  split at hc
  · rename_i v0 hz
    split at hc
    · rename_i cs' hcs
      cases hc
      obtain ⟨ti, hti, hz'⟩ : ∃ i, P.info? t = some i ∧ i.zero = some v0 := by
        unfold zeroT at hz
        cases hi : P.info? t with
        | none => simp [hi] at hz
        | some i => simp [hi] at hz; exact ⟨i, rfl, hz⟩
      obtain ⟨h1, h2⟩ := s.hr.fill (w' := w.alloc (.cells v0.cells t)) hi (by simp) (fun b hb => alloc_old w _ b hb) (b0 := w.heap.size) (Nat.le_refl _) (cs := cs)
        (fun c => ⟨w.heap.size, v0.cells, rfl, s.hr.le, Row.new w v0.cells t, cvLs_sound hcs⟩)
      have hlt : i < σ.h.length := (List.getElem?_eq_some_iff.1 hi).1
      refine ⟨_, .pointer (some ⟨w.heap.size, 0, none⟩), _, _, ?_, .inl rfl, (Below.refl _ _).alloc s.hr.le _, h1, h2, some w.heap.size, .box cs, ?_, ?_, w.heap.size, rfl, by simp [AObj.z]⟩
      · simp only [execOp, hop]
        simp [Instr.alloc, zeroValue, typeInfo, hti, hz', newVar, newRow, run_newObj_alloc]
      · rw [List.getElem?_set_self (by rw [s.hr.len]; exact hlt)]
      · rw [List.getElem?_set_self hlt]
    · cases hc
  · cases hc

end
end Gi
