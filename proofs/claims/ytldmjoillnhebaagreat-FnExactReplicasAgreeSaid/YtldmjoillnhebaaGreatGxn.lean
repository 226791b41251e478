/- Replicas and servers: what is compared. -/
import Derived.Test.YtldmjoillnhebaaGreatGxjc
import Derived.Test.YtldmjoillnhebaaGreatGxm
namespace Gi
open Go Go.RowKit
set_option linter.unusedSimpArgs false
set_option linter.unusedVariables false
set_option maxHeartbeats 8000000
set_option maxRecDepth 4000
attribute [local simp] start execOps stepO wants fop eop Opd.ev put V.cells plain loadV cut isInt isStr isBool bin binInt binStr_neq binStr_eql un asList L.view viewArgs V.view viewL finish resultsOf resultOf comps comp giveLs giveL arrs_e arrs_pv arrs_nil arrs_arr arrs_dat view_dat plain_dat mut_dat freeze_dat give_dat ren_dat notArr_dat setL_own setL_dat flat_dat thaw_dat thawT fillL cellsP rowsP isVar bound loadV V.flat L.flat setV setL storeV putAt thaw thawL freezeVs freezeLs freezeL V.mut L.mut elemPtr viewRows wp_seq wp_block wp_region wp_cond wp_skip wp_exit wp_ret wp_end wp_sqN wp_sqR wp_sqE wp_bkN wp_bkR wp_bkE Fin_ret Fin_normal L.notArr keepM_t keepM_f keepM_n setT_c setT_n

section
variable {B : Nat} {c0 : Int} {c1 : Bool} {c2 : Int} {c3 c4 : List (List PV)} {c5 : Int} {c6 c7 c8 : List (List PV)} {srv : List XServer}
end
/-! ### Replicas agree -/
def notesS : XStore := ⟨[110, 111, 116, 101, 115], [], 0⟩
theorem notesS_ok {B : Nat} (h : 5 ≤ B) : notesS.Ok B := ⟨by simpa [notesS] using h, ⟨by simp [notesS], by simp [notesS]⟩, by unfold inI; simp [notesS]⟩
def raBad (srv : List XServer) (b : XBucket) : Bool := cond (decide (siteNo b.site < 0)) false (match srv[(siteNo b.site).toNat]? with
  | some s => !(decide (0 ≤ b.replica.seen) && decide (b.replica.seen ≤ (s.changes.length : Int))) || !(eqSX (applyX notesS (s.changes.take b.replica.seen.toNat)) b.replica.base)
  | none => true)
theorem ra_cases (srv : List XServer) (b : XBucket) : (siteNo b.site < 0 ∧ raBad srv b = false) ∨ (∃ i : Nat, siteNo b.site = (i : Int) ∧ srv.length ≤ i ∧ raBad srv b = true) ∨
    ∃ i, ∃ hi : i < srv.length, siteNo b.site = (i : Int) ∧ (((decide (0 ≤ b.replica.seen) && decide (b.replica.seen ≤ (srv[i].changes.length : Int))) = false ∧ raBad srv b = true) ∨
      ∃ m : Nat, b.replica.seen = (m : Int) ∧ m ≤ srv[i].changes.length ∧ raBad srv b = !(eqSX (applyX notesS (srv[i].changes.take m)) b.replica.base)) := by
  unfold raBad
  by_cases h1 : siteNo b.site < 0
  · exact .inl ⟨h1, by simp [h1]⟩
  · obtain ⟨i, hi⟩ := Int.eq_ofNat_of_zero_le (show 0 ≤ siteNo b.site by omega)
    have hd : decide (siteNo b.site < 0) = false := by simpa using h1
    rw [hd, hi]
    simp only [cond_false, Int.toNat_natCast]
    by_cases h2 : i < srv.length
    · refine .inr (.inr ⟨i, h2, rfl, ?_⟩)
      rw [List.getElem?_eq_getElem h2]
      simp only
      cases h3 : (decide (0 ≤ b.replica.seen) && decide (b.replica.seen ≤ (srv[i].changes.length : Int))) with
      | false => exact .inl ⟨rfl, by simp⟩
      | true =>
        simp only [Bool.and_eq_true, decide_eq_true_eq] at h3
        obtain ⟨m, hm⟩ := Int.eq_ofNat_of_zero_le h3.1
        refine .inr ⟨m, hm, by omega, ?_⟩
        rw [hm]
        simp
    · refine .inr (.inl ⟨i, rfl, by omega, ?_⟩)
      rw [List.getElem?_eq_none (by omega)]
section
variable {c0 : Int} {c1 : Bool} {c2 : Int} {c4 : List (List PV)} {c5 : Int} {c6 c7 c8 : List (List PV)} {bs : List XBucket} {srv : List XServer}
theorem impl_ReplicasAgree_ok (hb : bs.length ≤ 1048576 ∧ ∀ x ∈ bs, x.Ok 1048576) (hs : srv.length ≤ 1048576 ∧ ∀ x ∈ srv, x.Ok 1048576) : callL Ph extF 301 [.agg [.pv (.int .i64 c0), .pv (.bool c1), .pv (.int .i64 c2), .pv (.lst (bs.map XBucket.e)), .pv (.lst c4), .pv (.int .i64 c5), .pv (.lst c6), .pv (.lst c7), .pv (.lst c8), .pv (.lst (srv.map XServer.e))]] = some (vbool (!(bs.any (raBad srv)))) := by
  refine callL_wp (fn := f_impl_ReplicasAgree) rfl ?_
  generalize hA : bs.any (raBad srv) = A
  simp [f_impl_ReplicasAgree]
  refine wp_any tidyF Cl.fin bs (raBad srv) [false, true, false, false, false, false, false, false, true, true, true, false, false, false, false, false, false, false, false, false, false, false, false, false, false, false, false, false, false, false, false, false, false, false, false, false, false, false, false, false, false, false, false, false, false, false, false, false, false, false, false, false, false, false, false, false] (fun k => [(10, vint .i64 k)]) rfl ?_ ?_ ?_ ?_
  · exact Kn.of [0] (by decide) (by simp [keepM_t, keepM_f, keepM_n, setT_c, setT_n, relVs, relV, relLs, relL, relTs, relObs, relOb, L.ren, ren_dat]) (by simp [keepM_t, keepM_f, keepM_n, setT_c, setT_n, relVs, relV, relLs, relL, relTs, relObs, relOb, L.ren, ren_dat])
  · intro k hk hp
    have hw := wrap_small (k := k) (by omega)
    have e1 := impl_SiteNumber_ok bs[k].site
    have hx := XBucket_e bs[k]
    rcases ra_cases srv bs[k] with ⟨h1, _⟩ | ⟨i, _, _, h1⟩ | ⟨i, hi, hn, ⟨_, h1⟩ | ⟨m, hm, hml, h1⟩⟩
    · generalize siteNo bs[k].site = n at e1 h1
      simp [b_impl_ReplicasAgree_0, hk, hx, e1, h1, hw]
      exact Kn.of [0] (by decide) (by simp [keepM_t, keepM_f, keepM_n, setT_c, setT_n, relVs, relV, relLs, relL, relTs, relObs, relOb, L.ren, ren_dat]) (by simp [keepM_t, keepM_f, keepM_n, setT_c, setT_n, relVs, relV, relLs, relL, relTs, relObs, relOb, L.ren, ren_dat])
    · rw [h1] at hp; cases hp
    · rw [h1] at hp; cases hp
    · rw [h1] at hp
      have hsi := hs.2 _ (List.getElem_mem hi)
      have hbk := (hb.2 _ (List.getElem_mem hk)).2.2.2.2.2.1
      have hT := applyX_ok (B := 1048576) (by omega) (s := notesS) (ws := srv[i].changes.take m) (notesS_ok (by omega)) (fun w hw => hsi.2.2.2 w (List.mem_of_mem_take hw))
      have e2 := impl_InRange_ok bs[k].replica.seen 0 srv[i].changes.length
      have e3 := impl_applied_ok (by omega) (by omega) (s := notesS) (ws := srv[i].changes.take m) (notesS_ok (by omega)) (by have := hsi.2.2.1; simp; omega) (fun w hw => hsi.2.2.2 w (List.mem_of_mem_take hw))
      have e4 := impl_EqualStores_ok (by unfold maxLen; omega) hT hbk.1
      have hq : eqSX (applyX notesS (srv[i].changes.take m)) bs[k].replica.base = true := by simpa using hp
      rw [hq] at e4
      rw [hn] at e1
      rw [hm] at hx e2
      have hb2 : (decide ((0 : Int) ≤ (m : Int)) && decide ((m : Int) ≤ (srv[i].changes.length : Int))) = true := by simp; omega
      rw [hb2] at e2
      rw [List.map_take] at e3
      unfold datRes at e3
      generalize applyX notesS (srv[i].changes.take m) = T at e3 e4
      simp only [notesS, List.map_nil] at e3
      have hxs := XServer_e srv[i]
      have q0 : ¬ (i : Int) < 0 := by omega
      have q1 : ¬ (srv.length : Int) ≤ (i : Int) := by omega
      have q2 := Nat.not_le.2 hi
      have q7 := map_len XWrite.len srv[i].changes
      rcases own_dat 4 (T.items.map XItem.e) with ⟨r1, _, o1⟩ | ⟨_, _, o1⟩ <;> rw [o1] at e3 <;> (try rw [r1] at e4) <;> simp [b_impl_ReplicasAgree_0, hk, hx, e1, q0, hi, hxs, q1, q2, ↓q7, hml, e2, e3, e4, hw]
      · exact Kn.of [0] (by decide) (by simp [keepM_t, keepM_f, keepM_n, setT_c, setT_n, relVs, relV, relLs, relL, relTs, relObs, relOb, L.ren, ren_dat]) (by simp [keepM_t, keepM_f, keepM_n, setT_c, setT_n, relVs, relV, relLs, relL, relTs, relObs, relOb, L.ren, ren_dat])
      · exact Kn.of [0] (by decide) (by simp [keepM_t, keepM_f, keepM_n, setT_c, setT_n, relVs, relV, relLs, relL, relTs, relObs, relOb, L.ren, ren_dat]) (by simp [keepM_t, keepM_f, keepM_n, setT_c, setT_n, relVs, relV, relLs, relL, relTs, relObs, relOb, L.ren, ren_dat])
  · intro k hk hp hany
    have hA2 : A = true := by rw [← hA]; exact hany
    rw [hA2]
    have e1 := impl_SiteNumber_ok bs[k].site
    have hx := XBucket_e bs[k]
    rcases ra_cases srv bs[k] with ⟨_, h1⟩ | ⟨i, hn, hge, h1⟩ | ⟨i, hi, hn, ⟨hr, h1⟩ | ⟨m, hm, hml, h1⟩⟩
    · rw [h1] at hp; cases hp
    · rw [hn] at e1
      have q0 : ¬ (i : Int) < 0 := by omega
      have q1 : (srv.length : Int) ≤ (i : Int) := by omega
      simp [b_impl_ReplicasAgree_0, hk, hx, e1, q0, q1, hge]
    · rw [hn] at e1
      have e2 := impl_InRange_ok bs[k].replica.seen 0 srv[i].changes.length
      rw [hr] at e2
      have hxs := XServer_e srv[i]
      have q0 : ¬ (i : Int) < 0 := by omega
      have q1 : ¬ (srv.length : Int) ≤ (i : Int) := by omega
      have q2 := Nat.not_le.2 hi
      simp [b_impl_ReplicasAgree_0, hk, hx, e1, q0, hi, hxs, q1, q2, e2]
    · rw [h1] at hp
      have hsi := hs.2 _ (List.getElem_mem hi)
      have hbk := (hb.2 _ (List.getElem_mem hk)).2.2.2.2.2.1
      have hT := applyX_ok (B := 1048576) (by omega) (s := notesS) (ws := srv[i].changes.take m) (notesS_ok (by omega)) (fun w hw => hsi.2.2.2 w (List.mem_of_mem_take hw))
      have e2 := impl_InRange_ok bs[k].replica.seen 0 srv[i].changes.length
      have e3 := impl_applied_ok (by omega) (by omega) (s := notesS) (ws := srv[i].changes.take m) (notesS_ok (by omega)) (by have := hsi.2.2.1; simp; omega) (fun w hw => hsi.2.2.2 w (List.mem_of_mem_take hw))
      have e4 := impl_EqualStores_ok (by unfold maxLen; omega) hT hbk.1
      have hq : eqSX (applyX notesS (srv[i].changes.take m)) bs[k].replica.base = false := by simpa using hp
      rw [hq] at e4
      rw [hn] at e1
      rw [hm] at hx e2
      have hb2 : (decide ((0 : Int) ≤ (m : Int)) && decide ((m : Int) ≤ (srv[i].changes.length : Int))) = true := by simp; omega
      rw [hb2] at e2
      rw [List.map_take] at e3
      unfold datRes at e3
      generalize applyX notesS (srv[i].changes.take m) = T at e3 e4
      simp only [notesS, List.map_nil] at e3
      have hxs := XServer_e srv[i]
      have q0 : ¬ (i : Int) < 0 := by omega
      have q1 : ¬ (srv.length : Int) ≤ (i : Int) := by omega
      have q2 := Nat.not_le.2 hi
      have q7 := map_len XWrite.len srv[i].changes
      rcases own_dat 4 (T.items.map XItem.e) with ⟨r1, _, o1⟩ | ⟨_, _, o1⟩ <;> rw [o1] at e3 <;> (try rw [r1] at e4) <;> simp [b_impl_ReplicasAgree_0, hk, hx, e1, q0, hi, hxs, q1, q2, ↓q7, hml, e2, e3, e4]
  · intro hany
    have hA2 : A = false := by rw [← hA]; exact hany
    rw [hA2]
    simp [b_impl_ReplicasAgree_0]
end
end Gi
