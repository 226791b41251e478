/- Replicas and servers: what is compared. -/
import Derived.Test.YtldmjoillnhebaaGreatGxjc
import Derived.Test.YtldmjoillnhebaaGreatGxm
namespace Gi
open Go Go.RowKit
set_option linter.unusedSimpArgs false
set_option linter.unusedVariables false
set_option maxHeartbeats 8000000
set_option maxRecDepth 4000
attribute [local simp] start execOps stepO wants fop eop Opd.ev put V.cells plain loadV cut isInt isStr isBool bin binInt binStr_neq binStr_eql un asList L.view viewArgs V.view viewL finish resultsOf resultOf comps comp giveLs giveL arrs_e arrs_pv arrs_nil arrs_arr arrs_dat view_dat plain_dat mut_dat freeze_dat give_dat ren_dat notArr_dat setL_own setL_dat flat_dat thaw_dat thawT fillL cellsP rowsP isVar bound loadV V.flat L.flat setV setL storeV putAt thaw thawL freezeVs freezeLs freezeL V.mut L.mut elemPtr viewRows wp_seq wp_block wp_region wp_cond wp_skip wp_exit wp_ret wp_end wp_sqN wp_sqR wp_sqE wp_bkN wp_bkR wp_bkE Fin_ret Fin_normal L.notArr keepM_t keepM_f keepM_n setT_c setT_n

def srvStore (srv : List XServer) (nm : List UInt8) : XStore := match (if 0 ≤ siteNo nm then srv[(siteNo nm).toNat]? else none) with
  | some s => s.store
  | none => ⟨[], [], 0⟩
theorem srv_cases (srv : List XServer) (nm : List UInt8) : ((siteNo nm < 0 ∨ (srv.length : Int) ≤ siteNo nm) ∧ srvStore srv nm = ⟨[], [], 0⟩) ∨ ∃ i, ∃ hi : i < srv.length, siteNo nm = (i : Int) ∧ srvStore srv nm = srv[i].store := by
  by_cases h1 : siteNo nm < 0
  · exact .inl ⟨.inl h1, by unfold srvStore; rw [if_neg (by omega)]⟩
  · by_cases h2 : (srv.length : Int) ≤ siteNo nm
    · refine .inl ⟨.inr h2, ?_⟩
      unfold srvStore
      rw [if_pos (by omega), List.getElem?_eq_none (by omega)]
    · refine .inr ⟨(siteNo nm).toNat, by omega, by omega, ?_⟩
      unfold srvStore
      rw [if_pos (by omega), List.getElem?_eq_getElem (show (siteNo nm).toNat < srv.length by omega)]
section
variable {B : Nat} {c0 : Int} {c1 : Bool} {c2 : Int} {c3 c4 : List (List PV)} {c5 : Int} {c6 c7 c8 : List (List PV)} {srv : List XServer}
theorem srvStore_ok (h : srv.length ≤ B ∧ ∀ x ∈ srv, x.Ok B) (nm : List UInt8) : (srvStore srv nm).Ok B := by
  rcases srv_cases srv nm with ⟨_, e⟩ | ⟨i, hi, _, e⟩ <;> rw [e]
  · exact ⟨by simp, ⟨by simp, by simp⟩, by unfold inI; simp⟩
  · exact (h.2 _ (List.getElem_mem hi)).1
theorem impl_ServerStoreX_ok (hB : B ≤ 1048576) (h : srv.length ≤ B ∧ ∀ x ∈ srv, x.Ok B) (nm : List UInt8) : callL Ph extF 160 [.agg [.pv (.int .i64 c0), .pv (.bool c1), .pv (.int .i64 c2), .pv (.lst c3), .pv (.lst c4), .pv (.int .i64 c5), .pv (.lst c6), .pv (.lst c7), .pv (.lst c8), .pv (.lst (srv.map XServer.e))], vstr nm] = some (stRes (srvStore srv nm)) := by
  have e1 := impl_SiteNumber_ok nm
  unfold stRes
  refine callL_wp (fn := f_impl_ServerStore) rfl ?_
  rcases srv_cases srv nm with ⟨hc, e⟩ | ⟨i, hi, hn, e⟩ <;> rw [e]
  · generalize siteNo nm = n at e1 hc
    by_cases q : n < 0
    · simp [f_impl_ServerStore, e1, q, ownZ]
    · have q2 : (srv.length : Int) ≤ n := by omega
      simp [f_impl_ServerStore, e1, q, q2, ownZ]
  · rw [hn] at e1
    have e3 := impl_copyStoreX_ok hB (h.2 _ (List.getElem_mem hi)).1
    unfold stRes at e3
    have hx := XServer_e srv[i]
    have q : ¬ (i : Int) < 0 := by omega
    have q2 : ¬ (srv.length : Int) ≤ (i : Int) := by omega
    rcases own_dat 4 (srv[i].store.items.map XItem.e) with ⟨_, o1, _⟩ | ⟨_, o1, _⟩ <;> rw [o1] at e3 ⊢ <;> simp [f_impl_ServerStore, e1, q, q2, hi, Nat.not_le.2 hi, hx, e3]
theorem spec_ServerStoreX_ok (hB : B ≤ 1048576) (h : srv.length ≤ B ∧ ∀ x ∈ srv, x.Ok B) (nm : List UInt8) : callL Ph extF 158 [.agg [.pv (.int .i64 c0), .pv (.bool c1), .pv (.int .i64 c2), .pv (.lst c3), .pv (.lst c4), .pv (.int .i64 c5), .pv (.lst c6), .pv (.lst c7), .pv (.lst c8), .pv (.lst (srv.map XServer.e))], vstr nm] = some (stRes (srvStore srv nm)) := by
  have e1 := spec_SiteNumber_ok nm
  have hw : IntKind.i64.wrap ((srv.length : Int) - 1) = (srv.length : Int) - 1 := by rw [IntKind.wrap_i64]; omega
  have e2 := spec_l1In_ok (siteNo nm) 0 ((srv.length : Int) - 1)
  unfold stRes
  refine callL_wp (fn := f_spec_ServerStore) rfl ?_
  rcases srv_cases srv nm with ⟨hc, e⟩ | ⟨i, hi, hn, e⟩ <;> rw [e]
  · have hb : (decide (0 ≤ siteNo nm) && decide (siteNo nm ≤ (srv.length : Int) - 1)) = false := by
      by_cases a1 : (0 : Int) ≤ siteNo nm <;> by_cases a2 : siteNo nm ≤ (srv.length : Int) - 1 <;> simp [a1, a2]
      omega
    rw [hb] at e2
    generalize siteNo nm = n at e1 e2 hc
    simp [f_spec_ServerStore, e1, hw, e2, ownZ]
  · have hb : (decide (0 ≤ siteNo nm) && decide (siteNo nm ≤ (srv.length : Int) - 1)) = true := by simp; omega
    rw [hb, hn] at e2
    rw [hn] at e1
    have e3 := spec_copyStoreX_ok hB (h.2 _ (List.getElem_mem hi)).1
    unfold stRes at e3
    have hx := XServer_e srv[i]
    rcases own_dat 4 (srv[i].store.items.map XItem.e) with ⟨_, o1, _⟩ | ⟨_, o1, _⟩ <;> rw [o1] at e3 ⊢ <;> simp [f_spec_ServerStore, e1, hw, e2, hi, hx, e3]
end
section
variable {c0 : Int} {c1 : Bool} {c2 : Int} {c4 : List (List PV)} {c5 : Int} {c6 c7 c8 : List (List PV)} {bs : List XBucket} {srv : List XServer}
end
end Gi
