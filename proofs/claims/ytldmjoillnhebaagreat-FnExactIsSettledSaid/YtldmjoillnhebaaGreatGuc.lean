/- The last number of a device; the number of a site; is a number queued? -/
import Derived.Test.YtldmjoillnhebaaGreatGtx
namespace Gi
open Go Go.RowKit
set_option linter.unusedSimpArgs false
set_option linter.unusedVariables false
set_option maxHeartbeats 4000000
set_option maxRecDepth 4000
attribute [local simp] start execL exec execOps stepO wants fop eop Opd.ev put V.cells plain loadV cut isInt isStr isBool bin binInt binStr_neq binStr_eql un asList L.view viewArgs V.view viewL done finish resultsOf resultOf comps comp giveLs giveL arrsOf V.flat L.flat setV setL storeV putAt thaw thawL freezeVs freezeLs freezeL V.mut L.mut elemPtr viewRows

/-! ### SiteNumber -/
def siteNo (s : List UInt8) : Int := cond (s == [98, 97, 110, 107]) 0 (cond (s == [110, 101, 119, 115]) 1 (cond (s == [115, 104, 111, 112]) 2 (-1)))
theorem beq_swap (a b : List UInt8) : (a == b) = (b == a) := by
  by_cases h : a = b
  · subst h; rfl
  · have h' : ¬ b = a := fun e => h e.symm
    rw [beq_eq_false_iff_ne.2 h, beq_eq_false_iff_ne.2 h']
theorem impl_SiteNumber_ok (s : List UInt8) : callL Ph extF 154 [vstr s] = some (vint .i64 (siteNo s)) := by
  have e1 : callL Ph extF 182 [vlst [[.str [98, 97, 110, 107]], [.str [110, 101, 119, 115]], [.str [115, 104, 111, 112]]], vstr s] = some (vint .i64 (siteNo s)) := by
    refine callL_fn (fn := f_slices_Index_string_string) rfl ?_
    generalize hF : exec (callL Ph extF) loopL b_slices_Index_string_string_0 = F
    unfold siteNo
    simp [f_slices_Index_string_string, hF]
    cases h1 : (s == [98, 97, 110, 107])
    · cases h2 : (s == [110, 101, 119, 115])
      · cases h3 : (s == [115, 104, 111, 112])
        · rw [loopL_go0 hF]; simp [b_slices_Index_string_string_0, h1, IntKind.wrap_i64]
          rw [loopL_go0 hF]; simp [b_slices_Index_string_string_0, h2, IntKind.wrap_i64]
          rw [loopL_go0 hF]; simp [b_slices_Index_string_string_0, h3, IntKind.wrap_i64]
          rw [loopL_go0 hF]; simp [b_slices_Index_string_string_0]
        · rw [loopL_go0 hF]; simp [b_slices_Index_string_string_0, h1, IntKind.wrap_i64]
          rw [loopL_go0 hF]; simp [b_slices_Index_string_string_0, h2, IntKind.wrap_i64]
          rw [loopL_go0 hF]; simp [b_slices_Index_string_string_0, h3]
      · rw [loopL_go0 hF]; simp [b_slices_Index_string_string_0, h1, IntKind.wrap_i64]
        rw [loopL_go0 hF]; simp [b_slices_Index_string_string_0, h2]
    · rw [loopL_go0 hF]; simp [b_slices_Index_string_string_0, h1]
  refine callL_fn (fn := f_impl_SiteNumber) rfl ?_
  simp [f_impl_SiteNumber, e1]
theorem spec_SiteNumber_ok (s : List UInt8) : callL Ph extF 153 [vstr s] = some (vint .i64 (siteNo s)) := by
  have e1 : callL Ph extF 181 [] = some (.one (.own 1 [[.str [98, 97, 110, 107]], [.str [110, 101, 119, 115]], [.str [115, 104, 111, 112]]])) := by
    refine callL_fn (fn := f_spec_l29Names) rfl ?_
    simp [f_spec_l29Names]
  refine callL_fn (fn := f_spec_SiteNumber) rfl ?_
  generalize hF : exec (callL Ph extF) loopL b_spec_SiteNumber_0 = F
  unfold siteNo
  rw [beq_swap s [98, 97, 110, 107], beq_swap s [110, 101, 119, 115], beq_swap s [115, 104, 111, 112]]
  simp [f_spec_SiteNumber, hF, e1]
  cases h1 : (([98, 97, 110, 107] : List UInt8) == s)
  · cases h2 : (([110, 101, 119, 115] : List UInt8) == s)
    · cases h3 : (([115, 104, 111, 112] : List UInt8) == s)
      · rw [loopL_go0 hF]; simp [b_spec_SiteNumber_0, h1, IntKind.wrap_i64]
        rw [loopL_go0 hF]; simp [b_spec_SiteNumber_0, h2, IntKind.wrap_i64]
        rw [loopL_go0 hF]; simp [b_spec_SiteNumber_0, h3, IntKind.wrap_i64]
        rw [loopL_go0 hF]; simp [b_spec_SiteNumber_0]
      · rw [loopL_go0 hF]; simp [b_spec_SiteNumber_0, h1, IntKind.wrap_i64]
        rw [loopL_go0 hF]; simp [b_spec_SiteNumber_0, h2, IntKind.wrap_i64]
        rw [loopL_go0 hF]; simp [b_spec_SiteNumber_0, h3]
    · rw [loopL_go0 hF]; simp [b_spec_SiteNumber_0, h1, IntKind.wrap_i64]
      rw [loopL_go0 hF]; simp [b_spec_SiteNumber_0, h2]
  · rw [loopL_go0 hF]; simp [b_spec_SiteNumber_0, h1]
end Gi
