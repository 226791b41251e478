/- The functions of this translation are those of the table: each by one closed fact of the kernel. Written by program. -/
import Derived.Test.YtekgcgbfkeadkaaDoorGtd
import Derived.Test.YtekgcgbfkeadkaaDoorShelf
import Derived.Test.YtekgcgbfkeadkaaDoorRows
import Derived.Lib.LaidTab
import Derived.Stop.LaidErr
import Derived.WalkSmall
namespace Go.Proofs.YtekgcgbfkeadkaaDoor
open Go Go.RowKit Gi
set_option linter.unusedVariables false
set_option linter.unusedSimpArgs false
def kp : List (Nat × Nat) := [(40, 37), (11, 8), (39, 36), (16, 13), (21, 18), (31, 28), (64, 61), (70, 67), (96, 90), (3, 0), (4, 1), (5, 2), (7, 4), (85, 82), (53, 50), (98, 91), (72, 69), (101, 94), (80, 77), (81, 78), (12, 9), (58, 55), (41, 38), (79, 76), (47, 44), (48, 45), (92, 86), (65, 62), (17, 14), (42, 39), (22, 19), (27, 24), (66, 63), (32, 29), (86, 83), (54, 51), (49, 46), (93, 87), (67, 64), (99, 92), (74, 71), (75, 72), (8, 5), (55, 52), (33, 30), (73, 70), (43, 40), (44, 41), (90, 84), (59, 56), (13, 10), (34, 31), (18, 15), (23, 20), (60, 57), (28, 25), (82, 79), (50, 47), (83, 80), (51, 48), (95, 89), (69, 66), (100, 93), (77, 74), (78, 75), (10, 7), (56, 53), (37, 34), (76, 73), (45, 42), (46, 43), (91, 85), (62, 59), (15, 12), (38, 35), (20, 17), (25, 22), (63, 60), (30, 27), (84, 81), (52, 49), (36, 33), (9, 6), (35, 32), (14, 11), (19, 16), (29, 26), (68, 65), (61, 58), (94, 88), (71, 68)]
def kf (f : Nat) : Option Nat := kp.lookup f
theorem kp_mem : ∀ {l : List (Nat × Nat)} {f k : Nat}, l.lookup f = some k → (f, k) ∈ l
  | [], _, _, h => by simp at h
  | (a, b) :: l, f, k, h => by
    rw [List.lookup_cons] at h
    split at h
    · rename_i he
      cases h
      rw [show f = a by simpa using he]
      exact List.mem_cons_self
    · exact List.mem_cons_of_mem _ (kp_mem h)

/-- the table of powers of ten, which strconv.Itoa reads -/
def tabs (w : World) : Prop := Lib.TabIs Tryd.prog w "internal/strconv.uint64pow10" .u64 Lib.pow10Tab
theorem gPow : Tryd.prog.globalNamed "internal/strconv.uint64pow10" = some 1 := by kernel_rfl
theorem tabs_keep (w w' : World) (h : tabs w) (hb : Below (1 + 1) w w') : tabs w' := by
  unfold tabs Lib.TabIs World.var? at *
  rw [gPow] at h ⊢
  simp only [Option.bind_some] at h ⊢
  rw [hb.block _ (Nat.lt_succ_self _)]
  exact h
theorem tabs_size (w : World) (h : tabs w) : 1 + 1 ≤ w.heap.size := by
  unfold tabs Lib.TabIs World.var? at h
  rw [gPow] at h
  simp only [Option.bind_some] at h
  rcases Nat.lt_or_ge 1 w.heap.size with h' | h'
  · exact h'
  · rw [Array.getElem?_eq_none h'] at h
    simp at h
def Gm : Ctx := ⟨tabs, 1 + 1, tabs_keep, tabs_size⟩

theorem below_new (w : World) (k : Nat) (os : Array Obj) : Below w.heap.size w (Go.Sort.grow (w.drewN k) os) :=
  (below_drewN (Below.refl _ _) k).trans ⟨rfl, rfl, rfl, by simp [Go.Sort.grow], fun b hb => by
    simp only [Go.Sort.grow]
    exact Array.getElem?_append_left hb⟩

theorem itoa_sound : ∀ xs r, extF 68 xs = some r → Sound Gm Tryd.prog 71 xs r := by
  intro xs r h
  unfold extF at h
  split at h
  · rename_i n _
    split at h
    · rename_i hn
      cases h
      refine ⟨rfl, fun M0 w vals hG hM ha => ?_⟩
      obtain ⟨hl, hv⟩ := ha
      obtain ⟨v, hvs⟩ : ∃ v, vals.toList = [v] := List.length_eq_one_iff.1 hl.symm
      have h0 : VR M0 w [] [] (vint .i64 n) v := hv 0 _ v rfl (by rw [hvs]; rfl)
      have hvn : v = .int .i64 n := by simpa [VR, LR, Reads] using h0
      obtain rfl : vals = #[.int .i64 n] := by cases vals; simp_all
      refine (Tryd.strconv_Itoa n hn.1 hn.2 w hG).mono fun e w' ⟨he, k, os, hw'⟩ => ?_
      subst hw'
      refine ⟨_, he, below_new w k os, [], ?_, ?_⟩
      · exact ⟨rfl, hM, (below_new w k os).size, fun i x q hi hq => by simp [thaw, thawL] at hi, fun i i' x x' b h1 => by simp [thaw, thawL] at h1⟩
      · simp [thaw, thawL, VR, LR, Reads]
    · cases h
  · cases h

def Fine (p : Nat × Nat) : Prop := (∃ fn af, Tryd.prog.funcs[p.1]? = some fn ∧ cFn Tryd.prog kf fn = some af ∧ Ph p.2 = some af) ∨
    (Ph p.2 = none ∧ (∃ fn, Tryd.prog.funcs[p.1]? = some fn ∧ fn.body.isNone = false ∧ (fn.name == "runtime.NumGoroutine") = false) ∧ ∀ xs r, extF p.2 xs = some r → Sound Gm Tryd.prog p.1 xs r)
theorem fine0 : Fine (40, 37) := Or.inl ⟨Tryd.f40, f_impl_FormatInt, Tryd.func40, by kernel_rfl, rfl⟩
theorem fine1 : Fine (11, 8) := Or.inl ⟨Tryd.f11, f_impl_FormatItem, Tryd.func11, by kernel_rfl, rfl⟩
theorem fine2 : Fine (39, 36) := Or.inl ⟨Tryd.f39, f_impl_FormatKey, Tryd.func39, by kernel_rfl, rfl⟩
theorem fine3 : Fine (16, 13) := Or.inl ⟨Tryd.f16, f_impl_FormatPage, Tryd.func16, by kernel_rfl, rfl⟩
theorem fine4 : Fine (21, 18) := Or.inl ⟨Tryd.f21, f_impl_FormatServer, Tryd.func21, by kernel_rfl, rfl⟩
theorem fine5 : Fine (31, 28) := Or.inl ⟨Tryd.f31, f_impl_FormatTx, Tryd.func31, by kernel_rfl, rfl⟩
theorem fine6 : Fine (64, 61) := Or.inl ⟨Tryd.f64, f_impl_InRange, Tryd.func64, by kernel_rfl, rfl⟩
theorem fine7 : Fine (70, 67) := Or.inl ⟨Tryd.f70, f_impl_IsKey, Tryd.func70, by kernel_rfl, rfl⟩
theorem fine8 : Fine (96, 90) := Or.inl ⟨Tryd.f96, f_impl_isKeyText, Tryd.func96, by kernel_rfl, rfl⟩
theorem fine9 : Fine (3, 0) := Or.inl ⟨Tryd.f3, f_laws_FnExactFormatItem, Tryd.func3, by kernel_rfl, rfl⟩
theorem fine10 : Fine (4, 1) := Or.inl ⟨Tryd.f4, f_laws_FnExactFormatPage, Tryd.func4, by kernel_rfl, rfl⟩
theorem fine11 : Fine (5, 2) := Or.inl ⟨Tryd.f5, f_laws_FnExactFormatServer, Tryd.func5, by kernel_rfl, rfl⟩
theorem fine12 : Fine (7, 4) := Or.inl ⟨Tryd.f7, f_laws_FnExactFormatTx, Tryd.func7, by kernel_rfl, rfl⟩
theorem fine13 : Fine (85, 82) := Or.inl ⟨Tryd.f85, f_laws_eqApplied, Tryd.func85, by kernel_rfl, rfl⟩
theorem fine14 : Fine (53, 50) := Or.inl ⟨Tryd.f53, f_laws_eqAppliedS, Tryd.func53, by kernel_rfl, rfl⟩
theorem fine15 : Fine (98, 91) := Or.inl ⟨Tryd.f98, f_laws_eqField, Tryd.func98, by kernel_rfl, rfl⟩
theorem fine16 : Fine (72, 69) := Or.inl ⟨Tryd.f72, f_laws_eqFieldS, Tryd.func72, by kernel_rfl, rfl⟩
theorem fine17 : Fine (101, 94) := Or.inl ⟨Tryd.f101, f_laws_eqInstr, Tryd.func101, by kernel_rfl, rfl⟩
theorem fine18 : Fine (80, 77) := Or.inl ⟨Tryd.f80, f_laws_eqInstrS, Tryd.func80, by kernel_rfl, rfl⟩
theorem fine19 : Fine (81, 78) := Or.inl ⟨Tryd.f81, f_laws_eqIntS, Tryd.func81, by kernel_rfl, rfl⟩
theorem fine20 : Fine (12, 9) := Or.inl ⟨Tryd.f12, f_laws_eqItem, Tryd.func12, by kernel_rfl, rfl⟩
theorem fine21 : Fine (58, 55) := Or.inl ⟨Tryd.f58, f_laws_eqItemS, Tryd.func58, by kernel_rfl, rfl⟩
theorem fine22 : Fine (41, 38) := Or.inl ⟨Tryd.f41, f_laws_eqKey, Tryd.func41, by kernel_rfl, rfl⟩
theorem fine23 : Fine (79, 76) := Or.inl ⟨Tryd.f79, f_laws_eqLoaded, Tryd.func79, by kernel_rfl, rfl⟩
theorem fine24 : Fine (47, 44) := Or.inl ⟨Tryd.f47, f_laws_eqLoadedS, Tryd.func47, by kernel_rfl, rfl⟩
theorem fine25 : Fine (48, 45) := Or.inl ⟨Tryd.f48, f_laws_eqMachine, Tryd.func48, by kernel_rfl, rfl⟩
theorem fine26 : Fine (92, 86) := Or.inl ⟨Tryd.f92, f_laws_eqOp, Tryd.func92, by kernel_rfl, rfl⟩
theorem fine27 : Fine (65, 62) := Or.inl ⟨Tryd.f65, f_laws_eqOpS, Tryd.func65, by kernel_rfl, rfl⟩
theorem fine28 : Fine (17, 14) := Or.inl ⟨Tryd.f17, f_laws_eqPage, Tryd.func17, by kernel_rfl, rfl⟩
theorem fine29 : Fine (42, 39) := Or.inl ⟨Tryd.f42, f_laws_eqRecord, Tryd.func42, by kernel_rfl, rfl⟩
theorem fine30 : Fine (22, 19) := Or.inl ⟨Tryd.f22, f_laws_eqServer, Tryd.func22, by kernel_rfl, rfl⟩
theorem fine31 : Fine (27, 24) := Or.inl ⟨Tryd.f27, f_laws_eqStore, Tryd.func27, by kernel_rfl, rfl⟩
theorem fine32 : Fine (66, 63) := Or.inl ⟨Tryd.f66, f_laws_eqStoreS, Tryd.func66, by kernel_rfl, rfl⟩
theorem fine33 : Fine (32, 29) := Or.inl ⟨Tryd.f32, f_laws_eqTx, Tryd.func32, by kernel_rfl, rfl⟩
theorem fine34 : Fine (86, 83) := Or.inl ⟨Tryd.f86, f_laws_eqWrite, Tryd.func86, by kernel_rfl, rfl⟩
theorem fine35 : Fine (54, 51) := Or.inl ⟨Tryd.f54, f_laws_eqWriteS, Tryd.func54, by kernel_rfl, rfl⟩
theorem fine36 : Fine (49, 46) := Or.inl ⟨Tryd.f49, f_laws_szAppliedS, Tryd.func49, by kernel_rfl, rfl⟩
theorem fine37 : Fine (93, 87) := Or.inl ⟨Tryd.f93, f_laws_szField, Tryd.func93, by kernel_rfl, rfl⟩
theorem fine38 : Fine (67, 64) := Or.inl ⟨Tryd.f67, f_laws_szFieldS, Tryd.func67, by kernel_rfl, rfl⟩
theorem fine39 : Fine (99, 92) := Or.inl ⟨Tryd.f99, f_laws_szInstr, Tryd.func99, by kernel_rfl, rfl⟩
theorem fine40 : Fine (74, 71) := Or.inl ⟨Tryd.f74, f_laws_szInstrS, Tryd.func74, by kernel_rfl, rfl⟩
theorem fine41 : Fine (75, 72) := Or.inl ⟨Tryd.f75, f_laws_szIntS, Tryd.func75, by kernel_rfl, rfl⟩
theorem fine42 : Fine (8, 5) := Or.inl ⟨Tryd.f8, f_laws_szItem, Tryd.func8, by kernel_rfl, rfl⟩
theorem fine43 : Fine (55, 52) := Or.inl ⟨Tryd.f55, f_laws_szItemS, Tryd.func55, by kernel_rfl, rfl⟩
theorem fine44 : Fine (33, 30) := Or.inl ⟨Tryd.f33, f_laws_szKey, Tryd.func33, by kernel_rfl, rfl⟩
theorem fine45 : Fine (73, 70) := Or.inl ⟨Tryd.f73, f_laws_szLoaded, Tryd.func73, by kernel_rfl, rfl⟩
theorem fine46 : Fine (43, 40) := Or.inl ⟨Tryd.f43, f_laws_szLoadedS, Tryd.func43, by kernel_rfl, rfl⟩
theorem fine47 : Fine (44, 41) := Or.inl ⟨Tryd.f44, f_laws_szMachine, Tryd.func44, by kernel_rfl, rfl⟩
theorem fine48 : Fine (90, 84) := Or.inl ⟨Tryd.f90, f_laws_szOp, Tryd.func90, by kernel_rfl, rfl⟩
theorem fine49 : Fine (59, 56) := Or.inl ⟨Tryd.f59, f_laws_szOpS, Tryd.func59, by kernel_rfl, rfl⟩
theorem fine50 : Fine (13, 10) := Or.inl ⟨Tryd.f13, f_laws_szPage, Tryd.func13, by kernel_rfl, rfl⟩
theorem fine51 : Fine (34, 31) := Or.inl ⟨Tryd.f34, f_laws_szRecord, Tryd.func34, by kernel_rfl, rfl⟩
theorem fine52 : Fine (18, 15) := Or.inl ⟨Tryd.f18, f_laws_szServer, Tryd.func18, by kernel_rfl, rfl⟩
theorem fine53 : Fine (23, 20) := Or.inl ⟨Tryd.f23, f_laws_szStore, Tryd.func23, by kernel_rfl, rfl⟩
theorem fine54 : Fine (60, 57) := Or.inl ⟨Tryd.f60, f_laws_szStoreS, Tryd.func60, by kernel_rfl, rfl⟩
theorem fine55 : Fine (28, 25) := Or.inl ⟨Tryd.f28, f_laws_szTx, Tryd.func28, by kernel_rfl, rfl⟩
theorem fine56 : Fine (82, 79) := Or.inl ⟨Tryd.f82, f_laws_szWrite, Tryd.func82, by kernel_rfl, rfl⟩
theorem fine57 : Fine (50, 47) := Or.inl ⟨Tryd.f50, f_laws_szWriteS, Tryd.func50, by kernel_rfl, rfl⟩
theorem fine58 : Fine (83, 80) := Or.inl ⟨Tryd.f83, f_laws_toApplied, Tryd.func83, by kernel_rfl, rfl⟩
theorem fine59 : Fine (51, 48) := Or.inl ⟨Tryd.f51, f_laws_toAppliedS, Tryd.func51, by kernel_rfl, rfl⟩
theorem fine60 : Fine (95, 89) := Or.inl ⟨Tryd.f95, f_laws_toField, Tryd.func95, by kernel_rfl, rfl⟩
theorem fine61 : Fine (69, 66) := Or.inl ⟨Tryd.f69, f_laws_toFieldS, Tryd.func69, by kernel_rfl, rfl⟩
theorem fine62 : Fine (100, 93) := Or.inl ⟨Tryd.f100, f_laws_toInstr, Tryd.func100, by kernel_rfl, rfl⟩
theorem fine63 : Fine (77, 74) := Or.inl ⟨Tryd.f77, f_laws_toInstrS, Tryd.func77, by kernel_rfl, rfl⟩
theorem fine64 : Fine (78, 75) := Or.inl ⟨Tryd.f78, f_laws_toIntS, Tryd.func78, by kernel_rfl, rfl⟩
theorem fine65 : Fine (10, 7) := Or.inl ⟨Tryd.f10, f_laws_toItem, Tryd.func10, by kernel_rfl, rfl⟩
theorem fine66 : Fine (56, 53) := Or.inl ⟨Tryd.f56, f_laws_toItemS, Tryd.func56, by kernel_rfl, rfl⟩
theorem fine67 : Fine (37, 34) := Or.inl ⟨Tryd.f37, f_laws_toKey, Tryd.func37, by kernel_rfl, rfl⟩
theorem fine68 : Fine (76, 73) := Or.inl ⟨Tryd.f76, f_laws_toLoaded, Tryd.func76, by kernel_rfl, rfl⟩
theorem fine69 : Fine (45, 42) := Or.inl ⟨Tryd.f45, f_laws_toLoadedS, Tryd.func45, by kernel_rfl, rfl⟩
theorem fine70 : Fine (46, 43) := Or.inl ⟨Tryd.f46, f_laws_toMachine, Tryd.func46, by kernel_rfl, rfl⟩
theorem fine71 : Fine (91, 85) := Or.inl ⟨Tryd.f91, f_laws_toOp, Tryd.func91, by kernel_rfl, rfl⟩
theorem fine72 : Fine (62, 59) := Or.inl ⟨Tryd.f62, f_laws_toOpS, Tryd.func62, by kernel_rfl, rfl⟩
theorem fine73 : Fine (15, 12) := Or.inl ⟨Tryd.f15, f_laws_toPage, Tryd.func15, by kernel_rfl, rfl⟩
theorem fine74 : Fine (38, 35) := Or.inl ⟨Tryd.f38, f_laws_toRecord, Tryd.func38, by kernel_rfl, rfl⟩
theorem fine75 : Fine (20, 17) := Or.inl ⟨Tryd.f20, f_laws_toServer, Tryd.func20, by kernel_rfl, rfl⟩
theorem fine76 : Fine (25, 22) := Or.inl ⟨Tryd.f25, f_laws_toStore, Tryd.func25, by kernel_rfl, rfl⟩
theorem fine77 : Fine (63, 60) := Or.inl ⟨Tryd.f63, f_laws_toStoreS, Tryd.func63, by kernel_rfl, rfl⟩
theorem fine78 : Fine (30, 27) := Or.inl ⟨Tryd.f30, f_laws_toTx, Tryd.func30, by kernel_rfl, rfl⟩
theorem fine79 : Fine (84, 81) := Or.inl ⟨Tryd.f84, f_laws_toWrite, Tryd.func84, by kernel_rfl, rfl⟩
theorem fine80 : Fine (52, 49) := Or.inl ⟨Tryd.f52, f_laws_toWriteS, Tryd.func52, by kernel_rfl, rfl⟩
theorem fine81 : Fine (36, 33) := Or.inl ⟨Tryd.f36, f_spec_FormatInt, Tryd.func36, by kernel_rfl, rfl⟩
theorem fine82 : Fine (9, 6) := Or.inl ⟨Tryd.f9, f_spec_FormatItem, Tryd.func9, by kernel_rfl, rfl⟩
theorem fine83 : Fine (35, 32) := Or.inl ⟨Tryd.f35, f_spec_FormatKey, Tryd.func35, by kernel_rfl, rfl⟩
theorem fine84 : Fine (14, 11) := Or.inl ⟨Tryd.f14, f_spec_FormatPage, Tryd.func14, by kernel_rfl, rfl⟩
theorem fine85 : Fine (19, 16) := Or.inl ⟨Tryd.f19, f_spec_FormatServer, Tryd.func19, by kernel_rfl, rfl⟩
theorem fine86 : Fine (29, 26) := Or.inl ⟨Tryd.f29, f_spec_FormatTx, Tryd.func29, by kernel_rfl, rfl⟩
theorem fine87 : Fine (68, 65) := Or.inl ⟨Tryd.f68, f_spec_IsKey, Tryd.func68, by kernel_rfl, rfl⟩
theorem fine88 : Fine (61, 58) := Or.inl ⟨Tryd.f61, f_spec_l1In, Tryd.func61, by kernel_rfl, rfl⟩
theorem fine89 : Fine (94, 88) := Or.inl ⟨Tryd.f94, f_spec_l4Text, Tryd.func94, by kernel_rfl, rfl⟩
theorem fine90 : Fine (71, 68) := Or.inr ⟨rfl, ⟨Tryd.f71, Tryd.func71, by kernel_rfl, by kernel_rfl⟩, itoa_sound⟩
theorem fines : ∀ p ∈ kp, Fine p :=
  List.forall_mem_cons.2 ⟨fine0, List.forall_mem_cons.2 ⟨fine1, List.forall_mem_cons.2 ⟨fine2, List.forall_mem_cons.2 ⟨fine3, List.forall_mem_cons.2 ⟨fine4, List.forall_mem_cons.2 ⟨fine5, List.forall_mem_cons.2 ⟨fine6, List.forall_mem_cons.2 ⟨fine7, List.forall_mem_cons.2 ⟨fine8, List.forall_mem_cons.2 ⟨fine9, List.forall_mem_cons.2 ⟨fine10, List.forall_mem_cons.2 ⟨fine11, List.forall_mem_cons.2 ⟨fine12, List.forall_mem_cons.2 ⟨fine13, List.forall_mem_cons.2 ⟨fine14, List.forall_mem_cons.2 ⟨fine15, List.forall_mem_cons.2 ⟨fine16, List.forall_mem_cons.2 ⟨fine17, List.forall_mem_cons.2 ⟨fine18, List.forall_mem_cons.2 ⟨fine19, List.forall_mem_cons.2 ⟨fine20, List.forall_mem_cons.2 ⟨fine21, List.forall_mem_cons.2 ⟨fine22, List.forall_mem_cons.2 ⟨fine23, List.forall_mem_cons.2 ⟨fine24, List.forall_mem_cons.2 ⟨fine25, List.forall_mem_cons.2 ⟨fine26, List.forall_mem_cons.2 ⟨fine27, List.forall_mem_cons.2 ⟨fine28, List.forall_mem_cons.2 ⟨fine29, List.forall_mem_cons.2 ⟨fine30, List.forall_mem_cons.2 ⟨fine31, List.forall_mem_cons.2 ⟨fine32, List.forall_mem_cons.2 ⟨fine33, List.forall_mem_cons.2 ⟨fine34, List.forall_mem_cons.2 ⟨fine35, List.forall_mem_cons.2 ⟨fine36, List.forall_mem_cons.2 ⟨fine37, List.forall_mem_cons.2 ⟨fine38, List.forall_mem_cons.2 ⟨fine39, List.forall_mem_cons.2 ⟨fine40, List.forall_mem_cons.2 ⟨fine41, List.forall_mem_cons.2 ⟨fine42, List.forall_mem_cons.2 ⟨fine43, List.forall_mem_cons.2 ⟨fine44, List.forall_mem_cons.2 ⟨fine45, List.forall_mem_cons.2 ⟨fine46, List.forall_mem_cons.2 ⟨fine47, List.forall_mem_cons.2 ⟨fine48, List.forall_mem_cons.2 ⟨fine49, List.forall_mem_cons.2 ⟨fine50, List.forall_mem_cons.2 ⟨fine51, List.forall_mem_cons.2 ⟨fine52, List.forall_mem_cons.2 ⟨fine53, List.forall_mem_cons.2 ⟨fine54, List.forall_mem_cons.2 ⟨fine55, List.forall_mem_cons.2 ⟨fine56, List.forall_mem_cons.2 ⟨fine57, List.forall_mem_cons.2 ⟨fine58, List.forall_mem_cons.2 ⟨fine59, List.forall_mem_cons.2 ⟨fine60, List.forall_mem_cons.2 ⟨fine61, List.forall_mem_cons.2 ⟨fine62, List.forall_mem_cons.2 ⟨fine63, List.forall_mem_cons.2 ⟨fine64, List.forall_mem_cons.2 ⟨fine65, List.forall_mem_cons.2 ⟨fine66, List.forall_mem_cons.2 ⟨fine67, List.forall_mem_cons.2 ⟨fine68, List.forall_mem_cons.2 ⟨fine69, List.forall_mem_cons.2 ⟨fine70, List.forall_mem_cons.2 ⟨fine71, List.forall_mem_cons.2 ⟨fine72, List.forall_mem_cons.2 ⟨fine73, List.forall_mem_cons.2 ⟨fine74, List.forall_mem_cons.2 ⟨fine75, List.forall_mem_cons.2 ⟨fine76, List.forall_mem_cons.2 ⟨fine77, List.forall_mem_cons.2 ⟨fine78, List.forall_mem_cons.2 ⟨fine79, List.forall_mem_cons.2 ⟨fine80, List.forall_mem_cons.2 ⟨fine81, List.forall_mem_cons.2 ⟨fine82, List.forall_mem_cons.2 ⟨fine83, List.forall_mem_cons.2 ⟨fine84, List.forall_mem_cons.2 ⟨fine85, List.forall_mem_cons.2 ⟨fine86, List.forall_mem_cons.2 ⟨fine87, List.forall_mem_cons.2 ⟨fine88, List.forall_mem_cons.2 ⟨fine89, List.forall_mem_cons.2 ⟨fine90, fun _ h => by cases h⟩⟩⟩⟩⟩⟩⟩⟩⟩⟩⟩⟩⟩⟩⟩⟩⟩⟩⟩⟩⟩⟩⟩⟩⟩⟩⟩⟩⟩⟩⟩⟩⟩⟩⟩⟩⟩⟩⟩⟩⟩⟩⟩⟩⟩⟩⟩⟩⟩⟩⟩⟩⟩⟩⟩⟩⟩⟩⟩⟩⟩⟩⟩⟩⟩⟩⟩⟩⟩⟩⟩⟩⟩⟩⟩⟩⟩⟩⟩⟩⟩⟩⟩⟩⟩⟩⟩⟩⟩⟩⟩
theorem mixed : Tryd.prog.follows .mixedOrders = true := by kernel_rfl
theorem impl : Impl Gm Tryd.prog kf Ph extF := ⟨mixed, fun f k h => fines (f, k) (kp_mem (l := kp) (f := f) (k := k) h)⟩
end Go.Proofs.YtekgcgbfkeadkaaDoor
