/- The functions of this translation are those of the table: each by one closed fact of the kernel. Written by program. -/
import Derived.Test.YtldmjoillnhebaaGreatGtc
import Derived.Test.YtldmjoillnhebaaGreatRows
import Derived.KernelRfl
import Derived.Lib.Bytealg
import Derived.Lib.Walk
import Derived.WalkKit
import Derived.Test.YtldmjoillnhebaaGreatGins
namespace Go.Proofs.YtldmjoillnhebaaGreat
open Go Go.RowKit Gi
set_option linter.unusedVariables false
set_option linter.unusedSimpArgs false
def kp : List (Nat × Nat) := [(165, 355), (114, 340), (37, 312), (116, 188), (159, 216), (36, 61), (164, 67), (199, 178), (162, 246), (12, 303), (163, 354), (48, 309), (118, 342), (49, 160), (117, 341), (77, 326), (35, 154), (38, 313), (201, 362), (115, 218), (157, 242), (76, 191), (75, 325), (160, 217), (196, 241), (200, 90), (223, 213), (4, 295), (175, 82), (125, 50), (119, 205), (78, 171), (207, 259), (226, 268), (205, 257), (168, 236), (247, 279), (240, 275), (42, 142), (206, 258), (169, 237), (248, 91), (242, 69), (241, 276), (228, 269), (209, 94), (172, 77), (173, 78), (210, 9), (174, 55), (211, 38), (171, 76), (120, 44), (122, 206), (80, 172), (41, 141), (121, 45), (123, 207), (81, 173), (229, 270), (79, 14), (40, 140), (230, 39), (167, 235), (170, 238), (251, 282), (83, 19), (44, 144), (82, 174), (43, 143), (39, 139), (124, 24), (227, 63), (15, 208), (208, 260), (10, 108), (176, 83), (126, 51), (99, 46), (93, 198), (57, 163), (180, 251), (212, 262), (178, 249), (133, 228), (243, 277), (231, 271), (22, 130), (179, 250), (134, 229), (244, 87), (233, 64), (232, 272), (214, 263), (182, 92), (137, 71), (138, 72), (183, 5), (139, 52), (184, 30), (136, 70), (94, 40), (96, 199), (59, 164), (21, 129), (95, 41), (60, 165), (215, 264), (58, 10), (20, 128), (216, 31), (132, 227), (135, 230), (249, 280), (62, 15), (24, 132), (61, 166), (23, 131), (19, 127), (98, 20), (213, 57), (97, 200), (181, 252), (6, 104), (140, 79), (100, 47), (154, 80), (112, 48), (105, 201), (67, 167), (190, 255), (217, 265), (188, 253), (147, 232), (245, 278), (234, 273), (32, 136), (189, 254), (148, 233), (246, 89), (236, 66), (235, 274), (219, 266), (192, 93), (151, 74), (152, 75), (193, 7), (153, 53), (194, 34), (150, 73), (106, 42), (108, 202), (69, 168), (31, 135), (107, 43), (109, 203), (70, 169), (220, 267), (68, 12), (30, 134), (221, 35), (146, 231), (149, 234), (250, 281), (72, 17), (34, 138), (71, 170), (33, 137), (29, 133), (111, 22), (218, 60), (110, 204), (191, 256), (8, 106), (155, 81), (113, 49), (74, 324), (156, 352), (195, 240), (158, 215), (73, 182), (161, 353), (166, 356), (145, 351), (64, 322), (27, 310), (102, 184), (45, 314), (144, 65), (185, 177), (142, 243), (11, 302), (143, 350), (46, 308), (104, 339), (47, 158), (103, 338), (66, 323), (25, 153), (26, 58), (28, 311), (63, 181), (187, 359), (186, 88), (141, 239), (65, 187), (101, 214), (202, 363)]
def kfS (f : Nat) : Option Nat := kp.lookup f
noncomputable instance kfI : KF := ⟨kfS, Tryz.prog⟩
theorem kp_mem : ∀ {l : List (Nat × Nat)} {f k : Nat}, l.lookup f = some k → (f, k) ∈ l
  | [], _, _, h => by simp at h
  | (a, b) :: l, f, k, h => by
    rw [List.lookup_cons] at h
    split at h
    · rename_i he
      cases h
      rw [show f = a by simpa using he]
      exact List.mem_cons_self
    · exact List.mem_cons_of_mem _ (kp_mem h)
def Gm : Ctx := ⟨fun _ => True, 0, fun _ _ _ _ => trivial, fun _ _ => Nat.zero_le _⟩
def Fine (p : Nat × Nat) : Prop := (∃ fn af, Tryz.prog.funcs[p.1]? = some fn ∧ cFn Tryz.prog Gi.kf fn = some af ∧ Ph p.2 = some af) ∨
  (Ph p.2 = none ∧ (∃ fn, Tryz.prog.funcs[p.1]? = some fn ∧ fn.body.isNone = false ∧ (fn.name == "runtime.NumGoroutine") = false) ∧ ∀ xs r, extF p.2 xs = some r → Sound Gm Tryz.prog p.1 xs r)
set_option maxRecDepth 100000 in
theorem cmpS_calls (a b : ByteArray) (w : World) : Calls Tryz.prog 224 #[.string a, .string b] w fun e w' => e = .returned (.int .i64 (Lib.compareBytes a.data.toList b.data.toList)) ∧ w' = w := by
  have mixed : Tryz.prog.follows .mixedOrders = true := by kernel_rfl
  go_enter Tryz.func224, Tryz.ntmps224
  go_wp2
  rw [run_callFunc_extern Tryz.func238 (by kernel_rfl) (by kernel_rfl) (by kernel_rfl) (e := Extern.BytealgCompare.compare) (by kernel_rfl), Lib.run_compareString]
  simp only [Result.andThen]
  rw [Oper.upon_value]
  go_wp2
  go_ret
  exact ⟨rfl, rfl⟩
set_option maxRecDepth 100000 in
theorem cmp_calls (a b : ByteArray) (w : World) : Calls Tryz.prog 202 #[.string a, .string b] w fun e w' => e = .returned (.int .i64 (Lib.compareBytes a.data.toList b.data.toList)) ∧ w' = w := by
  have mixed : Tryz.prog.follows .mixedOrders = true := by kernel_rfl
  have e213 : ∀ args w, (callFunc 224 args).run Tryz.prog w = .ok (.enter 224 args) w := enters_of Tryz.func224 (by kernel_rfl) rfl
  go_enter Tryz.func202, Tryz.ntmps202
  go_wp2_with (go_at_fn 224; refine (cmpS_calls _ _ _).mono ?_; rintro e w' ⟨rfl, rfl⟩)
  go_ret
  exact ⟨rfl, rfl⟩
theorem cmp_sound : ∀ xs r, extF 363 xs = some r → Sound Gm Tryz.prog 202 xs r := by
  intro xs r h
  unfold extF at h
  split at h
  · rename_i heq; cases heq
  · rename_i heq; cases heq
  · rename_i a b _
    cases h
    refine ⟨rfl, fun M0 w vals hG hM ha => ?_⟩
    obtain ⟨hl, hv⟩ := ha
    obtain ⟨v, v2, hvs⟩ : ∃ v v2, vals.toList = [v, v2] := by
      match h : vals.toList, hl with
      | [v, v2], _ => exact ⟨v, v2, rfl⟩
    have h0 : VR M0 w [] [] (vstr a) v := hv 0 _ v rfl (by rw [hvs]; rfl)
    have h1 : VR M0 w [] [] (vstr b) v2 := hv 1 _ v2 rfl (by rw [hvs]; rfl)
    have hv0 : v = .string ⟨a.toArray⟩ := by simpa [VR, LR, Reads] using h0
    have hv1 : v2 = .string ⟨b.toArray⟩ := by simpa [VR, LR, Reads] using h1
    obtain rfl : vals = #[.string ⟨a.toArray⟩, .string ⟨b.toArray⟩] := by cases vals; simp_all
    refine (cmp_calls ⟨a.toArray⟩ ⟨b.toArray⟩ w).mono fun e w' ⟨he, hw'⟩ => ?_
    subst hw'
    refine ⟨_, he, Below.refl _ _, [], ?_, ?_⟩
    · exact ⟨rfl, hM, Nat.le_refl _, fun i x q hi hq => by simp [thaw, thawL] at hi, fun i i' x x' b h1 => by simp [thaw, thawL] at h1⟩
    · simp [thaw, thawL, VR, LR, Reads]
  · cases h
theorem fine0 : Fine (165, 355) := Or.inl ⟨Tryz.f165, f_impl_CompareKeys, Tryz.func165, by kernel_rfl, rfl⟩
theorem fine1 : Fine (114, 340) := Or.inl ⟨Tryz.f114, f_impl_EqualRecords, Tryz.func114, by kernel_rfl, rfl⟩
theorem fine2 : Fine (37, 312) := Or.inl ⟨Tryz.f37, f_impl_EqualStores, Tryz.func37, by kernel_rfl, rfl⟩
theorem fine3 : Fine (116, 188) := Or.inl ⟨Tryz.f116, f_impl_FindItem, Tryz.func116, by kernel_rfl, rfl⟩
theorem fine4 : Fine (159, 216) := Or.inl ⟨Tryz.f159, f_impl_FindItem_1, Tryz.func159, by kernel_rfl, rfl⟩
theorem fine5 : Fine (36, 61) := Or.inl ⟨Tryz.f36, f_impl_InRange, Tryz.func36, by kernel_rfl, rfl⟩
theorem fine6 : Fine (164, 67) := Or.inl ⟨Tryz.f164, f_impl_IsKey, Tryz.func164, by kernel_rfl, rfl⟩
theorem fine7 : Fine (199, 178) := Or.inl ⟨Tryz.f199, f_impl_IsName, Tryz.func199, by kernel_rfl, rfl⟩
theorem fine8 : Fine (162, 246) := Or.inl ⟨Tryz.f162, f_impl_IsRecord, Tryz.func162, by kernel_rfl, rfl⟩
theorem fine9 : Fine (12, 303) := Or.inl ⟨Tryz.f12, f_impl_IsSettled, Tryz.func12, by kernel_rfl, rfl⟩
theorem fine10 : Fine (163, 354) := Or.inl ⟨Tryz.f163, f_impl_IsStore, Tryz.func163, by kernel_rfl, rfl⟩
theorem fine11 : Fine (48, 309) := Or.inl ⟨Tryz.f48, f_impl_LocalStore, Tryz.func48, by kernel_rfl, rfl⟩
theorem fine12 : Fine (118, 342) := Or.inl ⟨Tryz.f118, f_impl_PutItem, Tryz.func118, by kernel_rfl, rfl⟩
theorem fine13 : Fine (49, 160) := Or.inl ⟨Tryz.f49, f_impl_ServerStore, Tryz.func49, by kernel_rfl, rfl⟩
theorem fine14 : Fine (117, 341) := Or.inl ⟨Tryz.f117, f_impl_SetField, Tryz.func117, by kernel_rfl, rfl⟩
theorem fine15 : Fine (77, 326) := Or.inl ⟨Tryz.f77, f_impl_SetItemField, Tryz.func77, by kernel_rfl, rfl⟩
theorem fine16 : Fine (35, 154) := Or.inl ⟨Tryz.f35, f_impl_SiteNumber, Tryz.func35, by kernel_rfl, rfl⟩
theorem fine17 : Fine (38, 313) := Or.inl ⟨Tryz.f38, f_impl_applied, Tryz.func38, by kernel_rfl, rfl⟩
theorem fine18 : Fine (201, 362) := Or.inl ⟨Tryz.f201, f_impl_compareInts, Tryz.func201, by kernel_rfl, rfl⟩
theorem fine19 : Fine (115, 218) := Or.inl ⟨Tryz.f115, f_impl_copyItem, Tryz.func115, by kernel_rfl, rfl⟩
theorem fine20 : Fine (157, 242) := Or.inl ⟨Tryz.f157, f_impl_copyRecord, Tryz.func157, by kernel_rfl, rfl⟩
theorem fine21 : Fine (76, 191) := Or.inl ⟨Tryz.f76, f_impl_copyStore, Tryz.func76, by kernel_rfl, rfl⟩
theorem fine22 : Fine (75, 325) := Or.inl ⟨Tryz.f75, f_impl_equalItems, Tryz.func75, by kernel_rfl, rfl⟩
theorem fine23 : Fine (160, 217) := Or.inl ⟨Tryz.f160, f_impl_fieldAt, Tryz.func160, by kernel_rfl, rfl⟩
theorem fine24 : Fine (196, 241) := Or.inl ⟨Tryz.f196, f_impl_fieldAt_1, Tryz.func196, by kernel_rfl, rfl⟩
theorem fine25 : Fine (200, 90) := Or.inl ⟨Tryz.f200, f_impl_isKeyText, Tryz.func200, by kernel_rfl, rfl⟩
theorem fine26 : Fine (223, 213) := Or.inl ⟨Tryz.f223, f_impl_isWord, Tryz.func223, by kernel_rfl, rfl⟩
theorem fine27 : Fine (4, 295) := Or.inl ⟨Tryz.f4, f_laws_FnExactIsSettled, Tryz.func4, by kernel_rfl, rfl⟩
theorem fine28 : Fine (175, 82) := Or.inl ⟨Tryz.f175, f_laws_eqApplied, Tryz.func175, by kernel_rfl, rfl⟩
theorem fine29 : Fine (125, 50) := Or.inl ⟨Tryz.f125, f_laws_eqAppliedS, Tryz.func125, by kernel_rfl, rfl⟩
theorem fine30 : Fine (119, 205) := Or.inl ⟨Tryz.f119, f_laws_eqBucket, Tryz.func119, by kernel_rfl, rfl⟩
theorem fine31 : Fine (78, 171) := Or.inl ⟨Tryz.f78, f_laws_eqBucketS, Tryz.func78, by kernel_rfl, rfl⟩
theorem fine32 : Fine (207, 259) := Or.inl ⟨Tryz.f207, f_laws_eqByteS, Tryz.func207, by kernel_rfl, rfl⟩
theorem fine33 : Fine (226, 268) := Or.inl ⟨Tryz.f226, f_laws_eqCache, Tryz.func226, by kernel_rfl, rfl⟩
theorem fine34 : Fine (205, 257) := Or.inl ⟨Tryz.f205, f_laws_eqCacheS, Tryz.func205, by kernel_rfl, rfl⟩
theorem fine35 : Fine (168, 236) := Or.inl ⟨Tryz.f168, f_laws_eqCacheSet, Tryz.func168, by kernel_rfl, rfl⟩
theorem fine36 : Fine (247, 279) := Or.inl ⟨Tryz.f247, f_laws_eqCached, Tryz.func247, by kernel_rfl, rfl⟩
theorem fine37 : Fine (240, 275) := Or.inl ⟨Tryz.f240, f_laws_eqCachedS, Tryz.func240, by kernel_rfl, rfl⟩
theorem fine38 : Fine (42, 142) := Or.inl ⟨Tryz.f42, f_laws_eqChannel, Tryz.func42, by kernel_rfl, rfl⟩
theorem fine39 : Fine (206, 258) := Or.inl ⟨Tryz.f206, f_laws_eqDatabase, Tryz.func206, by kernel_rfl, rfl⟩
theorem fine40 : Fine (169, 237) := Or.inl ⟨Tryz.f169, f_laws_eqDisk, Tryz.func169, by kernel_rfl, rfl⟩
theorem fine41 : Fine (248, 91) := Or.inl ⟨Tryz.f248, f_laws_eqField, Tryz.func248, by kernel_rfl, rfl⟩
theorem fine42 : Fine (242, 69) := Or.inl ⟨Tryz.f242, f_laws_eqFieldS, Tryz.func242, by kernel_rfl, rfl⟩
theorem fine43 : Fine (241, 276) := Or.inl ⟨Tryz.f241, f_laws_eqIndexDef, Tryz.func241, by kernel_rfl, rfl⟩
theorem fine44 : Fine (228, 269) := Or.inl ⟨Tryz.f228, f_laws_eqIndexDefS, Tryz.func228, by kernel_rfl, rfl⟩
theorem fine45 : Fine (209, 94) := Or.inl ⟨Tryz.f209, f_laws_eqInstr, Tryz.func209, by kernel_rfl, rfl⟩
theorem fine46 : Fine (172, 77) := Or.inl ⟨Tryz.f172, f_laws_eqInstrS, Tryz.func172, by kernel_rfl, rfl⟩
theorem fine47 : Fine (173, 78) := Or.inl ⟨Tryz.f173, f_laws_eqIntS, Tryz.func173, by kernel_rfl, rfl⟩
theorem fine48 : Fine (210, 9) := Or.inl ⟨Tryz.f210, f_laws_eqItem, Tryz.func210, by kernel_rfl, rfl⟩
theorem fine49 : Fine (174, 55) := Or.inl ⟨Tryz.f174, f_laws_eqItemS, Tryz.func174, by kernel_rfl, rfl⟩
theorem fine50 : Fine (211, 38) := Or.inl ⟨Tryz.f211, f_laws_eqKey, Tryz.func211, by kernel_rfl, rfl⟩
theorem fine51 : Fine (171, 76) := Or.inl ⟨Tryz.f171, f_laws_eqLoaded, Tryz.func171, by kernel_rfl, rfl⟩
theorem fine52 : Fine (120, 44) := Or.inl ⟨Tryz.f120, f_laws_eqLoadedS, Tryz.func120, by kernel_rfl, rfl⟩
theorem fine53 : Fine (122, 206) := Or.inl ⟨Tryz.f122, f_laws_eqLock, Tryz.func122, by kernel_rfl, rfl⟩
theorem fine54 : Fine (80, 172) := Or.inl ⟨Tryz.f80, f_laws_eqLockS, Tryz.func80, by kernel_rfl, rfl⟩
theorem fine55 : Fine (41, 141) := Or.inl ⟨Tryz.f41, f_laws_eqLockTable, Tryz.func41, by kernel_rfl, rfl⟩
theorem fine56 : Fine (121, 45) := Or.inl ⟨Tryz.f121, f_laws_eqMachine, Tryz.func121, by kernel_rfl, rfl⟩
theorem fine57 : Fine (123, 207) := Or.inl ⟨Tryz.f123, f_laws_eqMail, Tryz.func123, by kernel_rfl, rfl⟩
theorem fine58 : Fine (81, 173) := Or.inl ⟨Tryz.f81, f_laws_eqMailS, Tryz.func81, by kernel_rfl, rfl⟩
theorem fine59 : Fine (229, 270) := Or.inl ⟨Tryz.f229, f_laws_eqOutbox, Tryz.func229, by kernel_rfl, rfl⟩
theorem fine60 : Fine (79, 14) := Or.inl ⟨Tryz.f79, f_laws_eqPage, Tryz.func79, by kernel_rfl, rfl⟩
theorem fine61 : Fine (40, 140) := Or.inl ⟨Tryz.f40, f_laws_eqPageS, Tryz.func40, by kernel_rfl, rfl⟩
theorem fine62 : Fine (230, 39) := Or.inl ⟨Tryz.f230, f_laws_eqRecord, Tryz.func230, by kernel_rfl, rfl⟩
theorem fine63 : Fine (167, 235) := Or.inl ⟨Tryz.f167, f_laws_eqRegistration, Tryz.func167, by kernel_rfl, rfl⟩
theorem fine64 : Fine (170, 238) := Or.inl ⟨Tryz.f170, f_laws_eqReplica, Tryz.func170, by kernel_rfl, rfl⟩
theorem fine65 : Fine (251, 282) := Or.inl ⟨Tryz.f251, f_laws_eqResponse, Tryz.func251, by kernel_rfl, rfl⟩
theorem fine66 : Fine (83, 19) := Or.inl ⟨Tryz.f83, f_laws_eqServer, Tryz.func83, by kernel_rfl, rfl⟩
theorem fine67 : Fine (44, 144) := Or.inl ⟨Tryz.f44, f_laws_eqServerS, Tryz.func44, by kernel_rfl, rfl⟩
theorem fine68 : Fine (82, 174) := Or.inl ⟨Tryz.f82, f_laws_eqSite, Tryz.func82, by kernel_rfl, rfl⟩
theorem fine69 : Fine (43, 143) := Or.inl ⟨Tryz.f43, f_laws_eqSiteS, Tryz.func43, by kernel_rfl, rfl⟩
theorem fine70 : Fine (39, 139) := Or.inl ⟨Tryz.f39, f_laws_eqStorage, Tryz.func39, by kernel_rfl, rfl⟩
theorem fine71 : Fine (124, 24) := Or.inl ⟨Tryz.f124, f_laws_eqStore, Tryz.func124, by kernel_rfl, rfl⟩
theorem fine72 : Fine (227, 63) := Or.inl ⟨Tryz.f227, f_laws_eqStoreS, Tryz.func227, by kernel_rfl, rfl⟩
theorem fine73 : Fine (15, 208) := Or.inl ⟨Tryz.f15, f_laws_eqStringS, Tryz.func15, by kernel_rfl, rfl⟩
theorem fine74 : Fine (208, 260) := Or.inl ⟨Tryz.f208, f_laws_eqSync, Tryz.func208, by kernel_rfl, rfl⟩
theorem fine75 : Fine (10, 108) := Or.inl ⟨Tryz.f10, f_laws_eqWorld, Tryz.func10, by kernel_rfl, rfl⟩
theorem fine76 : Fine (176, 83) := Or.inl ⟨Tryz.f176, f_laws_eqWrite, Tryz.func176, by kernel_rfl, rfl⟩
theorem fine77 : Fine (126, 51) := Or.inl ⟨Tryz.f126, f_laws_eqWriteS, Tryz.func126, by kernel_rfl, rfl⟩
theorem fine78 : Fine (99, 46) := Or.inl ⟨Tryz.f99, f_laws_szAppliedS, Tryz.func99, by kernel_rfl, rfl⟩
theorem fine79 : Fine (93, 198) := Or.inl ⟨Tryz.f93, f_laws_szBucket, Tryz.func93, by kernel_rfl, rfl⟩
theorem fine80 : Fine (57, 163) := Or.inl ⟨Tryz.f57, f_laws_szBucketS, Tryz.func57, by kernel_rfl, rfl⟩
theorem fine81 : Fine (180, 251) := Or.inl ⟨Tryz.f180, f_laws_szByteS, Tryz.func180, by kernel_rfl, rfl⟩
theorem fine82 : Fine (212, 262) := Or.inl ⟨Tryz.f212, f_laws_szCache, Tryz.func212, by kernel_rfl, rfl⟩
theorem fine83 : Fine (178, 249) := Or.inl ⟨Tryz.f178, f_laws_szCacheS, Tryz.func178, by kernel_rfl, rfl⟩
theorem fine84 : Fine (133, 228) := Or.inl ⟨Tryz.f133, f_laws_szCacheSet, Tryz.func133, by kernel_rfl, rfl⟩
theorem fine85 : Fine (243, 277) := Or.inl ⟨Tryz.f243, f_laws_szCached, Tryz.func243, by kernel_rfl, rfl⟩
theorem fine86 : Fine (231, 271) := Or.inl ⟨Tryz.f231, f_laws_szCachedS, Tryz.func231, by kernel_rfl, rfl⟩
theorem fine87 : Fine (22, 130) := Or.inl ⟨Tryz.f22, f_laws_szChannel, Tryz.func22, by kernel_rfl, rfl⟩
theorem fine88 : Fine (179, 250) := Or.inl ⟨Tryz.f179, f_laws_szDatabase, Tryz.func179, by kernel_rfl, rfl⟩
theorem fine89 : Fine (134, 229) := Or.inl ⟨Tryz.f134, f_laws_szDisk, Tryz.func134, by kernel_rfl, rfl⟩
theorem fine90 : Fine (244, 87) := Or.inl ⟨Tryz.f244, f_laws_szField, Tryz.func244, by kernel_rfl, rfl⟩
theorem fine91 : Fine (233, 64) := Or.inl ⟨Tryz.f233, f_laws_szFieldS, Tryz.func233, by kernel_rfl, rfl⟩
theorem fine92 : Fine (232, 272) := Or.inl ⟨Tryz.f232, f_laws_szIndexDef, Tryz.func232, by kernel_rfl, rfl⟩
theorem fine93 : Fine (214, 263) := Or.inl ⟨Tryz.f214, f_laws_szIndexDefS, Tryz.func214, by kernel_rfl, rfl⟩
theorem fine94 : Fine (182, 92) := Or.inl ⟨Tryz.f182, f_laws_szInstr, Tryz.func182, by kernel_rfl, rfl⟩
theorem fine95 : Fine (137, 71) := Or.inl ⟨Tryz.f137, f_laws_szInstrS, Tryz.func137, by kernel_rfl, rfl⟩
theorem fine96 : Fine (138, 72) := Or.inl ⟨Tryz.f138, f_laws_szIntS, Tryz.func138, by kernel_rfl, rfl⟩
theorem fine97 : Fine (183, 5) := Or.inl ⟨Tryz.f183, f_laws_szItem, Tryz.func183, by kernel_rfl, rfl⟩
theorem fine98 : Fine (139, 52) := Or.inl ⟨Tryz.f139, f_laws_szItemS, Tryz.func139, by kernel_rfl, rfl⟩
theorem fine99 : Fine (184, 30) := Or.inl ⟨Tryz.f184, f_laws_szKey, Tryz.func184, by kernel_rfl, rfl⟩
theorem fine100 : Fine (136, 70) := Or.inl ⟨Tryz.f136, f_laws_szLoaded, Tryz.func136, by kernel_rfl, rfl⟩
theorem fine101 : Fine (94, 40) := Or.inl ⟨Tryz.f94, f_laws_szLoadedS, Tryz.func94, by kernel_rfl, rfl⟩
theorem fine102 : Fine (96, 199) := Or.inl ⟨Tryz.f96, f_laws_szLock, Tryz.func96, by kernel_rfl, rfl⟩
theorem fine103 : Fine (59, 164) := Or.inl ⟨Tryz.f59, f_laws_szLockS, Tryz.func59, by kernel_rfl, rfl⟩
theorem fine104 : Fine (21, 129) := Or.inl ⟨Tryz.f21, f_laws_szLockTable, Tryz.func21, by kernel_rfl, rfl⟩
theorem fine105 : Fine (95, 41) := Or.inl ⟨Tryz.f95, f_laws_szMachine, Tryz.func95, by kernel_rfl, rfl⟩
theorem fine106 : Fine (60, 165) := Or.inl ⟨Tryz.f60, f_laws_szMailS, Tryz.func60, by kernel_rfl, rfl⟩
theorem fine107 : Fine (215, 264) := Or.inl ⟨Tryz.f215, f_laws_szOutbox, Tryz.func215, by kernel_rfl, rfl⟩
theorem fine108 : Fine (58, 10) := Or.inl ⟨Tryz.f58, f_laws_szPage, Tryz.func58, by kernel_rfl, rfl⟩
theorem fine109 : Fine (20, 128) := Or.inl ⟨Tryz.f20, f_laws_szPageS, Tryz.func20, by kernel_rfl, rfl⟩
theorem fine110 : Fine (216, 31) := Or.inl ⟨Tryz.f216, f_laws_szRecord, Tryz.func216, by kernel_rfl, rfl⟩
theorem fine111 : Fine (132, 227) := Or.inl ⟨Tryz.f132, f_laws_szRegistration, Tryz.func132, by kernel_rfl, rfl⟩
theorem fine112 : Fine (135, 230) := Or.inl ⟨Tryz.f135, f_laws_szReplica, Tryz.func135, by kernel_rfl, rfl⟩
theorem fine113 : Fine (249, 280) := Or.inl ⟨Tryz.f249, f_laws_szResponse, Tryz.func249, by kernel_rfl, rfl⟩
theorem fine114 : Fine (62, 15) := Or.inl ⟨Tryz.f62, f_laws_szServer, Tryz.func62, by kernel_rfl, rfl⟩
theorem fine115 : Fine (24, 132) := Or.inl ⟨Tryz.f24, f_laws_szServerS, Tryz.func24, by kernel_rfl, rfl⟩
theorem fine116 : Fine (61, 166) := Or.inl ⟨Tryz.f61, f_laws_szSite, Tryz.func61, by kernel_rfl, rfl⟩
theorem fine117 : Fine (23, 131) := Or.inl ⟨Tryz.f23, f_laws_szSiteS, Tryz.func23, by kernel_rfl, rfl⟩
theorem fine118 : Fine (19, 127) := Or.inl ⟨Tryz.f19, f_laws_szStorage, Tryz.func19, by kernel_rfl, rfl⟩
theorem fine119 : Fine (98, 20) := Or.inl ⟨Tryz.f98, f_laws_szStore, Tryz.func98, by kernel_rfl, rfl⟩
theorem fine120 : Fine (213, 57) := Or.inl ⟨Tryz.f213, f_laws_szStoreS, Tryz.func213, by kernel_rfl, rfl⟩
theorem fine121 : Fine (97, 200) := Or.inl ⟨Tryz.f97, f_laws_szStringS, Tryz.func97, by kernel_rfl, rfl⟩
theorem fine122 : Fine (181, 252) := Or.inl ⟨Tryz.f181, f_laws_szSync, Tryz.func181, by kernel_rfl, rfl⟩
theorem fine123 : Fine (6, 104) := Or.inl ⟨Tryz.f6, f_laws_szWorld, Tryz.func6, by kernel_rfl, rfl⟩
theorem fine124 : Fine (140, 79) := Or.inl ⟨Tryz.f140, f_laws_szWrite, Tryz.func140, by kernel_rfl, rfl⟩
theorem fine125 : Fine (100, 47) := Or.inl ⟨Tryz.f100, f_laws_szWriteS, Tryz.func100, by kernel_rfl, rfl⟩
theorem fine126 : Fine (154, 80) := Or.inl ⟨Tryz.f154, f_laws_toApplied, Tryz.func154, by kernel_rfl, rfl⟩
theorem fine127 : Fine (112, 48) := Or.inl ⟨Tryz.f112, f_laws_toAppliedS, Tryz.func112, by kernel_rfl, rfl⟩
theorem fine128 : Fine (105, 201) := Or.inl ⟨Tryz.f105, f_laws_toBucket, Tryz.func105, by kernel_rfl, rfl⟩
theorem fine129 : Fine (67, 167) := Or.inl ⟨Tryz.f67, f_laws_toBucketS, Tryz.func67, by kernel_rfl, rfl⟩
theorem fine130 : Fine (190, 255) := Or.inl ⟨Tryz.f190, f_laws_toByteS, Tryz.func190, by kernel_rfl, rfl⟩
theorem fine131 : Fine (217, 265) := Or.inl ⟨Tryz.f217, f_laws_toCache, Tryz.func217, by kernel_rfl, rfl⟩
theorem fine132 : Fine (188, 253) := Or.inl ⟨Tryz.f188, f_laws_toCacheS, Tryz.func188, by kernel_rfl, rfl⟩
theorem fine133 : Fine (147, 232) := Or.inl ⟨Tryz.f147, f_laws_toCacheSet, Tryz.func147, by kernel_rfl, rfl⟩
theorem fine134 : Fine (245, 278) := Or.inl ⟨Tryz.f245, f_laws_toCached, Tryz.func245, by kernel_rfl, rfl⟩
theorem fine135 : Fine (234, 273) := Or.inl ⟨Tryz.f234, f_laws_toCachedS, Tryz.func234, by kernel_rfl, rfl⟩
theorem fine136 : Fine (32, 136) := Or.inl ⟨Tryz.f32, f_laws_toChannel, Tryz.func32, by kernel_rfl, rfl⟩
theorem fine137 : Fine (189, 254) := Or.inl ⟨Tryz.f189, f_laws_toDatabase, Tryz.func189, by kernel_rfl, rfl⟩
theorem fine138 : Fine (148, 233) := Or.inl ⟨Tryz.f148, f_laws_toDisk, Tryz.func148, by kernel_rfl, rfl⟩
theorem fine139 : Fine (246, 89) := Or.inl ⟨Tryz.f246, f_laws_toField, Tryz.func246, by kernel_rfl, rfl⟩
theorem fine140 : Fine (236, 66) := Or.inl ⟨Tryz.f236, f_laws_toFieldS, Tryz.func236, by kernel_rfl, rfl⟩
theorem fine141 : Fine (235, 274) := Or.inl ⟨Tryz.f235, f_laws_toIndexDef, Tryz.func235, by kernel_rfl, rfl⟩
theorem fine142 : Fine (219, 266) := Or.inl ⟨Tryz.f219, f_laws_toIndexDefS, Tryz.func219, by kernel_rfl, rfl⟩
theorem fine143 : Fine (192, 93) := Or.inl ⟨Tryz.f192, f_laws_toInstr, Tryz.func192, by kernel_rfl, rfl⟩
theorem fine144 : Fine (151, 74) := Or.inl ⟨Tryz.f151, f_laws_toInstrS, Tryz.func151, by kernel_rfl, rfl⟩
theorem fine145 : Fine (152, 75) := Or.inl ⟨Tryz.f152, f_laws_toIntS, Tryz.func152, by kernel_rfl, rfl⟩
theorem fine146 : Fine (193, 7) := Or.inl ⟨Tryz.f193, f_laws_toItem, Tryz.func193, by kernel_rfl, rfl⟩
theorem fine147 : Fine (153, 53) := Or.inl ⟨Tryz.f153, f_laws_toItemS, Tryz.func153, by kernel_rfl, rfl⟩
theorem fine148 : Fine (194, 34) := Or.inl ⟨Tryz.f194, f_laws_toKey, Tryz.func194, by kernel_rfl, rfl⟩
theorem fine149 : Fine (150, 73) := Or.inl ⟨Tryz.f150, f_laws_toLoaded, Tryz.func150, by kernel_rfl, rfl⟩
theorem fine150 : Fine (106, 42) := Or.inl ⟨Tryz.f106, f_laws_toLoadedS, Tryz.func106, by kernel_rfl, rfl⟩
theorem fine151 : Fine (108, 202) := Or.inl ⟨Tryz.f108, f_laws_toLock, Tryz.func108, by kernel_rfl, rfl⟩
theorem fine152 : Fine (69, 168) := Or.inl ⟨Tryz.f69, f_laws_toLockS, Tryz.func69, by kernel_rfl, rfl⟩
theorem fine153 : Fine (31, 135) := Or.inl ⟨Tryz.f31, f_laws_toLockTable, Tryz.func31, by kernel_rfl, rfl⟩
theorem fine154 : Fine (107, 43) := Or.inl ⟨Tryz.f107, f_laws_toMachine, Tryz.func107, by kernel_rfl, rfl⟩
theorem fine155 : Fine (109, 203) := Or.inl ⟨Tryz.f109, f_laws_toMail, Tryz.func109, by kernel_rfl, rfl⟩
theorem fine156 : Fine (70, 169) := Or.inl ⟨Tryz.f70, f_laws_toMailS, Tryz.func70, by kernel_rfl, rfl⟩
theorem fine157 : Fine (220, 267) := Or.inl ⟨Tryz.f220, f_laws_toOutbox, Tryz.func220, by kernel_rfl, rfl⟩
theorem fine158 : Fine (68, 12) := Or.inl ⟨Tryz.f68, f_laws_toPage, Tryz.func68, by kernel_rfl, rfl⟩
theorem fine159 : Fine (30, 134) := Or.inl ⟨Tryz.f30, f_laws_toPageS, Tryz.func30, by kernel_rfl, rfl⟩
theorem fine160 : Fine (221, 35) := Or.inl ⟨Tryz.f221, f_laws_toRecord, Tryz.func221, by kernel_rfl, rfl⟩
theorem fine161 : Fine (146, 231) := Or.inl ⟨Tryz.f146, f_laws_toRegistration, Tryz.func146, by kernel_rfl, rfl⟩
theorem fine162 : Fine (149, 234) := Or.inl ⟨Tryz.f149, f_laws_toReplica, Tryz.func149, by kernel_rfl, rfl⟩
theorem fine163 : Fine (250, 281) := Or.inl ⟨Tryz.f250, f_laws_toResponse, Tryz.func250, by kernel_rfl, rfl⟩
theorem fine164 : Fine (72, 17) := Or.inl ⟨Tryz.f72, f_laws_toServer, Tryz.func72, by kernel_rfl, rfl⟩
theorem fine165 : Fine (34, 138) := Or.inl ⟨Tryz.f34, f_laws_toServerS, Tryz.func34, by kernel_rfl, rfl⟩
theorem fine166 : Fine (71, 170) := Or.inl ⟨Tryz.f71, f_laws_toSite, Tryz.func71, by kernel_rfl, rfl⟩
theorem fine167 : Fine (33, 137) := Or.inl ⟨Tryz.f33, f_laws_toSiteS, Tryz.func33, by kernel_rfl, rfl⟩
theorem fine168 : Fine (29, 133) := Or.inl ⟨Tryz.f29, f_laws_toStorage, Tryz.func29, by kernel_rfl, rfl⟩
theorem fine169 : Fine (111, 22) := Or.inl ⟨Tryz.f111, f_laws_toStore, Tryz.func111, by kernel_rfl, rfl⟩
theorem fine170 : Fine (218, 60) := Or.inl ⟨Tryz.f218, f_laws_toStoreS, Tryz.func218, by kernel_rfl, rfl⟩
theorem fine171 : Fine (110, 204) := Or.inl ⟨Tryz.f110, f_laws_toStringS, Tryz.func110, by kernel_rfl, rfl⟩
theorem fine172 : Fine (191, 256) := Or.inl ⟨Tryz.f191, f_laws_toSync, Tryz.func191, by kernel_rfl, rfl⟩
theorem fine173 : Fine (8, 106) := Or.inl ⟨Tryz.f8, f_laws_toWorld, Tryz.func8, by kernel_rfl, rfl⟩
theorem fine174 : Fine (155, 81) := Or.inl ⟨Tryz.f155, f_laws_toWrite, Tryz.func155, by kernel_rfl, rfl⟩
theorem fine175 : Fine (113, 49) := Or.inl ⟨Tryz.f113, f_laws_toWriteS, Tryz.func113, by kernel_rfl, rfl⟩
theorem fine176 : Fine (74, 324) := Or.inl ⟨Tryz.f74, f_slices_EqualFunc_impl_Item_impl_Item_impl_Item_impl_Item, Tryz.func74, by kernel_rfl, rfl⟩
theorem fine177 : Fine (156, 352) := Or.inl ⟨Tryz.f156, f_slices_Equal_impl_Field_impl_Field, Tryz.func156, by kernel_rfl, rfl⟩
theorem fine178 : Fine (195, 240) := Or.inl ⟨Tryz.f195, f_slices_IndexFunc_impl_Field_impl_Field, Tryz.func195, by kernel_rfl, rfl⟩
theorem fine179 : Fine (158, 215) := Or.inl ⟨Tryz.f158, f_slices_IndexFunc_impl_Item_impl_Item, Tryz.func158, by kernel_rfl, rfl⟩
theorem fine180 : Fine (73, 182) := Or.inl ⟨Tryz.f73, f_slices_Index_string_string, Tryz.func73, by kernel_rfl, rfl⟩
theorem fine181 : Fine (161, 353) := Or.inr ⟨rfl, ⟨Tryz.f161, Tryz.func161, by kernel_rfl, by kernel_rfl⟩, fun xs r h => by unfold extF at h; split at h <;> first | (rename_i heq; cases heq; done) | cases h⟩
theorem fine182 : Fine (166, 356) := Or.inr ⟨rfl, ⟨Tryz.f166, Tryz.func166, by kernel_rfl, by kernel_rfl⟩, fun xs r h => by unfold extF at h; split at h <;> first | (rename_i heq; cases heq; done) | cases h⟩
theorem fine183 : Fine (145, 351) := Or.inl ⟨Tryz.f145, f_spec_CompareKeys, Tryz.func145, by kernel_rfl, rfl⟩
theorem fine184 : Fine (64, 322) := Or.inl ⟨Tryz.f64, f_spec_EqualRecords, Tryz.func64, by kernel_rfl, rfl⟩
theorem fine185 : Fine (27, 310) := Or.inl ⟨Tryz.f27, f_spec_EqualStores, Tryz.func27, by kernel_rfl, rfl⟩
theorem fine186 : Fine (102, 184) := Or.inl ⟨Tryz.f102, f_spec_FindItem, Tryz.func102, by kernel_rfl, rfl⟩
theorem fine187 : Fine (45, 314) := Or.inl ⟨Tryz.f45, f_spec_IsConfirmed, Tryz.func45, by kernel_rfl, rfl⟩
theorem fine188 : Fine (144, 65) := Or.inl ⟨Tryz.f144, f_spec_IsKey, Tryz.func144, by kernel_rfl, rfl⟩
theorem fine189 : Fine (185, 177) := Or.inl ⟨Tryz.f185, f_spec_IsName, Tryz.func185, by kernel_rfl, rfl⟩
theorem fine190 : Fine (142, 243) := Or.inl ⟨Tryz.f142, f_spec_IsRecord, Tryz.func142, by kernel_rfl, rfl⟩
theorem fine191 : Fine (11, 302) := Or.inl ⟨Tryz.f11, f_spec_IsSettled, Tryz.func11, by kernel_rfl, rfl⟩
theorem fine192 : Fine (143, 350) := Or.inl ⟨Tryz.f143, f_spec_IsStore, Tryz.func143, by kernel_rfl, rfl⟩
theorem fine193 : Fine (46, 308) := Or.inl ⟨Tryz.f46, f_spec_LocalStore, Tryz.func46, by kernel_rfl, rfl⟩
theorem fine194 : Fine (104, 339) := Or.inl ⟨Tryz.f104, f_spec_PutItem, Tryz.func104, by kernel_rfl, rfl⟩
theorem fine195 : Fine (47, 158) := Or.inl ⟨Tryz.f47, f_spec_ServerStore, Tryz.func47, by kernel_rfl, rfl⟩
theorem fine196 : Fine (103, 338) := Or.inl ⟨Tryz.f103, f_spec_SetField, Tryz.func103, by kernel_rfl, rfl⟩
theorem fine197 : Fine (66, 323) := Or.inl ⟨Tryz.f66, f_spec_SetItemField, Tryz.func66, by kernel_rfl, rfl⟩
theorem fine198 : Fine (25, 153) := Or.inl ⟨Tryz.f25, f_spec_SiteNumber, Tryz.func25, by kernel_rfl, rfl⟩
theorem fine199 : Fine (26, 58) := Or.inl ⟨Tryz.f26, f_spec_l1In, Tryz.func26, by kernel_rfl, rfl⟩
theorem fine200 : Fine (28, 311) := Or.inl ⟨Tryz.f28, f_spec_l23Apply, Tryz.func28, by kernel_rfl, rfl⟩
theorem fine201 : Fine (63, 181) := Or.inl ⟨Tryz.f63, f_spec_l29Names, Tryz.func63, by kernel_rfl, rfl⟩
theorem fine202 : Fine (187, 359) := Or.inl ⟨Tryz.f187, f_spec_l4Sign, Tryz.func187, by kernel_rfl, rfl⟩
theorem fine203 : Fine (186, 88) := Or.inl ⟨Tryz.f186, f_spec_l4Text, Tryz.func186, by kernel_rfl, rfl⟩
theorem fine204 : Fine (141, 239) := Or.inl ⟨Tryz.f141, f_spec_l5Copy, Tryz.func141, by kernel_rfl, rfl⟩
theorem fine205 : Fine (65, 187) := Or.inl ⟨Tryz.f65, f_spec_l6Copy, Tryz.func65, by kernel_rfl, rfl⟩
theorem fine206 : Fine (101, 214) := Or.inl ⟨Tryz.f101, f_spec_l6Item, Tryz.func101, by kernel_rfl, rfl⟩
theorem fine207 : Fine (202, 363) := Or.inr ⟨rfl, ⟨Tryz.f202, Tryz.func202, by kernel_rfl, by kernel_rfl⟩, cmp_sound⟩
set_option maxRecDepth 100000 in
theorem fines : ∀ p ∈ kp, Fine p :=
  List.forall_mem_cons.2 ⟨fine0, List.forall_mem_cons.2 ⟨fine1, List.forall_mem_cons.2 ⟨fine2, List.forall_mem_cons.2 ⟨fine3, List.forall_mem_cons.2 ⟨fine4, List.forall_mem_cons.2 ⟨fine5, List.forall_mem_cons.2 ⟨fine6, List.forall_mem_cons.2 ⟨fine7, List.forall_mem_cons.2 ⟨fine8, List.forall_mem_cons.2 ⟨fine9, List.forall_mem_cons.2 ⟨fine10, List.forall_mem_cons.2 ⟨fine11, List.forall_mem_cons.2 ⟨fine12, List.forall_mem_cons.2 ⟨fine13, List.forall_mem_cons.2 ⟨fine14, List.forall_mem_cons.2 ⟨fine15, List.forall_mem_cons.2 ⟨fine16, List.forall_mem_cons.2 ⟨fine17, List.forall_mem_cons.2 ⟨fine18, List.forall_mem_cons.2 ⟨fine19, List.forall_mem_cons.2 ⟨fine20, List.forall_mem_cons.2 ⟨fine21, List.forall_mem_cons.2 ⟨fine22, List.forall_mem_cons.2 ⟨fine23, List.forall_mem_cons.2 ⟨fine24, List.forall_mem_cons.2 ⟨fine25, List.forall_mem_cons.2 ⟨fine26, List.forall_mem_cons.2 ⟨fine27, List.forall_mem_cons.2 ⟨fine28, List.forall_mem_cons.2 ⟨fine29, List.forall_mem_cons.2 ⟨fine30, List.forall_mem_cons.2 ⟨fine31, List.forall_mem_cons.2 ⟨fine32, List.forall_mem_cons.2 ⟨fine33, List.forall_mem_cons.2 ⟨fine34, List.forall_mem_cons.2 ⟨fine35, List.forall_mem_cons.2 ⟨fine36, List.forall_mem_cons.2 ⟨fine37, List.forall_mem_cons.2 ⟨fine38, List.forall_mem_cons.2 ⟨fine39, List.forall_mem_cons.2 ⟨fine40, List.forall_mem_cons.2 ⟨fine41, List.forall_mem_cons.2 ⟨fine42, List.forall_mem_cons.2 ⟨fine43, List.forall_mem_cons.2 ⟨fine44, List.forall_mem_cons.2 ⟨fine45, List.forall_mem_cons.2 ⟨fine46, List.forall_mem_cons.2 ⟨fine47, List.forall_mem_cons.2 ⟨fine48, List.forall_mem_cons.2 ⟨fine49, List.forall_mem_cons.2 ⟨fine50, List.forall_mem_cons.2 ⟨fine51, List.forall_mem_cons.2 ⟨fine52, List.forall_mem_cons.2 ⟨fine53, List.forall_mem_cons.2 ⟨fine54, List.forall_mem_cons.2 ⟨fine55, List.forall_mem_cons.2 ⟨fine56, List.forall_mem_cons.2 ⟨fine57, List.forall_mem_cons.2 ⟨fine58, List.forall_mem_cons.2 ⟨fine59, List.forall_mem_cons.2 ⟨fine60, List.forall_mem_cons.2 ⟨fine61, List.forall_mem_cons.2 ⟨fine62, List.forall_mem_cons.2 ⟨fine63, List.forall_mem_cons.2 ⟨fine64, List.forall_mem_cons.2 ⟨fine65, List.forall_mem_cons.2 ⟨fine66, List.forall_mem_cons.2 ⟨fine67, List.forall_mem_cons.2 ⟨fine68, List.forall_mem_cons.2 ⟨fine69, List.forall_mem_cons.2 ⟨fine70, List.forall_mem_cons.2 ⟨fine71, List.forall_mem_cons.2 ⟨fine72, List.forall_mem_cons.2 ⟨fine73, List.forall_mem_cons.2 ⟨fine74, List.forall_mem_cons.2 ⟨fine75, List.forall_mem_cons.2 ⟨fine76, List.forall_mem_cons.2 ⟨fine77, List.forall_mem_cons.2 ⟨fine78, List.forall_mem_cons.2 ⟨fine79, List.forall_mem_cons.2 ⟨fine80, List.forall_mem_cons.2 ⟨fine81, List.forall_mem_cons.2 ⟨fine82, List.forall_mem_cons.2 ⟨fine83, List.forall_mem_cons.2 ⟨fine84, List.forall_mem_cons.2 ⟨fine85, List.forall_mem_cons.2 ⟨fine86, List.forall_mem_cons.2 ⟨fine87, List.forall_mem_cons.2 ⟨fine88, List.forall_mem_cons.2 ⟨fine89, List.forall_mem_cons.2 ⟨fine90, List.forall_mem_cons.2 ⟨fine91, List.forall_mem_cons.2 ⟨fine92, List.forall_mem_cons.2 ⟨fine93, List.forall_mem_cons.2 ⟨fine94, List.forall_mem_cons.2 ⟨fine95, List.forall_mem_cons.2 ⟨fine96, List.forall_mem_cons.2 ⟨fine97, List.forall_mem_cons.2 ⟨fine98, List.forall_mem_cons.2 ⟨fine99, List.forall_mem_cons.2 ⟨fine100, List.forall_mem_cons.2 ⟨fine101, List.forall_mem_cons.2 ⟨fine102, List.forall_mem_cons.2 ⟨fine103, List.forall_mem_cons.2 ⟨fine104, List.forall_mem_cons.2 ⟨fine105, List.forall_mem_cons.2 ⟨fine106, List.forall_mem_cons.2 ⟨fine107, List.forall_mem_cons.2 ⟨fine108, List.forall_mem_cons.2 ⟨fine109, List.forall_mem_cons.2 ⟨fine110, List.forall_mem_cons.2 ⟨fine111, List.forall_mem_cons.2 ⟨fine112, List.forall_mem_cons.2 ⟨fine113, List.forall_mem_cons.2 ⟨fine114, List.forall_mem_cons.2 ⟨fine115, List.forall_mem_cons.2 ⟨fine116, List.forall_mem_cons.2 ⟨fine117, List.forall_mem_cons.2 ⟨fine118, List.forall_mem_cons.2 ⟨fine119, List.forall_mem_cons.2 ⟨fine120, List.forall_mem_cons.2 ⟨fine121, List.forall_mem_cons.2 ⟨fine122, List.forall_mem_cons.2 ⟨fine123, List.forall_mem_cons.2 ⟨fine124, List.forall_mem_cons.2 ⟨fine125, List.forall_mem_cons.2 ⟨fine126, List.forall_mem_cons.2 ⟨fine127, List.forall_mem_cons.2 ⟨fine128, List.forall_mem_cons.2 ⟨fine129, List.forall_mem_cons.2 ⟨fine130, List.forall_mem_cons.2 ⟨fine131, List.forall_mem_cons.2 ⟨fine132, List.forall_mem_cons.2 ⟨fine133, List.forall_mem_cons.2 ⟨fine134, List.forall_mem_cons.2 ⟨fine135, List.forall_mem_cons.2 ⟨fine136, List.forall_mem_cons.2 ⟨fine137, List.forall_mem_cons.2 ⟨fine138, List.forall_mem_cons.2 ⟨fine139, List.forall_mem_cons.2 ⟨fine140, List.forall_mem_cons.2 ⟨fine141, List.forall_mem_cons.2 ⟨fine142, List.forall_mem_cons.2 ⟨fine143, List.forall_mem_cons.2 ⟨fine144, List.forall_mem_cons.2 ⟨fine145, List.forall_mem_cons.2 ⟨fine146, List.forall_mem_cons.2 ⟨fine147, List.forall_mem_cons.2 ⟨fine148, List.forall_mem_cons.2 ⟨fine149, List.forall_mem_cons.2 ⟨fine150, List.forall_mem_cons.2 ⟨fine151, List.forall_mem_cons.2 ⟨fine152, List.forall_mem_cons.2 ⟨fine153, List.forall_mem_cons.2 ⟨fine154, List.forall_mem_cons.2 ⟨fine155, List.forall_mem_cons.2 ⟨fine156, List.forall_mem_cons.2 ⟨fine157, List.forall_mem_cons.2 ⟨fine158, List.forall_mem_cons.2 ⟨fine159, List.forall_mem_cons.2 ⟨fine160, List.forall_mem_cons.2 ⟨fine161, List.forall_mem_cons.2 ⟨fine162, List.forall_mem_cons.2 ⟨fine163, List.forall_mem_cons.2 ⟨fine164, List.forall_mem_cons.2 ⟨fine165, List.forall_mem_cons.2 ⟨fine166, List.forall_mem_cons.2 ⟨fine167, List.forall_mem_cons.2 ⟨fine168, List.forall_mem_cons.2 ⟨fine169, List.forall_mem_cons.2 ⟨fine170, List.forall_mem_cons.2 ⟨fine171, List.forall_mem_cons.2 ⟨fine172, List.forall_mem_cons.2 ⟨fine173, List.forall_mem_cons.2 ⟨fine174, List.forall_mem_cons.2 ⟨fine175, List.forall_mem_cons.2 ⟨fine176, List.forall_mem_cons.2 ⟨fine177, List.forall_mem_cons.2 ⟨fine178, List.forall_mem_cons.2 ⟨fine179, List.forall_mem_cons.2 ⟨fine180, List.forall_mem_cons.2 ⟨fine181, List.forall_mem_cons.2 ⟨fine182, List.forall_mem_cons.2 ⟨fine183, List.forall_mem_cons.2 ⟨fine184, List.forall_mem_cons.2 ⟨fine185, List.forall_mem_cons.2 ⟨fine186, List.forall_mem_cons.2 ⟨fine187, List.forall_mem_cons.2 ⟨fine188, List.forall_mem_cons.2 ⟨fine189, List.forall_mem_cons.2 ⟨fine190, List.forall_mem_cons.2 ⟨fine191, List.forall_mem_cons.2 ⟨fine192, List.forall_mem_cons.2 ⟨fine193, List.forall_mem_cons.2 ⟨fine194, List.forall_mem_cons.2 ⟨fine195, List.forall_mem_cons.2 ⟨fine196, List.forall_mem_cons.2 ⟨fine197, List.forall_mem_cons.2 ⟨fine198, List.forall_mem_cons.2 ⟨fine199, List.forall_mem_cons.2 ⟨fine200, List.forall_mem_cons.2 ⟨fine201, List.forall_mem_cons.2 ⟨fine202, List.forall_mem_cons.2 ⟨fine203, List.forall_mem_cons.2 ⟨fine204, List.forall_mem_cons.2 ⟨fine205, List.forall_mem_cons.2 ⟨fine206, List.forall_mem_cons.2 ⟨fine207, fun _ h => by cases h⟩⟩⟩⟩⟩⟩⟩⟩⟩⟩⟩⟩⟩⟩⟩⟩⟩⟩⟩⟩⟩⟩⟩⟩⟩⟩⟩⟩⟩⟩⟩⟩⟩⟩⟩⟩⟩⟩⟩⟩⟩⟩⟩⟩⟩⟩⟩⟩⟩⟩⟩⟩⟩⟩⟩⟩⟩⟩⟩⟩⟩⟩⟩⟩⟩⟩⟩⟩⟩⟩⟩⟩⟩⟩⟩⟩⟩⟩⟩⟩⟩⟩⟩⟩⟩⟩⟩⟩⟩⟩⟩⟩⟩⟩⟩⟩⟩⟩⟩⟩⟩⟩⟩⟩⟩⟩⟩⟩⟩⟩⟩⟩⟩⟩⟩⟩⟩⟩⟩⟩⟩⟩⟩⟩⟩⟩⟩⟩⟩⟩⟩⟩⟩⟩⟩⟩⟩⟩⟩⟩⟩⟩⟩⟩⟩⟩⟩⟩⟩⟩⟩⟩⟩⟩⟩⟩⟩⟩⟩⟩⟩⟩⟩⟩⟩⟩⟩⟩⟩⟩⟩⟩⟩⟩⟩⟩⟩⟩⟩⟩⟩⟩⟩⟩⟩⟩⟩⟩⟩⟩⟩⟩⟩⟩⟩⟩⟩⟩⟩⟩⟩⟩⟩⟩⟩⟩⟩⟩
theorem mixed : Tryz.prog.follows .mixedOrders = true := by kernel_rfl
theorem insOnly : kp.all (fun p => match Tryz.prog.funcs[p.1]? with | some fn => !(fn.origin == "slices.Insert") || p.1 == 161 || p.1 == 166 | none => true) = true := by kernel_rfl
theorem ins : ∀ f k fn t e z b, Gi.kf f = some k → Tryz.prog.funcs[f]? = some fn → fn.origin = "slices.Insert" → fn.params.toList.head? = some t → elemT Tryz.prog t = some e → szT Tryz.prog e = some z → byT Tryz.prog e = some b → InsOK Tryz.prog f z b := by
  intro f k fn t e z b hk hfn horg hpar he hz hb
  have h1 := List.all_eq_true.1 insOnly (f, k) (kp_mem (l := kp) (f := f) (k := k) hk)
  simp only [hfn, horg, beq_self_eq_true, Bool.not_true, Bool.false_or, Bool.or_eq_true, beq_iff_eq] at h1
  rcases h1 with rfl | rfl
  · rw [Tryz.func161] at hfn
    cases hfn
    obtain rfl : 145 = t := by simpa using hpar
    rw [show elemT Tryz.prog 145 = some 215 by kernel_rfl] at he
    cases he
    rw [show szT Tryz.prog 215 = some 2 by kernel_rfl] at hz
    rw [show byT Tryz.prog 215 = some 24 by kernel_rfl] at hb
    cases hz
    cases hb
    exact insField
  · rw [Tryz.func166] at hfn
    cases hfn
    obtain rfl : 79 = t := by simpa using hpar
    rw [show elemT Tryz.prog 79 = some 149 by kernel_rfl] at he
    cases he
    rw [show szT Tryz.prog 149 = some 4 by kernel_rfl] at hz
    rw [show byT Tryz.prog 149 = some 56 by kernel_rfl] at hb
    cases hz
    cases hb
    exact insItem
theorem impl : Impl Gm Tryz.prog Gi.kf Ph extF := ⟨rfl, mixed, fun f k h => fines (f, k) (kp_mem (l := kp) (f := f) (k := k) h), ins⟩
end Go.Proofs.YtldmjoillnhebaaGreat
