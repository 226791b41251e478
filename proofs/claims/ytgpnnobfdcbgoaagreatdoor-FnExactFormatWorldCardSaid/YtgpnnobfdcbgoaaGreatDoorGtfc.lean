/- The functions of this translation are those of the table: each by one closed fact of the kernel. Written by program. -/
import Derived.Test.YtgpnnobfdcbgoaaGreatDoorGtc
import Derived.Test.YtgpnnobfdcbgoaaGreatDoorShelf
import Derived.Test.YtgpnnobfdcbgoaaGreatDoorRows
import Derived.Lib.LaidTab
import Derived.Stop.LaidErr
import Derived.WalkSmall
import Derived.KernelRfl
namespace Go.Proofs.YtgpnnobfdcbgoaaGreatDoor
open Go Go.RowKit Gi
set_option linter.unusedVariables false
set_option linter.unusedSimpArgs false
def kp : List (Nat × Nat) := [(150, 248), (149, 247), (109, 225), (110, 226), (8, 286), (25, 37), (13, 288), (181, 61), (147, 67), (183, 178), (148, 246), (85, 291), (44, 290), (65, 195), (108, 224), (66, 196), (67, 197), (107, 223), (26, 162), (184, 261), (182, 90), (200, 213), (3, 283), (4, 284), (166, 82), (134, 50), (9, 205), (86, 171), (70, 259), (111, 268), (68, 257), (28, 236), (185, 279), (151, 275), (48, 142), (69, 258), (29, 237), (207, 91), (202, 69), (152, 276), (113, 269), (190, 94), (164, 77), (165, 78), (153, 9), (114, 55), (186, 38), (163, 76), (129, 44), (131, 206), (88, 172), (47, 141), (130, 45), (132, 207), (89, 173), (115, 270), (87, 14), (46, 140), (187, 39), (27, 235), (30, 238), (201, 282), (91, 19), (50, 144), (90, 174), (49, 143), (45, 139), (71, 24), (112, 63), (133, 208), (72, 260), (14, 108), (167, 83), (135, 51), (120, 46), (5, 198), (73, 163), (53, 251), (92, 262), (51, 249), (16, 228), (168, 277), (136, 271), (34, 130), (52, 250), (17, 229), (203, 87), (192, 64), (137, 272), (94, 263), (188, 92), (155, 71), (156, 72), (138, 5), (95, 52), (169, 30), (154, 70), (116, 40), (118, 199), (75, 164), (33, 129), (117, 41), (76, 165), (96, 264), (74, 10), (32, 128), (170, 31), (15, 227), (18, 230), (191, 280), (78, 15), (36, 132), (77, 166), (35, 131), (31, 127), (54, 20), (93, 57), (119, 200), (55, 252), (10, 104), (157, 79), (121, 47), (161, 80), (127, 48), (7, 201), (79, 167), (61, 255), (101, 265), (59, 253), (22, 232), (174, 278), (143, 273), (41, 136), (60, 254), (23, 233), (204, 89), (194, 66), (144, 274), (103, 266), (189, 93), (159, 74), (160, 75), (145, 7), (104, 53), (175, 34), (158, 73), (122, 42), (124, 202), (81, 168), (40, 135), (123, 43), (125, 203), (82, 169), (105, 267), (80, 12), (39, 134), (176, 35), (21, 231), (24, 234), (193, 281), (84, 17), (43, 138), (83, 170), (42, 137), (38, 133), (62, 22), (102, 60), (126, 204), (63, 256), (12, 106), (162, 81), (128, 49), (142, 245), (141, 244), (99, 221), (100, 222), (6, 285), (19, 33), (11, 287), (139, 65), (173, 177), (140, 243), (37, 289), (56, 192), (98, 220), (57, 193), (58, 194), (97, 219), (20, 161), (171, 58), (172, 88), (64, 68)]
def kfS (f : Nat) : Option Nat := kp.lookup f
instance kfI : KF := ⟨kfS⟩
theorem kp_mem : ∀ {l : List (Nat × Nat)} {f k : Nat}, l.lookup f = some k → (f, k) ∈ l
  | [], _, _, h => by simp at h
  | (a, b) :: l, f, k, h => by
    rw [List.lookup_cons] at h
    split at h
    · rename_i he
      cases h
      rw [show f = a by simpa using he]
      exact List.mem_cons_self
    · exact List.mem_cons_of_mem _ (kp_mem h)

/-- the table of powers of ten, which strconv.Itoa reads -/
def tabs (w : World) : Prop := Lib.TabIs Tryz.prog w "internal/strconv.uint64pow10" .u64 Lib.pow10Tab
theorem gPow : Tryz.prog.globalNamed "internal/strconv.uint64pow10" = some 0 := by kernel_rfl
theorem tabs_keep (w w' : World) (h : tabs w) (hb : Below (0 + 1) w w') : tabs w' := by
  unfold tabs Lib.TabIs World.var? at *
  rw [gPow] at h ⊢
  simp only [Option.bind_some] at h ⊢
  rw [hb.block _ (Nat.lt_succ_self _)]
  exact h
theorem tabs_size (w : World) (h : tabs w) : 0 + 1 ≤ w.heap.size := by
  unfold tabs Lib.TabIs World.var? at h
  rw [gPow] at h
  simp only [Option.bind_some] at h
  rcases Nat.lt_or_ge 0 w.heap.size with h' | h'
  · exact h'
  · rw [Array.getElem?_eq_none h'] at h
    simp at h
def Gm : Ctx := ⟨tabs, 0 + 1, tabs_keep, tabs_size⟩

theorem below_new (w : World) (k : Nat) (os : Array Obj) : Below w.heap.size w (Go.Sort.grow (w.drewN k) os) :=
  (below_drewN (Below.refl _ _) k).trans ⟨rfl, rfl, rfl, by simp [Go.Sort.grow], fun b hb => by
    simp only [Go.Sort.grow]
    exact Array.getElem?_append_left hb⟩

theorem itoa_sound : ∀ xs r, extF 68 xs = some r → Sound Gm Tryz.prog 64 xs r := by
  intro xs r h
  unfold extF at h
  split at h
  · rename_i n _
    split at h
    · rename_i hn
      cases h
      refine ⟨rfl, fun M0 w vals hG hM ha => ?_⟩
      obtain ⟨hl, hv⟩ := ha
      obtain ⟨v, hvs⟩ : ∃ v, vals.toList = [v] := List.length_eq_one_iff.1 hl.symm
      have h0 : VR M0 w [] [] (vint .i64 n) v := hv 0 _ v rfl (by rw [hvs]; rfl)
      have hvn : v = .int .i64 n := by simpa [VR, LR, Reads] using h0
      obtain rfl : vals = #[.int .i64 n] := by cases vals; simp_all
      refine (Tryz.strconv_Itoa n hn.1 hn.2 w hG).mono fun e w' ⟨he, k, os, hw'⟩ => ?_
      subst hw'
      refine ⟨_, he, below_new w k os, [], ?_, ?_⟩
      · exact ⟨rfl, hM, (below_new w k os).size, fun i x q hi hq => by simp [thaw, thawL] at hi, fun i i' x x' b h1 => by simp [thaw, thawL] at h1⟩
      · simp [thaw, thawL, VR, LR, Reads]
    · cases h
  · rename_i heq; cases heq
  · cases h

def Fine (p : Nat × Nat) : Prop := (∃ fn af, Tryz.prog.funcs[p.1]? = some fn ∧ cFn Tryz.prog Gi.kf fn = some af ∧ Ph p.2 = some af) ∨
    (Ph p.2 = none ∧ (∃ fn, Tryz.prog.funcs[p.1]? = some fn ∧ fn.body.isNone = false ∧ (fn.name == "runtime.NumGoroutine") = false) ∧ ∀ xs r, extF p.2 xs = some r → Sound Gm Tryz.prog p.1 xs r)
theorem fine0 : Fine (150, 248) := Or.inl ⟨Tryz.f150, f_impl_AppendBytes, Tryz.func150, by kernel_rfl, rfl⟩
theorem fine1 : Fine (149, 247) := Or.inl ⟨Tryz.f149, f_impl_AppendUvarint, Tryz.func149, by kernel_rfl, rfl⟩
theorem fine2 : Fine (109, 225) := Or.inl ⟨Tryz.f109, f_impl_EncodeKey, Tryz.func109, by kernel_rfl, rfl⟩
theorem fine3 : Fine (110, 226) := Or.inl ⟨Tryz.f110, f_impl_EncodeRecord, Tryz.func110, by kernel_rfl, rfl⟩
theorem fine4 : Fine (8, 286) := Or.inl ⟨Tryz.f8, f_impl_FormatBucket, Tryz.func8, by kernel_rfl, rfl⟩
theorem fine5 : Fine (25, 37) := Or.inl ⟨Tryz.f25, f_impl_FormatInt, Tryz.func25, by kernel_rfl, rfl⟩
theorem fine6 : Fine (13, 288) := Or.inl ⟨Tryz.f13, f_impl_FormatWorld, Tryz.func13, by kernel_rfl, rfl⟩
theorem fine7 : Fine (181, 61) := Or.inl ⟨Tryz.f181, f_impl_InRange, Tryz.func181, by kernel_rfl, rfl⟩
theorem fine8 : Fine (147, 67) := Or.inl ⟨Tryz.f147, f_impl_IsKey, Tryz.func147, by kernel_rfl, rfl⟩
theorem fine9 : Fine (183, 178) := Or.inl ⟨Tryz.f183, f_impl_IsName, Tryz.func183, by kernel_rfl, rfl⟩
theorem fine10 : Fine (148, 246) := Or.inl ⟨Tryz.f148, f_impl_IsRecord, Tryz.func148, by kernel_rfl, rfl⟩
theorem fine11 : Fine (85, 291) := Or.inl ⟨Tryz.f85, f_impl_PendingCount, Tryz.func85, by kernel_rfl, rfl⟩
theorem fine12 : Fine (44, 290) := Or.inl ⟨Tryz.f44, f_impl_PendingWrites, Tryz.func44, by kernel_rfl, rfl⟩
theorem fine13 : Fine (65, 195) := Or.inl ⟨Tryz.f65, f_impl_SizeCaches, Tryz.func65, by kernel_rfl, rfl⟩
theorem fine14 : Fine (108, 224) := Or.inl ⟨Tryz.f108, f_impl_SizeDatabase, Tryz.func108, by kernel_rfl, rfl⟩
theorem fine15 : Fine (66, 196) := Or.inl ⟨Tryz.f66, f_impl_SizeDisk, Tryz.func66, by kernel_rfl, rfl⟩
theorem fine16 : Fine (67, 197) := Or.inl ⟨Tryz.f67, f_impl_SizeStore, Tryz.func67, by kernel_rfl, rfl⟩
theorem fine17 : Fine (107, 223) := Or.inl ⟨Tryz.f107, f_impl_StoredSize, Tryz.func107, by kernel_rfl, rfl⟩
theorem fine18 : Fine (26, 162) := Or.inl ⟨Tryz.f26, f_impl_UsageOf, Tryz.func26, by kernel_rfl, rfl⟩
theorem fine19 : Fine (184, 261) := Or.inl ⟨Tryz.f184, f_impl_copyBytes, Tryz.func184, by kernel_rfl, rfl⟩
theorem fine20 : Fine (182, 90) := Or.inl ⟨Tryz.f182, f_impl_isKeyText, Tryz.func182, by kernel_rfl, rfl⟩
theorem fine21 : Fine (200, 213) := Or.inl ⟨Tryz.f200, f_impl_isWord, Tryz.func200, by kernel_rfl, rfl⟩
theorem fine22 : Fine (3, 283) := Or.inl ⟨Tryz.f3, f_laws_FnExactFormatBucket, Tryz.func3, by kernel_rfl, rfl⟩
theorem fine23 : Fine (4, 284) := Or.inl ⟨Tryz.f4, f_laws_FnExactFormatWorld, Tryz.func4, by kernel_rfl, rfl⟩
theorem fine24 : Fine (166, 82) := Or.inl ⟨Tryz.f166, f_laws_eqApplied, Tryz.func166, by kernel_rfl, rfl⟩
theorem fine25 : Fine (134, 50) := Or.inl ⟨Tryz.f134, f_laws_eqAppliedS, Tryz.func134, by kernel_rfl, rfl⟩
theorem fine26 : Fine (9, 205) := Or.inl ⟨Tryz.f9, f_laws_eqBucket, Tryz.func9, by kernel_rfl, rfl⟩
theorem fine27 : Fine (86, 171) := Or.inl ⟨Tryz.f86, f_laws_eqBucketS, Tryz.func86, by kernel_rfl, rfl⟩
theorem fine28 : Fine (70, 259) := Or.inl ⟨Tryz.f70, f_laws_eqByteS, Tryz.func70, by kernel_rfl, rfl⟩
theorem fine29 : Fine (111, 268) := Or.inl ⟨Tryz.f111, f_laws_eqCache, Tryz.func111, by kernel_rfl, rfl⟩
theorem fine30 : Fine (68, 257) := Or.inl ⟨Tryz.f68, f_laws_eqCacheS, Tryz.func68, by kernel_rfl, rfl⟩
theorem fine31 : Fine (28, 236) := Or.inl ⟨Tryz.f28, f_laws_eqCacheSet, Tryz.func28, by kernel_rfl, rfl⟩
theorem fine32 : Fine (185, 279) := Or.inl ⟨Tryz.f185, f_laws_eqCached, Tryz.func185, by kernel_rfl, rfl⟩
theorem fine33 : Fine (151, 275) := Or.inl ⟨Tryz.f151, f_laws_eqCachedS, Tryz.func151, by kernel_rfl, rfl⟩
theorem fine34 : Fine (48, 142) := Or.inl ⟨Tryz.f48, f_laws_eqChannel, Tryz.func48, by kernel_rfl, rfl⟩
theorem fine35 : Fine (69, 258) := Or.inl ⟨Tryz.f69, f_laws_eqDatabase, Tryz.func69, by kernel_rfl, rfl⟩
theorem fine36 : Fine (29, 237) := Or.inl ⟨Tryz.f29, f_laws_eqDisk, Tryz.func29, by kernel_rfl, rfl⟩
theorem fine37 : Fine (207, 91) := Or.inl ⟨Tryz.f207, f_laws_eqField, Tryz.func207, by kernel_rfl, rfl⟩
theorem fine38 : Fine (202, 69) := Or.inl ⟨Tryz.f202, f_laws_eqFieldS, Tryz.func202, by kernel_rfl, rfl⟩
theorem fine39 : Fine (152, 276) := Or.inl ⟨Tryz.f152, f_laws_eqIndexDef, Tryz.func152, by kernel_rfl, rfl⟩
theorem fine40 : Fine (113, 269) := Or.inl ⟨Tryz.f113, f_laws_eqIndexDefS, Tryz.func113, by kernel_rfl, rfl⟩
theorem fine41 : Fine (190, 94) := Or.inl ⟨Tryz.f190, f_laws_eqInstr, Tryz.func190, by kernel_rfl, rfl⟩
theorem fine42 : Fine (164, 77) := Or.inl ⟨Tryz.f164, f_laws_eqInstrS, Tryz.func164, by kernel_rfl, rfl⟩
theorem fine43 : Fine (165, 78) := Or.inl ⟨Tryz.f165, f_laws_eqIntS, Tryz.func165, by kernel_rfl, rfl⟩
theorem fine44 : Fine (153, 9) := Or.inl ⟨Tryz.f153, f_laws_eqItem, Tryz.func153, by kernel_rfl, rfl⟩
theorem fine45 : Fine (114, 55) := Or.inl ⟨Tryz.f114, f_laws_eqItemS, Tryz.func114, by kernel_rfl, rfl⟩
theorem fine46 : Fine (186, 38) := Or.inl ⟨Tryz.f186, f_laws_eqKey, Tryz.func186, by kernel_rfl, rfl⟩
theorem fine47 : Fine (163, 76) := Or.inl ⟨Tryz.f163, f_laws_eqLoaded, Tryz.func163, by kernel_rfl, rfl⟩
theorem fine48 : Fine (129, 44) := Or.inl ⟨Tryz.f129, f_laws_eqLoadedS, Tryz.func129, by kernel_rfl, rfl⟩
theorem fine49 : Fine (131, 206) := Or.inl ⟨Tryz.f131, f_laws_eqLock, Tryz.func131, by kernel_rfl, rfl⟩
theorem fine50 : Fine (88, 172) := Or.inl ⟨Tryz.f88, f_laws_eqLockS, Tryz.func88, by kernel_rfl, rfl⟩
theorem fine51 : Fine (47, 141) := Or.inl ⟨Tryz.f47, f_laws_eqLockTable, Tryz.func47, by kernel_rfl, rfl⟩
theorem fine52 : Fine (130, 45) := Or.inl ⟨Tryz.f130, f_laws_eqMachine, Tryz.func130, by kernel_rfl, rfl⟩
theorem fine53 : Fine (132, 207) := Or.inl ⟨Tryz.f132, f_laws_eqMail, Tryz.func132, by kernel_rfl, rfl⟩
theorem fine54 : Fine (89, 173) := Or.inl ⟨Tryz.f89, f_laws_eqMailS, Tryz.func89, by kernel_rfl, rfl⟩
theorem fine55 : Fine (115, 270) := Or.inl ⟨Tryz.f115, f_laws_eqOutbox, Tryz.func115, by kernel_rfl, rfl⟩
theorem fine56 : Fine (87, 14) := Or.inl ⟨Tryz.f87, f_laws_eqPage, Tryz.func87, by kernel_rfl, rfl⟩
theorem fine57 : Fine (46, 140) := Or.inl ⟨Tryz.f46, f_laws_eqPageS, Tryz.func46, by kernel_rfl, rfl⟩
theorem fine58 : Fine (187, 39) := Or.inl ⟨Tryz.f187, f_laws_eqRecord, Tryz.func187, by kernel_rfl, rfl⟩
theorem fine59 : Fine (27, 235) := Or.inl ⟨Tryz.f27, f_laws_eqRegistration, Tryz.func27, by kernel_rfl, rfl⟩
theorem fine60 : Fine (30, 238) := Or.inl ⟨Tryz.f30, f_laws_eqReplica, Tryz.func30, by kernel_rfl, rfl⟩
theorem fine61 : Fine (201, 282) := Or.inl ⟨Tryz.f201, f_laws_eqResponse, Tryz.func201, by kernel_rfl, rfl⟩
theorem fine62 : Fine (91, 19) := Or.inl ⟨Tryz.f91, f_laws_eqServer, Tryz.func91, by kernel_rfl, rfl⟩
theorem fine63 : Fine (50, 144) := Or.inl ⟨Tryz.f50, f_laws_eqServerS, Tryz.func50, by kernel_rfl, rfl⟩
theorem fine64 : Fine (90, 174) := Or.inl ⟨Tryz.f90, f_laws_eqSite, Tryz.func90, by kernel_rfl, rfl⟩
theorem fine65 : Fine (49, 143) := Or.inl ⟨Tryz.f49, f_laws_eqSiteS, Tryz.func49, by kernel_rfl, rfl⟩
theorem fine66 : Fine (45, 139) := Or.inl ⟨Tryz.f45, f_laws_eqStorage, Tryz.func45, by kernel_rfl, rfl⟩
theorem fine67 : Fine (71, 24) := Or.inl ⟨Tryz.f71, f_laws_eqStore, Tryz.func71, by kernel_rfl, rfl⟩
theorem fine68 : Fine (112, 63) := Or.inl ⟨Tryz.f112, f_laws_eqStoreS, Tryz.func112, by kernel_rfl, rfl⟩
theorem fine69 : Fine (133, 208) := Or.inl ⟨Tryz.f133, f_laws_eqStringS, Tryz.func133, by kernel_rfl, rfl⟩
theorem fine70 : Fine (72, 260) := Or.inl ⟨Tryz.f72, f_laws_eqSync, Tryz.func72, by kernel_rfl, rfl⟩
theorem fine71 : Fine (14, 108) := Or.inl ⟨Tryz.f14, f_laws_eqWorld, Tryz.func14, by kernel_rfl, rfl⟩
theorem fine72 : Fine (167, 83) := Or.inl ⟨Tryz.f167, f_laws_eqWrite, Tryz.func167, by kernel_rfl, rfl⟩
theorem fine73 : Fine (135, 51) := Or.inl ⟨Tryz.f135, f_laws_eqWriteS, Tryz.func135, by kernel_rfl, rfl⟩
theorem fine74 : Fine (120, 46) := Or.inl ⟨Tryz.f120, f_laws_szAppliedS, Tryz.func120, by kernel_rfl, rfl⟩
theorem fine75 : Fine (5, 198) := Or.inl ⟨Tryz.f5, f_laws_szBucket, Tryz.func5, by kernel_rfl, rfl⟩
theorem fine76 : Fine (73, 163) := Or.inl ⟨Tryz.f73, f_laws_szBucketS, Tryz.func73, by kernel_rfl, rfl⟩
theorem fine77 : Fine (53, 251) := Or.inl ⟨Tryz.f53, f_laws_szByteS, Tryz.func53, by kernel_rfl, rfl⟩
theorem fine78 : Fine (92, 262) := Or.inl ⟨Tryz.f92, f_laws_szCache, Tryz.func92, by kernel_rfl, rfl⟩
theorem fine79 : Fine (51, 249) := Or.inl ⟨Tryz.f51, f_laws_szCacheS, Tryz.func51, by kernel_rfl, rfl⟩
theorem fine80 : Fine (16, 228) := Or.inl ⟨Tryz.f16, f_laws_szCacheSet, Tryz.func16, by kernel_rfl, rfl⟩
theorem fine81 : Fine (168, 277) := Or.inl ⟨Tryz.f168, f_laws_szCached, Tryz.func168, by kernel_rfl, rfl⟩
theorem fine82 : Fine (136, 271) := Or.inl ⟨Tryz.f136, f_laws_szCachedS, Tryz.func136, by kernel_rfl, rfl⟩
theorem fine83 : Fine (34, 130) := Or.inl ⟨Tryz.f34, f_laws_szChannel, Tryz.func34, by kernel_rfl, rfl⟩
theorem fine84 : Fine (52, 250) := Or.inl ⟨Tryz.f52, f_laws_szDatabase, Tryz.func52, by kernel_rfl, rfl⟩
theorem fine85 : Fine (17, 229) := Or.inl ⟨Tryz.f17, f_laws_szDisk, Tryz.func17, by kernel_rfl, rfl⟩
theorem fine86 : Fine (203, 87) := Or.inl ⟨Tryz.f203, f_laws_szField, Tryz.func203, by kernel_rfl, rfl⟩
theorem fine87 : Fine (192, 64) := Or.inl ⟨Tryz.f192, f_laws_szFieldS, Tryz.func192, by kernel_rfl, rfl⟩
theorem fine88 : Fine (137, 272) := Or.inl ⟨Tryz.f137, f_laws_szIndexDef, Tryz.func137, by kernel_rfl, rfl⟩
theorem fine89 : Fine (94, 263) := Or.inl ⟨Tryz.f94, f_laws_szIndexDefS, Tryz.func94, by kernel_rfl, rfl⟩
theorem fine90 : Fine (188, 92) := Or.inl ⟨Tryz.f188, f_laws_szInstr, Tryz.func188, by kernel_rfl, rfl⟩
theorem fine91 : Fine (155, 71) := Or.inl ⟨Tryz.f155, f_laws_szInstrS, Tryz.func155, by kernel_rfl, rfl⟩
theorem fine92 : Fine (156, 72) := Or.inl ⟨Tryz.f156, f_laws_szIntS, Tryz.func156, by kernel_rfl, rfl⟩
theorem fine93 : Fine (138, 5) := Or.inl ⟨Tryz.f138, f_laws_szItem, Tryz.func138, by kernel_rfl, rfl⟩
theorem fine94 : Fine (95, 52) := Or.inl ⟨Tryz.f95, f_laws_szItemS, Tryz.func95, by kernel_rfl, rfl⟩
theorem fine95 : Fine (169, 30) := Or.inl ⟨Tryz.f169, f_laws_szKey, Tryz.func169, by kernel_rfl, rfl⟩
theorem fine96 : Fine (154, 70) := Or.inl ⟨Tryz.f154, f_laws_szLoaded, Tryz.func154, by kernel_rfl, rfl⟩
theorem fine97 : Fine (116, 40) := Or.inl ⟨Tryz.f116, f_laws_szLoadedS, Tryz.func116, by kernel_rfl, rfl⟩
theorem fine98 : Fine (118, 199) := Or.inl ⟨Tryz.f118, f_laws_szLock, Tryz.func118, by kernel_rfl, rfl⟩
theorem fine99 : Fine (75, 164) := Or.inl ⟨Tryz.f75, f_laws_szLockS, Tryz.func75, by kernel_rfl, rfl⟩
theorem fine100 : Fine (33, 129) := Or.inl ⟨Tryz.f33, f_laws_szLockTable, Tryz.func33, by kernel_rfl, rfl⟩
theorem fine101 : Fine (117, 41) := Or.inl ⟨Tryz.f117, f_laws_szMachine, Tryz.func117, by kernel_rfl, rfl⟩
theorem fine102 : Fine (76, 165) := Or.inl ⟨Tryz.f76, f_laws_szMailS, Tryz.func76, by kernel_rfl, rfl⟩
theorem fine103 : Fine (96, 264) := Or.inl ⟨Tryz.f96, f_laws_szOutbox, Tryz.func96, by kernel_rfl, rfl⟩
theorem fine104 : Fine (74, 10) := Or.inl ⟨Tryz.f74, f_laws_szPage, Tryz.func74, by kernel_rfl, rfl⟩
theorem fine105 : Fine (32, 128) := Or.inl ⟨Tryz.f32, f_laws_szPageS, Tryz.func32, by kernel_rfl, rfl⟩
theorem fine106 : Fine (170, 31) := Or.inl ⟨Tryz.f170, f_laws_szRecord, Tryz.func170, by kernel_rfl, rfl⟩
theorem fine107 : Fine (15, 227) := Or.inl ⟨Tryz.f15, f_laws_szRegistration, Tryz.func15, by kernel_rfl, rfl⟩
theorem fine108 : Fine (18, 230) := Or.inl ⟨Tryz.f18, f_laws_szReplica, Tryz.func18, by kernel_rfl, rfl⟩
theorem fine109 : Fine (191, 280) := Or.inl ⟨Tryz.f191, f_laws_szResponse, Tryz.func191, by kernel_rfl, rfl⟩
theorem fine110 : Fine (78, 15) := Or.inl ⟨Tryz.f78, f_laws_szServer, Tryz.func78, by kernel_rfl, rfl⟩
theorem fine111 : Fine (36, 132) := Or.inl ⟨Tryz.f36, f_laws_szServerS, Tryz.func36, by kernel_rfl, rfl⟩
theorem fine112 : Fine (77, 166) := Or.inl ⟨Tryz.f77, f_laws_szSite, Tryz.func77, by kernel_rfl, rfl⟩
theorem fine113 : Fine (35, 131) := Or.inl ⟨Tryz.f35, f_laws_szSiteS, Tryz.func35, by kernel_rfl, rfl⟩
theorem fine114 : Fine (31, 127) := Or.inl ⟨Tryz.f31, f_laws_szStorage, Tryz.func31, by kernel_rfl, rfl⟩
theorem fine115 : Fine (54, 20) := Or.inl ⟨Tryz.f54, f_laws_szStore, Tryz.func54, by kernel_rfl, rfl⟩
theorem fine116 : Fine (93, 57) := Or.inl ⟨Tryz.f93, f_laws_szStoreS, Tryz.func93, by kernel_rfl, rfl⟩
theorem fine117 : Fine (119, 200) := Or.inl ⟨Tryz.f119, f_laws_szStringS, Tryz.func119, by kernel_rfl, rfl⟩
theorem fine118 : Fine (55, 252) := Or.inl ⟨Tryz.f55, f_laws_szSync, Tryz.func55, by kernel_rfl, rfl⟩
theorem fine119 : Fine (10, 104) := Or.inl ⟨Tryz.f10, f_laws_szWorld, Tryz.func10, by kernel_rfl, rfl⟩
theorem fine120 : Fine (157, 79) := Or.inl ⟨Tryz.f157, f_laws_szWrite, Tryz.func157, by kernel_rfl, rfl⟩
theorem fine121 : Fine (121, 47) := Or.inl ⟨Tryz.f121, f_laws_szWriteS, Tryz.func121, by kernel_rfl, rfl⟩
theorem fine122 : Fine (161, 80) := Or.inl ⟨Tryz.f161, f_laws_toApplied, Tryz.func161, by kernel_rfl, rfl⟩
theorem fine123 : Fine (127, 48) := Or.inl ⟨Tryz.f127, f_laws_toAppliedS, Tryz.func127, by kernel_rfl, rfl⟩
theorem fine124 : Fine (7, 201) := Or.inl ⟨Tryz.f7, f_laws_toBucket, Tryz.func7, by kernel_rfl, rfl⟩
theorem fine125 : Fine (79, 167) := Or.inl ⟨Tryz.f79, f_laws_toBucketS, Tryz.func79, by kernel_rfl, rfl⟩
theorem fine126 : Fine (61, 255) := Or.inl ⟨Tryz.f61, f_laws_toByteS, Tryz.func61, by kernel_rfl, rfl⟩
theorem fine127 : Fine (101, 265) := Or.inl ⟨Tryz.f101, f_laws_toCache, Tryz.func101, by kernel_rfl, rfl⟩
theorem fine128 : Fine (59, 253) := Or.inl ⟨Tryz.f59, f_laws_toCacheS, Tryz.func59, by kernel_rfl, rfl⟩
theorem fine129 : Fine (22, 232) := Or.inl ⟨Tryz.f22, f_laws_toCacheSet, Tryz.func22, by kernel_rfl, rfl⟩
theorem fine130 : Fine (174, 278) := Or.inl ⟨Tryz.f174, f_laws_toCached, Tryz.func174, by kernel_rfl, rfl⟩
theorem fine131 : Fine (143, 273) := Or.inl ⟨Tryz.f143, f_laws_toCachedS, Tryz.func143, by kernel_rfl, rfl⟩
theorem fine132 : Fine (41, 136) := Or.inl ⟨Tryz.f41, f_laws_toChannel, Tryz.func41, by kernel_rfl, rfl⟩
theorem fine133 : Fine (60, 254) := Or.inl ⟨Tryz.f60, f_laws_toDatabase, Tryz.func60, by kernel_rfl, rfl⟩
theorem fine134 : Fine (23, 233) := Or.inl ⟨Tryz.f23, f_laws_toDisk, Tryz.func23, by kernel_rfl, rfl⟩
theorem fine135 : Fine (204, 89) := Or.inl ⟨Tryz.f204, f_laws_toField, Tryz.func204, by kernel_rfl, rfl⟩
theorem fine136 : Fine (194, 66) := Or.inl ⟨Tryz.f194, f_laws_toFieldS, Tryz.func194, by kernel_rfl, rfl⟩
theorem fine137 : Fine (144, 274) := Or.inl ⟨Tryz.f144, f_laws_toIndexDef, Tryz.func144, by kernel_rfl, rfl⟩
theorem fine138 : Fine (103, 266) := Or.inl ⟨Tryz.f103, f_laws_toIndexDefS, Tryz.func103, by kernel_rfl, rfl⟩
theorem fine139 : Fine (189, 93) := Or.inl ⟨Tryz.f189, f_laws_toInstr, Tryz.func189, by kernel_rfl, rfl⟩
theorem fine140 : Fine (159, 74) := Or.inl ⟨Tryz.f159, f_laws_toInstrS, Tryz.func159, by kernel_rfl, rfl⟩
theorem fine141 : Fine (160, 75) := Or.inl ⟨Tryz.f160, f_laws_toIntS, Tryz.func160, by kernel_rfl, rfl⟩
theorem fine142 : Fine (145, 7) := Or.inl ⟨Tryz.f145, f_laws_toItem, Tryz.func145, by kernel_rfl, rfl⟩
theorem fine143 : Fine (104, 53) := Or.inl ⟨Tryz.f104, f_laws_toItemS, Tryz.func104, by kernel_rfl, rfl⟩
theorem fine144 : Fine (175, 34) := Or.inl ⟨Tryz.f175, f_laws_toKey, Tryz.func175, by kernel_rfl, rfl⟩
theorem fine145 : Fine (158, 73) := Or.inl ⟨Tryz.f158, f_laws_toLoaded, Tryz.func158, by kernel_rfl, rfl⟩
theorem fine146 : Fine (122, 42) := Or.inl ⟨Tryz.f122, f_laws_toLoadedS, Tryz.func122, by kernel_rfl, rfl⟩
theorem fine147 : Fine (124, 202) := Or.inl ⟨Tryz.f124, f_laws_toLock, Tryz.func124, by kernel_rfl, rfl⟩
theorem fine148 : Fine (81, 168) := Or.inl ⟨Tryz.f81, f_laws_toLockS, Tryz.func81, by kernel_rfl, rfl⟩
theorem fine149 : Fine (40, 135) := Or.inl ⟨Tryz.f40, f_laws_toLockTable, Tryz.func40, by kernel_rfl, rfl⟩
theorem fine150 : Fine (123, 43) := Or.inl ⟨Tryz.f123, f_laws_toMachine, Tryz.func123, by kernel_rfl, rfl⟩
theorem fine151 : Fine (125, 203) := Or.inl ⟨Tryz.f125, f_laws_toMail, Tryz.func125, by kernel_rfl, rfl⟩
theorem fine152 : Fine (82, 169) := Or.inl ⟨Tryz.f82, f_laws_toMailS, Tryz.func82, by kernel_rfl, rfl⟩
theorem fine153 : Fine (105, 267) := Or.inl ⟨Tryz.f105, f_laws_toOutbox, Tryz.func105, by kernel_rfl, rfl⟩
theorem fine154 : Fine (80, 12) := Or.inl ⟨Tryz.f80, f_laws_toPage, Tryz.func80, by kernel_rfl, rfl⟩
theorem fine155 : Fine (39, 134) := Or.inl ⟨Tryz.f39, f_laws_toPageS, Tryz.func39, by kernel_rfl, rfl⟩
theorem fine156 : Fine (176, 35) := Or.inl ⟨Tryz.f176, f_laws_toRecord, Tryz.func176, by kernel_rfl, rfl⟩
theorem fine157 : Fine (21, 231) := Or.inl ⟨Tryz.f21, f_laws_toRegistration, Tryz.func21, by kernel_rfl, rfl⟩
theorem fine158 : Fine (24, 234) := Or.inl ⟨Tryz.f24, f_laws_toReplica, Tryz.func24, by kernel_rfl, rfl⟩
theorem fine159 : Fine (193, 281) := Or.inl ⟨Tryz.f193, f_laws_toResponse, Tryz.func193, by kernel_rfl, rfl⟩
theorem fine160 : Fine (84, 17) := Or.inl ⟨Tryz.f84, f_laws_toServer, Tryz.func84, by kernel_rfl, rfl⟩
theorem fine161 : Fine (43, 138) := Or.inl ⟨Tryz.f43, f_laws_toServerS, Tryz.func43, by kernel_rfl, rfl⟩
theorem fine162 : Fine (83, 170) := Or.inl ⟨Tryz.f83, f_laws_toSite, Tryz.func83, by kernel_rfl, rfl⟩
theorem fine163 : Fine (42, 137) := Or.inl ⟨Tryz.f42, f_laws_toSiteS, Tryz.func42, by kernel_rfl, rfl⟩
theorem fine164 : Fine (38, 133) := Or.inl ⟨Tryz.f38, f_laws_toStorage, Tryz.func38, by kernel_rfl, rfl⟩
theorem fine165 : Fine (62, 22) := Or.inl ⟨Tryz.f62, f_laws_toStore, Tryz.func62, by kernel_rfl, rfl⟩
theorem fine166 : Fine (102, 60) := Or.inl ⟨Tryz.f102, f_laws_toStoreS, Tryz.func102, by kernel_rfl, rfl⟩
theorem fine167 : Fine (126, 204) := Or.inl ⟨Tryz.f126, f_laws_toStringS, Tryz.func126, by kernel_rfl, rfl⟩
theorem fine168 : Fine (63, 256) := Or.inl ⟨Tryz.f63, f_laws_toSync, Tryz.func63, by kernel_rfl, rfl⟩
theorem fine169 : Fine (12, 106) := Or.inl ⟨Tryz.f12, f_laws_toWorld, Tryz.func12, by kernel_rfl, rfl⟩
theorem fine170 : Fine (162, 81) := Or.inl ⟨Tryz.f162, f_laws_toWrite, Tryz.func162, by kernel_rfl, rfl⟩
theorem fine171 : Fine (128, 49) := Or.inl ⟨Tryz.f128, f_laws_toWriteS, Tryz.func128, by kernel_rfl, rfl⟩
theorem fine172 : Fine (142, 245) := Or.inl ⟨Tryz.f142, f_spec_AppendBytes, Tryz.func142, by kernel_rfl, rfl⟩
theorem fine173 : Fine (141, 244) := Or.inl ⟨Tryz.f141, f_spec_AppendUvarint, Tryz.func141, by kernel_rfl, rfl⟩
theorem fine174 : Fine (99, 221) := Or.inl ⟨Tryz.f99, f_spec_EncodeKey, Tryz.func99, by kernel_rfl, rfl⟩
theorem fine175 : Fine (100, 222) := Or.inl ⟨Tryz.f100, f_spec_EncodeRecord, Tryz.func100, by kernel_rfl, rfl⟩
theorem fine176 : Fine (6, 285) := Or.inl ⟨Tryz.f6, f_spec_FormatBucket, Tryz.func6, by kernel_rfl, rfl⟩
theorem fine177 : Fine (19, 33) := Or.inl ⟨Tryz.f19, f_spec_FormatInt, Tryz.func19, by kernel_rfl, rfl⟩
theorem fine178 : Fine (11, 287) := Or.inl ⟨Tryz.f11, f_spec_FormatWorld, Tryz.func11, by kernel_rfl, rfl⟩
theorem fine179 : Fine (139, 65) := Or.inl ⟨Tryz.f139, f_spec_IsKey, Tryz.func139, by kernel_rfl, rfl⟩
theorem fine180 : Fine (173, 177) := Or.inl ⟨Tryz.f173, f_spec_IsName, Tryz.func173, by kernel_rfl, rfl⟩
theorem fine181 : Fine (140, 243) := Or.inl ⟨Tryz.f140, f_spec_IsRecord, Tryz.func140, by kernel_rfl, rfl⟩
theorem fine182 : Fine (37, 289) := Or.inl ⟨Tryz.f37, f_spec_PendingWrites, Tryz.func37, by kernel_rfl, rfl⟩
theorem fine183 : Fine (56, 192) := Or.inl ⟨Tryz.f56, f_spec_SizeCaches, Tryz.func56, by kernel_rfl, rfl⟩
theorem fine184 : Fine (98, 220) := Or.inl ⟨Tryz.f98, f_spec_SizeDatabase, Tryz.func98, by kernel_rfl, rfl⟩
theorem fine185 : Fine (57, 193) := Or.inl ⟨Tryz.f57, f_spec_SizeDisk, Tryz.func57, by kernel_rfl, rfl⟩
theorem fine186 : Fine (58, 194) := Or.inl ⟨Tryz.f58, f_spec_SizeStore, Tryz.func58, by kernel_rfl, rfl⟩
theorem fine187 : Fine (97, 219) := Or.inl ⟨Tryz.f97, f_spec_StoredSize, Tryz.func97, by kernel_rfl, rfl⟩
theorem fine188 : Fine (20, 161) := Or.inl ⟨Tryz.f20, f_spec_UsageOf, Tryz.func20, by kernel_rfl, rfl⟩
theorem fine189 : Fine (171, 58) := Or.inl ⟨Tryz.f171, f_spec_l1In, Tryz.func171, by kernel_rfl, rfl⟩
theorem fine190 : Fine (172, 88) := Or.inl ⟨Tryz.f172, f_spec_l4Text, Tryz.func172, by kernel_rfl, rfl⟩
theorem fine191 : Fine (64, 68) := Or.inr ⟨rfl, ⟨Tryz.f64, Tryz.func64, by kernel_rfl, by kernel_rfl⟩, itoa_sound⟩
set_option maxRecDepth 100000 in
theorem fines : ∀ p ∈ kp, Fine p :=
  List.forall_mem_cons.2 ⟨fine0, List.forall_mem_cons.2 ⟨fine1, List.forall_mem_cons.2 ⟨fine2, List.forall_mem_cons.2 ⟨fine3, List.forall_mem_cons.2 ⟨fine4, List.forall_mem_cons.2 ⟨fine5, List.forall_mem_cons.2 ⟨fine6, List.forall_mem_cons.2 ⟨fine7, List.forall_mem_cons.2 ⟨fine8, List.forall_mem_cons.2 ⟨fine9, List.forall_mem_cons.2 ⟨fine10, List.forall_mem_cons.2 ⟨fine11, List.forall_mem_cons.2 ⟨fine12, List.forall_mem_cons.2 ⟨fine13, List.forall_mem_cons.2 ⟨fine14, List.forall_mem_cons.2 ⟨fine15, List.forall_mem_cons.2 ⟨fine16, List.forall_mem_cons.2 ⟨fine17, List.forall_mem_cons.2 ⟨fine18, List.forall_mem_cons.2 ⟨fine19, List.forall_mem_cons.2 ⟨fine20, List.forall_mem_cons.2 ⟨fine21, List.forall_mem_cons.2 ⟨fine22, List.forall_mem_cons.2 ⟨fine23, List.forall_mem_cons.2 ⟨fine24, List.forall_mem_cons.2 ⟨fine25, List.forall_mem_cons.2 ⟨fine26, List.forall_mem_cons.2 ⟨fine27, List.forall_mem_cons.2 ⟨fine28, List.forall_mem_cons.2 ⟨fine29, List.forall_mem_cons.2 ⟨fine30, List.forall_mem_cons.2 ⟨fine31, List.forall_mem_cons.2 ⟨fine32, List.forall_mem_cons.2 ⟨fine33, List.forall_mem_cons.2 ⟨fine34, List.forall_mem_cons.2 ⟨fine35, List.forall_mem_cons.2 ⟨fine36, List.forall_mem_cons.2 ⟨fine37, List.forall_mem_cons.2 ⟨fine38, List.forall_mem_cons.2 ⟨fine39, List.forall_mem_cons.2 ⟨fine40, List.forall_mem_cons.2 ⟨fine41, List.forall_mem_cons.2 ⟨fine42, List.forall_mem_cons.2 ⟨fine43, List.forall_mem_cons.2 ⟨fine44, List.forall_mem_cons.2 ⟨fine45, List.forall_mem_cons.2 ⟨fine46, List.forall_mem_cons.2 ⟨fine47, List.forall_mem_cons.2 ⟨fine48, List.forall_mem_cons.2 ⟨fine49, List.forall_mem_cons.2 ⟨fine50, List.forall_mem_cons.2 ⟨fine51, List.forall_mem_cons.2 ⟨fine52, List.forall_mem_cons.2 ⟨fine53, List.forall_mem_cons.2 ⟨fine54, List.forall_mem_cons.2 ⟨fine55, List.forall_mem_cons.2 ⟨fine56, List.forall_mem_cons.2 ⟨fine57, List.forall_mem_cons.2 ⟨fine58, List.forall_mem_cons.2 ⟨fine59, List.forall_mem_cons.2 ⟨fine60, List.forall_mem_cons.2 ⟨fine61, List.forall_mem_cons.2 ⟨fine62, List.forall_mem_cons.2 ⟨fine63, List.forall_mem_cons.2 ⟨fine64, List.forall_mem_cons.2 ⟨fine65, List.forall_mem_cons.2 ⟨fine66, List.forall_mem_cons.2 ⟨fine67, List.forall_mem_cons.2 ⟨fine68, List.forall_mem_cons.2 ⟨fine69, List.forall_mem_cons.2 ⟨fine70, List.forall_mem_cons.2 ⟨fine71, List.forall_mem_cons.2 ⟨fine72, List.forall_mem_cons.2 ⟨fine73, List.forall_mem_cons.2 ⟨fine74, List.forall_mem_cons.2 ⟨fine75, List.forall_mem_cons.2 ⟨fine76, List.forall_mem_cons.2 ⟨fine77, List.forall_mem_cons.2 ⟨fine78, List.forall_mem_cons.2 ⟨fine79, List.forall_mem_cons.2 ⟨fine80, List.forall_mem_cons.2 ⟨fine81, List.forall_mem_cons.2 ⟨fine82, List.forall_mem_cons.2 ⟨fine83, List.forall_mem_cons.2 ⟨fine84, List.forall_mem_cons.2 ⟨fine85, List.forall_mem_cons.2 ⟨fine86, List.forall_mem_cons.2 ⟨fine87, List.forall_mem_cons.2 ⟨fine88, List.forall_mem_cons.2 ⟨fine89, List.forall_mem_cons.2 ⟨fine90, List.forall_mem_cons.2 ⟨fine91, List.forall_mem_cons.2 ⟨fine92, List.forall_mem_cons.2 ⟨fine93, List.forall_mem_cons.2 ⟨fine94, List.forall_mem_cons.2 ⟨fine95, List.forall_mem_cons.2 ⟨fine96, List.forall_mem_cons.2 ⟨fine97, List.forall_mem_cons.2 ⟨fine98, List.forall_mem_cons.2 ⟨fine99, List.forall_mem_cons.2 ⟨fine100, List.forall_mem_cons.2 ⟨fine101, List.forall_mem_cons.2 ⟨fine102, List.forall_mem_cons.2 ⟨fine103, List.forall_mem_cons.2 ⟨fine104, List.forall_mem_cons.2 ⟨fine105, List.forall_mem_cons.2 ⟨fine106, List.forall_mem_cons.2 ⟨fine107, List.forall_mem_cons.2 ⟨fine108, List.forall_mem_cons.2 ⟨fine109, List.forall_mem_cons.2 ⟨fine110, List.forall_mem_cons.2 ⟨fine111, List.forall_mem_cons.2 ⟨fine112, List.forall_mem_cons.2 ⟨fine113, List.forall_mem_cons.2 ⟨fine114, List.forall_mem_cons.2 ⟨fine115, List.forall_mem_cons.2 ⟨fine116, List.forall_mem_cons.2 ⟨fine117, List.forall_mem_cons.2 ⟨fine118, List.forall_mem_cons.2 ⟨fine119, List.forall_mem_cons.2 ⟨fine120, List.forall_mem_cons.2 ⟨fine121, List.forall_mem_cons.2 ⟨fine122, List.forall_mem_cons.2 ⟨fine123, List.forall_mem_cons.2 ⟨fine124, List.forall_mem_cons.2 ⟨fine125, List.forall_mem_cons.2 ⟨fine126, List.forall_mem_cons.2 ⟨fine127, List.forall_mem_cons.2 ⟨fine128, List.forall_mem_cons.2 ⟨fine129, List.forall_mem_cons.2 ⟨fine130, List.forall_mem_cons.2 ⟨fine131, List.forall_mem_cons.2 ⟨fine132, List.forall_mem_cons.2 ⟨fine133, List.forall_mem_cons.2 ⟨fine134, List.forall_mem_cons.2 ⟨fine135, List.forall_mem_cons.2 ⟨fine136, List.forall_mem_cons.2 ⟨fine137, List.forall_mem_cons.2 ⟨fine138, List.forall_mem_cons.2 ⟨fine139, List.forall_mem_cons.2 ⟨fine140, List.forall_mem_cons.2 ⟨fine141, List.forall_mem_cons.2 ⟨fine142, List.forall_mem_cons.2 ⟨fine143, List.forall_mem_cons.2 ⟨fine144, List.forall_mem_cons.2 ⟨fine145, List.forall_mem_cons.2 ⟨fine146, List.forall_mem_cons.2 ⟨fine147, List.forall_mem_cons.2 ⟨fine148, List.forall_mem_cons.2 ⟨fine149, List.forall_mem_cons.2 ⟨fine150, List.forall_mem_cons.2 ⟨fine151, List.forall_mem_cons.2 ⟨fine152, List.forall_mem_cons.2 ⟨fine153, List.forall_mem_cons.2 ⟨fine154, List.forall_mem_cons.2 ⟨fine155, List.forall_mem_cons.2 ⟨fine156, List.forall_mem_cons.2 ⟨fine157, List.forall_mem_cons.2 ⟨fine158, List.forall_mem_cons.2 ⟨fine159, List.forall_mem_cons.2 ⟨fine160, List.forall_mem_cons.2 ⟨fine161, List.forall_mem_cons.2 ⟨fine162, List.forall_mem_cons.2 ⟨fine163, List.forall_mem_cons.2 ⟨fine164, List.forall_mem_cons.2 ⟨fine165, List.forall_mem_cons.2 ⟨fine166, List.forall_mem_cons.2 ⟨fine167, List.forall_mem_cons.2 ⟨fine168, List.forall_mem_cons.2 ⟨fine169, List.forall_mem_cons.2 ⟨fine170, List.forall_mem_cons.2 ⟨fine171, List.forall_mem_cons.2 ⟨fine172, List.forall_mem_cons.2 ⟨fine173, List.forall_mem_cons.2 ⟨fine174, List.forall_mem_cons.2 ⟨fine175, List.forall_mem_cons.2 ⟨fine176, List.forall_mem_cons.2 ⟨fine177, List.forall_mem_cons.2 ⟨fine178, List.forall_mem_cons.2 ⟨fine179, List.forall_mem_cons.2 ⟨fine180, List.forall_mem_cons.2 ⟨fine181, List.forall_mem_cons.2 ⟨fine182, List.forall_mem_cons.2 ⟨fine183, List.forall_mem_cons.2 ⟨fine184, List.forall_mem_cons.2 ⟨fine185, List.forall_mem_cons.2 ⟨fine186, List.forall_mem_cons.2 ⟨fine187, List.forall_mem_cons.2 ⟨fine188, List.forall_mem_cons.2 ⟨fine189, List.forall_mem_cons.2 ⟨fine190, List.forall_mem_cons.2 ⟨fine191, fun _ h => by cases h⟩⟩⟩⟩⟩⟩⟩⟩⟩⟩⟩⟩⟩⟩⟩⟩⟩⟩⟩⟩⟩⟩⟩⟩⟩⟩⟩⟩⟩⟩⟩⟩⟩⟩⟩⟩⟩⟩⟩⟩⟩⟩⟩⟩⟩⟩⟩⟩⟩⟩⟩⟩⟩⟩⟩⟩⟩⟩⟩⟩⟩⟩⟩⟩⟩⟩⟩⟩⟩⟩⟩⟩⟩⟩⟩⟩⟩⟩⟩⟩⟩⟩⟩⟩⟩⟩⟩⟩⟩⟩⟩⟩⟩⟩⟩⟩⟩⟩⟩⟩⟩⟩⟩⟩⟩⟩⟩⟩⟩⟩⟩⟩⟩⟩⟩⟩⟩⟩⟩⟩⟩⟩⟩⟩⟩⟩⟩⟩⟩⟩⟩⟩⟩⟩⟩⟩⟩⟩⟩⟩⟩⟩⟩⟩⟩⟩⟩⟩⟩⟩⟩⟩⟩⟩⟩⟩⟩⟩⟩⟩⟩⟩⟩⟩⟩⟩⟩⟩⟩⟩⟩⟩⟩⟩⟩⟩⟩⟩⟩⟩⟩⟩⟩⟩⟩⟩⟩⟩⟩⟩⟩⟩
theorem mixed : Tryz.prog.follows .mixedOrders = true := by kernel_rfl
theorem impl : Impl Gm Tryz.prog Gi.kf Ph extF := ⟨mixed, fun f k h => fines (f, k) (kp_mem (l := kp) (f := f) (k := k) h)⟩
end Go.Proofs.YtgpnnobfdcbgoaaGreatDoor
