/- The functions of this translation are those of the table: each by one closed fact of the kernel. Written by program. -/
import Derived.Test.YthhkaabllddhdaaGreatGtc
import Derived.Test.YthhkaabllddhdaaGreatRows
import Derived.KernelRfl
namespace Go.Proofs.YthhkaabllddhdaaGreat
open Go Go.RowKit Gi
set_option linter.unusedVariables false
set_option linter.unusedSimpArgs false
def kp : List (Nat × Nat) := [(34, 148), (74, 176), (124, 212), (186, 82), (132, 50), (125, 205), (75, 171), (227, 259), (255, 268), (225, 257), (179, 236), (280, 279), (270, 275), (38, 142), (226, 258), (180, 237), (281, 91), (272, 69), (271, 276), (257, 269), (229, 94), (183, 77), (184, 78), (230, 9), (185, 55), (231, 38), (182, 76), (126, 44), (128, 206), (77, 172), (37, 141), (127, 45), (129, 207), (78, 173), (258, 270), (76, 14), (36, 140), (259, 39), (178, 235), (181, 238), (284, 282), (80, 19), (40, 144), (79, 174), (39, 143), (35, 139), (131, 24), (256, 63), (130, 208), (228, 260), (12, 108), (187, 83), (133, 51), (112, 46), (106, 198), (62, 163), (213, 251), (245, 262), (211, 249), (160, 228), (276, 277), (264, 271), (24, 130), (212, 250), (161, 229), (277, 87), (266, 64), (265, 272), (247, 263), (215, 92), (164, 71), (165, 72), (216, 5), (166, 52), (217, 30), (163, 70), (107, 40), (109, 199), (64, 164), (23, 129), (108, 41), (65, 165), (248, 264), (63, 10), (22, 128), (249, 31), (159, 227), (162, 230), (282, 280), (67, 15), (26, 132), (66, 166), (25, 131), (21, 127), (111, 20), (246, 57), (110, 200), (214, 252), (8, 104), (167, 79), (113, 47), (176, 80), (121, 48), (114, 201), (68, 167), (220, 255), (250, 265), (218, 253), (169, 232), (278, 278), (267, 273), (31, 136), (219, 254), (170, 233), (279, 89), (269, 66), (268, 274), (252, 266), (222, 93), (173, 74), (174, 75), (223, 7), (175, 53), (224, 34), (172, 73), (115, 42), (117, 202), (70, 168), (30, 135), (116, 43), (118, 203), (71, 169), (253, 267), (69, 12), (29, 134), (254, 35), (168, 231), (171, 234), (283, 281), (73, 17), (33, 138), (72, 170), (32, 137), (28, 133), (120, 22), (251, 60), (119, 204), (221, 256), (10, 106), (177, 81), (122, 49), (123, 211), (27, 147), (11, 116), (3, 98), (9, 115)]
def kfS (f : Nat) : Option Nat := kp.lookup f
noncomputable instance kfI : KF := ⟨kfS, Tryz.prog⟩
theorem kp_mem : ∀ {l : List (Nat × Nat)} {f k : Nat}, l.lookup f = some k → (f, k) ∈ l
  | [], _, _, h => by simp at h
  | (a, b) :: l, f, k, h => by
    rw [List.lookup_cons] at h
    split at h
    · rename_i he
      cases h
      rw [show f = a by simpa using he]
      exact List.mem_cons_self
    · exact List.mem_cons_of_mem _ (kp_mem h)
def Gm : Ctx := ⟨fun _ => True, 0, fun _ _ _ _ => trivial, fun _ _ => Nat.zero_le _⟩
def Fine (p : Nat × Nat) : Prop := ∃ fn af, Tryz.prog.funcs[p.1]? = some fn ∧ cFn Tryz.prog Gi.kf fn = some af ∧ Ph p.2 = some af
theorem fine0 : Fine (34, 148) := ⟨Tryz.f34, f_impl_LastSeq, Tryz.func34, by kernel_rfl, rfl⟩
theorem fine1 : Fine (74, 176) := ⟨Tryz.f74, f_impl_deviceAt, Tryz.func74, by kernel_rfl, rfl⟩
theorem fine2 : Fine (124, 212) := ⟨Tryz.f124, f_impl_deviceAt_1, Tryz.func124, by kernel_rfl, rfl⟩
theorem fine3 : Fine (186, 82) := ⟨Tryz.f186, f_laws_eqApplied, Tryz.func186, by kernel_rfl, rfl⟩
theorem fine4 : Fine (132, 50) := ⟨Tryz.f132, f_laws_eqAppliedS, Tryz.func132, by kernel_rfl, rfl⟩
theorem fine5 : Fine (125, 205) := ⟨Tryz.f125, f_laws_eqBucket, Tryz.func125, by kernel_rfl, rfl⟩
theorem fine6 : Fine (75, 171) := ⟨Tryz.f75, f_laws_eqBucketS, Tryz.func75, by kernel_rfl, rfl⟩
theorem fine7 : Fine (227, 259) := ⟨Tryz.f227, f_laws_eqByteS, Tryz.func227, by kernel_rfl, rfl⟩
theorem fine8 : Fine (255, 268) := ⟨Tryz.f255, f_laws_eqCache, Tryz.func255, by kernel_rfl, rfl⟩
theorem fine9 : Fine (225, 257) := ⟨Tryz.f225, f_laws_eqCacheS, Tryz.func225, by kernel_rfl, rfl⟩
theorem fine10 : Fine (179, 236) := ⟨Tryz.f179, f_laws_eqCacheSet, Tryz.func179, by kernel_rfl, rfl⟩
theorem fine11 : Fine (280, 279) := ⟨Tryz.f280, f_laws_eqCached, Tryz.func280, by kernel_rfl, rfl⟩
theorem fine12 : Fine (270, 275) := ⟨Tryz.f270, f_laws_eqCachedS, Tryz.func270, by kernel_rfl, rfl⟩
theorem fine13 : Fine (38, 142) := ⟨Tryz.f38, f_laws_eqChannel, Tryz.func38, by kernel_rfl, rfl⟩
theorem fine14 : Fine (226, 258) := ⟨Tryz.f226, f_laws_eqDatabase, Tryz.func226, by kernel_rfl, rfl⟩
theorem fine15 : Fine (180, 237) := ⟨Tryz.f180, f_laws_eqDisk, Tryz.func180, by kernel_rfl, rfl⟩
theorem fine16 : Fine (281, 91) := ⟨Tryz.f281, f_laws_eqField, Tryz.func281, by kernel_rfl, rfl⟩
theorem fine17 : Fine (272, 69) := ⟨Tryz.f272, f_laws_eqFieldS, Tryz.func272, by kernel_rfl, rfl⟩
theorem fine18 : Fine (271, 276) := ⟨Tryz.f271, f_laws_eqIndexDef, Tryz.func271, by kernel_rfl, rfl⟩
theorem fine19 : Fine (257, 269) := ⟨Tryz.f257, f_laws_eqIndexDefS, Tryz.func257, by kernel_rfl, rfl⟩
theorem fine20 : Fine (229, 94) := ⟨Tryz.f229, f_laws_eqInstr, Tryz.func229, by kernel_rfl, rfl⟩
theorem fine21 : Fine (183, 77) := ⟨Tryz.f183, f_laws_eqInstrS, Tryz.func183, by kernel_rfl, rfl⟩
theorem fine22 : Fine (184, 78) := ⟨Tryz.f184, f_laws_eqIntS, Tryz.func184, by kernel_rfl, rfl⟩
theorem fine23 : Fine (230, 9) := ⟨Tryz.f230, f_laws_eqItem, Tryz.func230, by kernel_rfl, rfl⟩
theorem fine24 : Fine (185, 55) := ⟨Tryz.f185, f_laws_eqItemS, Tryz.func185, by kernel_rfl, rfl⟩
theorem fine25 : Fine (231, 38) := ⟨Tryz.f231, f_laws_eqKey, Tryz.func231, by kernel_rfl, rfl⟩
theorem fine26 : Fine (182, 76) := ⟨Tryz.f182, f_laws_eqLoaded, Tryz.func182, by kernel_rfl, rfl⟩
theorem fine27 : Fine (126, 44) := ⟨Tryz.f126, f_laws_eqLoadedS, Tryz.func126, by kernel_rfl, rfl⟩
theorem fine28 : Fine (128, 206) := ⟨Tryz.f128, f_laws_eqLock, Tryz.func128, by kernel_rfl, rfl⟩
theorem fine29 : Fine (77, 172) := ⟨Tryz.f77, f_laws_eqLockS, Tryz.func77, by kernel_rfl, rfl⟩
theorem fine30 : Fine (37, 141) := ⟨Tryz.f37, f_laws_eqLockTable, Tryz.func37, by kernel_rfl, rfl⟩
theorem fine31 : Fine (127, 45) := ⟨Tryz.f127, f_laws_eqMachine, Tryz.func127, by kernel_rfl, rfl⟩
theorem fine32 : Fine (129, 207) := ⟨Tryz.f129, f_laws_eqMail, Tryz.func129, by kernel_rfl, rfl⟩
theorem fine33 : Fine (78, 173) := ⟨Tryz.f78, f_laws_eqMailS, Tryz.func78, by kernel_rfl, rfl⟩
theorem fine34 : Fine (258, 270) := ⟨Tryz.f258, f_laws_eqOutbox, Tryz.func258, by kernel_rfl, rfl⟩
theorem fine35 : Fine (76, 14) := ⟨Tryz.f76, f_laws_eqPage, Tryz.func76, by kernel_rfl, rfl⟩
theorem fine36 : Fine (36, 140) := ⟨Tryz.f36, f_laws_eqPageS, Tryz.func36, by kernel_rfl, rfl⟩
theorem fine37 : Fine (259, 39) := ⟨Tryz.f259, f_laws_eqRecord, Tryz.func259, by kernel_rfl, rfl⟩
theorem fine38 : Fine (178, 235) := ⟨Tryz.f178, f_laws_eqRegistration, Tryz.func178, by kernel_rfl, rfl⟩
theorem fine39 : Fine (181, 238) := ⟨Tryz.f181, f_laws_eqReplica, Tryz.func181, by kernel_rfl, rfl⟩
theorem fine40 : Fine (284, 282) := ⟨Tryz.f284, f_laws_eqResponse, Tryz.func284, by kernel_rfl, rfl⟩
theorem fine41 : Fine (80, 19) := ⟨Tryz.f80, f_laws_eqServer, Tryz.func80, by kernel_rfl, rfl⟩
theorem fine42 : Fine (40, 144) := ⟨Tryz.f40, f_laws_eqServerS, Tryz.func40, by kernel_rfl, rfl⟩
theorem fine43 : Fine (79, 174) := ⟨Tryz.f79, f_laws_eqSite, Tryz.func79, by kernel_rfl, rfl⟩
theorem fine44 : Fine (39, 143) := ⟨Tryz.f39, f_laws_eqSiteS, Tryz.func39, by kernel_rfl, rfl⟩
theorem fine45 : Fine (35, 139) := ⟨Tryz.f35, f_laws_eqStorage, Tryz.func35, by kernel_rfl, rfl⟩
theorem fine46 : Fine (131, 24) := ⟨Tryz.f131, f_laws_eqStore, Tryz.func131, by kernel_rfl, rfl⟩
theorem fine47 : Fine (256, 63) := ⟨Tryz.f256, f_laws_eqStoreS, Tryz.func256, by kernel_rfl, rfl⟩
theorem fine48 : Fine (130, 208) := ⟨Tryz.f130, f_laws_eqStringS, Tryz.func130, by kernel_rfl, rfl⟩
theorem fine49 : Fine (228, 260) := ⟨Tryz.f228, f_laws_eqSync, Tryz.func228, by kernel_rfl, rfl⟩
theorem fine50 : Fine (12, 108) := ⟨Tryz.f12, f_laws_eqWorld, Tryz.func12, by kernel_rfl, rfl⟩
theorem fine51 : Fine (187, 83) := ⟨Tryz.f187, f_laws_eqWrite, Tryz.func187, by kernel_rfl, rfl⟩
theorem fine52 : Fine (133, 51) := ⟨Tryz.f133, f_laws_eqWriteS, Tryz.func133, by kernel_rfl, rfl⟩
theorem fine53 : Fine (112, 46) := ⟨Tryz.f112, f_laws_szAppliedS, Tryz.func112, by kernel_rfl, rfl⟩
theorem fine54 : Fine (106, 198) := ⟨Tryz.f106, f_laws_szBucket, Tryz.func106, by kernel_rfl, rfl⟩
theorem fine55 : Fine (62, 163) := ⟨Tryz.f62, f_laws_szBucketS, Tryz.func62, by kernel_rfl, rfl⟩
theorem fine56 : Fine (213, 251) := ⟨Tryz.f213, f_laws_szByteS, Tryz.func213, by kernel_rfl, rfl⟩
theorem fine57 : Fine (245, 262) := ⟨Tryz.f245, f_laws_szCache, Tryz.func245, by kernel_rfl, rfl⟩
theorem fine58 : Fine (211, 249) := ⟨Tryz.f211, f_laws_szCacheS, Tryz.func211, by kernel_rfl, rfl⟩
theorem fine59 : Fine (160, 228) := ⟨Tryz.f160, f_laws_szCacheSet, Tryz.func160, by kernel_rfl, rfl⟩
theorem fine60 : Fine (276, 277) := ⟨Tryz.f276, f_laws_szCached, Tryz.func276, by kernel_rfl, rfl⟩
theorem fine61 : Fine (264, 271) := ⟨Tryz.f264, f_laws_szCachedS, Tryz.func264, by kernel_rfl, rfl⟩
theorem fine62 : Fine (24, 130) := ⟨Tryz.f24, f_laws_szChannel, Tryz.func24, by kernel_rfl, rfl⟩
theorem fine63 : Fine (212, 250) := ⟨Tryz.f212, f_laws_szDatabase, Tryz.func212, by kernel_rfl, rfl⟩
theorem fine64 : Fine (161, 229) := ⟨Tryz.f161, f_laws_szDisk, Tryz.func161, by kernel_rfl, rfl⟩
theorem fine65 : Fine (277, 87) := ⟨Tryz.f277, f_laws_szField, Tryz.func277, by kernel_rfl, rfl⟩
theorem fine66 : Fine (266, 64) := ⟨Tryz.f266, f_laws_szFieldS, Tryz.func266, by kernel_rfl, rfl⟩
theorem fine67 : Fine (265, 272) := ⟨Tryz.f265, f_laws_szIndexDef, Tryz.func265, by kernel_rfl, rfl⟩
theorem fine68 : Fine (247, 263) := ⟨Tryz.f247, f_laws_szIndexDefS, Tryz.func247, by kernel_rfl, rfl⟩
theorem fine69 : Fine (215, 92) := ⟨Tryz.f215, f_laws_szInstr, Tryz.func215, by kernel_rfl, rfl⟩
theorem fine70 : Fine (164, 71) := ⟨Tryz.f164, f_laws_szInstrS, Tryz.func164, by kernel_rfl, rfl⟩
theorem fine71 : Fine (165, 72) := ⟨Tryz.f165, f_laws_szIntS, Tryz.func165, by kernel_rfl, rfl⟩
theorem fine72 : Fine (216, 5) := ⟨Tryz.f216, f_laws_szItem, Tryz.func216, by kernel_rfl, rfl⟩
theorem fine73 : Fine (166, 52) := ⟨Tryz.f166, f_laws_szItemS, Tryz.func166, by kernel_rfl, rfl⟩
theorem fine74 : Fine (217, 30) := ⟨Tryz.f217, f_laws_szKey, Tryz.func217, by kernel_rfl, rfl⟩
theorem fine75 : Fine (163, 70) := ⟨Tryz.f163, f_laws_szLoaded, Tryz.func163, by kernel_rfl, rfl⟩
theorem fine76 : Fine (107, 40) := ⟨Tryz.f107, f_laws_szLoadedS, Tryz.func107, by kernel_rfl, rfl⟩
theorem fine77 : Fine (109, 199) := ⟨Tryz.f109, f_laws_szLock, Tryz.func109, by kernel_rfl, rfl⟩
theorem fine78 : Fine (64, 164) := ⟨Tryz.f64, f_laws_szLockS, Tryz.func64, by kernel_rfl, rfl⟩
theorem fine79 : Fine (23, 129) := ⟨Tryz.f23, f_laws_szLockTable, Tryz.func23, by kernel_rfl, rfl⟩
theorem fine80 : Fine (108, 41) := ⟨Tryz.f108, f_laws_szMachine, Tryz.func108, by kernel_rfl, rfl⟩
theorem fine81 : Fine (65, 165) := ⟨Tryz.f65, f_laws_szMailS, Tryz.func65, by kernel_rfl, rfl⟩
theorem fine82 : Fine (248, 264) := ⟨Tryz.f248, f_laws_szOutbox, Tryz.func248, by kernel_rfl, rfl⟩
theorem fine83 : Fine (63, 10) := ⟨Tryz.f63, f_laws_szPage, Tryz.func63, by kernel_rfl, rfl⟩
theorem fine84 : Fine (22, 128) := ⟨Tryz.f22, f_laws_szPageS, Tryz.func22, by kernel_rfl, rfl⟩
theorem fine85 : Fine (249, 31) := ⟨Tryz.f249, f_laws_szRecord, Tryz.func249, by kernel_rfl, rfl⟩
theorem fine86 : Fine (159, 227) := ⟨Tryz.f159, f_laws_szRegistration, Tryz.func159, by kernel_rfl, rfl⟩
theorem fine87 : Fine (162, 230) := ⟨Tryz.f162, f_laws_szReplica, Tryz.func162, by kernel_rfl, rfl⟩
theorem fine88 : Fine (282, 280) := ⟨Tryz.f282, f_laws_szResponse, Tryz.func282, by kernel_rfl, rfl⟩
theorem fine89 : Fine (67, 15) := ⟨Tryz.f67, f_laws_szServer, Tryz.func67, by kernel_rfl, rfl⟩
theorem fine90 : Fine (26, 132) := ⟨Tryz.f26, f_laws_szServerS, Tryz.func26, by kernel_rfl, rfl⟩
theorem fine91 : Fine (66, 166) := ⟨Tryz.f66, f_laws_szSite, Tryz.func66, by kernel_rfl, rfl⟩
theorem fine92 : Fine (25, 131) := ⟨Tryz.f25, f_laws_szSiteS, Tryz.func25, by kernel_rfl, rfl⟩
theorem fine93 : Fine (21, 127) := ⟨Tryz.f21, f_laws_szStorage, Tryz.func21, by kernel_rfl, rfl⟩
theorem fine94 : Fine (111, 20) := ⟨Tryz.f111, f_laws_szStore, Tryz.func111, by kernel_rfl, rfl⟩
theorem fine95 : Fine (246, 57) := ⟨Tryz.f246, f_laws_szStoreS, Tryz.func246, by kernel_rfl, rfl⟩
theorem fine96 : Fine (110, 200) := ⟨Tryz.f110, f_laws_szStringS, Tryz.func110, by kernel_rfl, rfl⟩
theorem fine97 : Fine (214, 252) := ⟨Tryz.f214, f_laws_szSync, Tryz.func214, by kernel_rfl, rfl⟩
theorem fine98 : Fine (8, 104) := ⟨Tryz.f8, f_laws_szWorld, Tryz.func8, by kernel_rfl, rfl⟩
theorem fine99 : Fine (167, 79) := ⟨Tryz.f167, f_laws_szWrite, Tryz.func167, by kernel_rfl, rfl⟩
theorem fine100 : Fine (113, 47) := ⟨Tryz.f113, f_laws_szWriteS, Tryz.func113, by kernel_rfl, rfl⟩
theorem fine101 : Fine (176, 80) := ⟨Tryz.f176, f_laws_toApplied, Tryz.func176, by kernel_rfl, rfl⟩
theorem fine102 : Fine (121, 48) := ⟨Tryz.f121, f_laws_toAppliedS, Tryz.func121, by kernel_rfl, rfl⟩
theorem fine103 : Fine (114, 201) := ⟨Tryz.f114, f_laws_toBucket, Tryz.func114, by kernel_rfl, rfl⟩
theorem fine104 : Fine (68, 167) := ⟨Tryz.f68, f_laws_toBucketS, Tryz.func68, by kernel_rfl, rfl⟩
theorem fine105 : Fine (220, 255) := ⟨Tryz.f220, f_laws_toByteS, Tryz.func220, by kernel_rfl, rfl⟩
theorem fine106 : Fine (250, 265) := ⟨Tryz.f250, f_laws_toCache, Tryz.func250, by kernel_rfl, rfl⟩
theorem fine107 : Fine (218, 253) := ⟨Tryz.f218, f_laws_toCacheS, Tryz.func218, by kernel_rfl, rfl⟩
theorem fine108 : Fine (169, 232) := ⟨Tryz.f169, f_laws_toCacheSet, Tryz.func169, by kernel_rfl, rfl⟩
theorem fine109 : Fine (278, 278) := ⟨Tryz.f278, f_laws_toCached, Tryz.func278, by kernel_rfl, rfl⟩
theorem fine110 : Fine (267, 273) := ⟨Tryz.f267, f_laws_toCachedS, Tryz.func267, by kernel_rfl, rfl⟩
theorem fine111 : Fine (31, 136) := ⟨Tryz.f31, f_laws_toChannel, Tryz.func31, by kernel_rfl, rfl⟩
theorem fine112 : Fine (219, 254) := ⟨Tryz.f219, f_laws_toDatabase, Tryz.func219, by kernel_rfl, rfl⟩
theorem fine113 : Fine (170, 233) := ⟨Tryz.f170, f_laws_toDisk, Tryz.func170, by kernel_rfl, rfl⟩
theorem fine114 : Fine (279, 89) := ⟨Tryz.f279, f_laws_toField, Tryz.func279, by kernel_rfl, rfl⟩
theorem fine115 : Fine (269, 66) := ⟨Tryz.f269, f_laws_toFieldS, Tryz.func269, by kernel_rfl, rfl⟩
theorem fine116 : Fine (268, 274) := ⟨Tryz.f268, f_laws_toIndexDef, Tryz.func268, by kernel_rfl, rfl⟩
theorem fine117 : Fine (252, 266) := ⟨Tryz.f252, f_laws_toIndexDefS, Tryz.func252, by kernel_rfl, rfl⟩
theorem fine118 : Fine (222, 93) := ⟨Tryz.f222, f_laws_toInstr, Tryz.func222, by kernel_rfl, rfl⟩
theorem fine119 : Fine (173, 74) := ⟨Tryz.f173, f_laws_toInstrS, Tryz.func173, by kernel_rfl, rfl⟩
theorem fine120 : Fine (174, 75) := ⟨Tryz.f174, f_laws_toIntS, Tryz.func174, by kernel_rfl, rfl⟩
theorem fine121 : Fine (223, 7) := ⟨Tryz.f223, f_laws_toItem, Tryz.func223, by kernel_rfl, rfl⟩
theorem fine122 : Fine (175, 53) := ⟨Tryz.f175, f_laws_toItemS, Tryz.func175, by kernel_rfl, rfl⟩
theorem fine123 : Fine (224, 34) := ⟨Tryz.f224, f_laws_toKey, Tryz.func224, by kernel_rfl, rfl⟩
theorem fine124 : Fine (172, 73) := ⟨Tryz.f172, f_laws_toLoaded, Tryz.func172, by kernel_rfl, rfl⟩
theorem fine125 : Fine (115, 42) := ⟨Tryz.f115, f_laws_toLoadedS, Tryz.func115, by kernel_rfl, rfl⟩
theorem fine126 : Fine (117, 202) := ⟨Tryz.f117, f_laws_toLock, Tryz.func117, by kernel_rfl, rfl⟩
theorem fine127 : Fine (70, 168) := ⟨Tryz.f70, f_laws_toLockS, Tryz.func70, by kernel_rfl, rfl⟩
theorem fine128 : Fine (30, 135) := ⟨Tryz.f30, f_laws_toLockTable, Tryz.func30, by kernel_rfl, rfl⟩
theorem fine129 : Fine (116, 43) := ⟨Tryz.f116, f_laws_toMachine, Tryz.func116, by kernel_rfl, rfl⟩
theorem fine130 : Fine (118, 203) := ⟨Tryz.f118, f_laws_toMail, Tryz.func118, by kernel_rfl, rfl⟩
theorem fine131 : Fine (71, 169) := ⟨Tryz.f71, f_laws_toMailS, Tryz.func71, by kernel_rfl, rfl⟩
theorem fine132 : Fine (253, 267) := ⟨Tryz.f253, f_laws_toOutbox, Tryz.func253, by kernel_rfl, rfl⟩
theorem fine133 : Fine (69, 12) := ⟨Tryz.f69, f_laws_toPage, Tryz.func69, by kernel_rfl, rfl⟩
theorem fine134 : Fine (29, 134) := ⟨Tryz.f29, f_laws_toPageS, Tryz.func29, by kernel_rfl, rfl⟩
theorem fine135 : Fine (254, 35) := ⟨Tryz.f254, f_laws_toRecord, Tryz.func254, by kernel_rfl, rfl⟩
theorem fine136 : Fine (168, 231) := ⟨Tryz.f168, f_laws_toRegistration, Tryz.func168, by kernel_rfl, rfl⟩
theorem fine137 : Fine (171, 234) := ⟨Tryz.f171, f_laws_toReplica, Tryz.func171, by kernel_rfl, rfl⟩
theorem fine138 : Fine (283, 281) := ⟨Tryz.f283, f_laws_toResponse, Tryz.func283, by kernel_rfl, rfl⟩
theorem fine139 : Fine (73, 17) := ⟨Tryz.f73, f_laws_toServer, Tryz.func73, by kernel_rfl, rfl⟩
theorem fine140 : Fine (33, 138) := ⟨Tryz.f33, f_laws_toServerS, Tryz.func33, by kernel_rfl, rfl⟩
theorem fine141 : Fine (72, 170) := ⟨Tryz.f72, f_laws_toSite, Tryz.func72, by kernel_rfl, rfl⟩
theorem fine142 : Fine (32, 137) := ⟨Tryz.f32, f_laws_toSiteS, Tryz.func32, by kernel_rfl, rfl⟩
theorem fine143 : Fine (28, 133) := ⟨Tryz.f28, f_laws_toStorage, Tryz.func28, by kernel_rfl, rfl⟩
theorem fine144 : Fine (120, 22) := ⟨Tryz.f120, f_laws_toStore, Tryz.func120, by kernel_rfl, rfl⟩
theorem fine145 : Fine (251, 60) := ⟨Tryz.f251, f_laws_toStoreS, Tryz.func251, by kernel_rfl, rfl⟩
theorem fine146 : Fine (119, 204) := ⟨Tryz.f119, f_laws_toStringS, Tryz.func119, by kernel_rfl, rfl⟩
theorem fine147 : Fine (221, 256) := ⟨Tryz.f221, f_laws_toSync, Tryz.func221, by kernel_rfl, rfl⟩
theorem fine148 : Fine (10, 106) := ⟨Tryz.f10, f_laws_toWorld, Tryz.func10, by kernel_rfl, rfl⟩
theorem fine149 : Fine (177, 81) := ⟨Tryz.f177, f_laws_toWrite, Tryz.func177, by kernel_rfl, rfl⟩
theorem fine150 : Fine (122, 49) := ⟨Tryz.f122, f_laws_toWriteS, Tryz.func122, by kernel_rfl, rfl⟩
theorem fine151 : Fine (123, 211) := ⟨Tryz.f123, f_slices_IndexFunc_impl_Applied_impl_Applied, Tryz.func123, by kernel_rfl, rfl⟩
theorem fine152 : Fine (27, 147) := ⟨Tryz.f27, f_spec_LastSeq, Tryz.func27, by kernel_rfl, rfl⟩
theorem fine153 : Fine (11, 116) := ⟨Tryz.f11, f_impl_WritesOnce, Tryz.func11, by kernel_rfl, rfl⟩
theorem fine154 : Fine (3, 98) := ⟨Tryz.f3, f_laws_FnExactWritesOnce, Tryz.func3, by kernel_rfl, rfl⟩
theorem fine155 : Fine (9, 115) := ⟨Tryz.f9, f_spec_WritesOnce, Tryz.func9, by kernel_rfl, rfl⟩
set_option maxRecDepth 100000 in
theorem fines : ∀ p ∈ kp, Fine p :=
  List.forall_mem_cons.2 ⟨fine0, List.forall_mem_cons.2 ⟨fine1, List.forall_mem_cons.2 ⟨fine2, List.forall_mem_cons.2 ⟨fine3, List.forall_mem_cons.2 ⟨fine4, List.forall_mem_cons.2 ⟨fine5, List.forall_mem_cons.2 ⟨fine6, List.forall_mem_cons.2 ⟨fine7, List.forall_mem_cons.2 ⟨fine8, List.forall_mem_cons.2 ⟨fine9, List.forall_mem_cons.2 ⟨fine10, List.forall_mem_cons.2 ⟨fine11, List.forall_mem_cons.2 ⟨fine12, List.forall_mem_cons.2 ⟨fine13, List.forall_mem_cons.2 ⟨fine14, List.forall_mem_cons.2 ⟨fine15, List.forall_mem_cons.2 ⟨fine16, List.forall_mem_cons.2 ⟨fine17, List.forall_mem_cons.2 ⟨fine18, List.forall_mem_cons.2 ⟨fine19, List.forall_mem_cons.2 ⟨fine20, List.forall_mem_cons.2 ⟨fine21, List.forall_mem_cons.2 ⟨fine22, List.forall_mem_cons.2 ⟨fine23, List.forall_mem_cons.2 ⟨fine24, List.forall_mem_cons.2 ⟨fine25, List.forall_mem_cons.2 ⟨fine26, List.forall_mem_cons.2 ⟨fine27, List.forall_mem_cons.2 ⟨fine28, List.forall_mem_cons.2 ⟨fine29, List.forall_mem_cons.2 ⟨fine30, List.forall_mem_cons.2 ⟨fine31, List.forall_mem_cons.2 ⟨fine32, List.forall_mem_cons.2 ⟨fine33, List.forall_mem_cons.2 ⟨fine34, List.forall_mem_cons.2 ⟨fine35, List.forall_mem_cons.2 ⟨fine36, List.forall_mem_cons.2 ⟨fine37, List.forall_mem_cons.2 ⟨fine38, List.forall_mem_cons.2 ⟨fine39, List.forall_mem_cons.2 ⟨fine40, List.forall_mem_cons.2 ⟨fine41, List.forall_mem_cons.2 ⟨fine42, List.forall_mem_cons.2 ⟨fine43, List.forall_mem_cons.2 ⟨fine44, List.forall_mem_cons.2 ⟨fine45, List.forall_mem_cons.2 ⟨fine46, List.forall_mem_cons.2 ⟨fine47, List.forall_mem_cons.2 ⟨fine48, List.forall_mem_cons.2 ⟨fine49, List.forall_mem_cons.2 ⟨fine50, List.forall_mem_cons.2 ⟨fine51, List.forall_mem_cons.2 ⟨fine52, List.forall_mem_cons.2 ⟨fine53, List.forall_mem_cons.2 ⟨fine54, List.forall_mem_cons.2 ⟨fine55, List.forall_mem_cons.2 ⟨fine56, List.forall_mem_cons.2 ⟨fine57, List.forall_mem_cons.2 ⟨fine58, List.forall_mem_cons.2 ⟨fine59, List.forall_mem_cons.2 ⟨fine60, List.forall_mem_cons.2 ⟨fine61, List.forall_mem_cons.2 ⟨fine62, List.forall_mem_cons.2 ⟨fine63, List.forall_mem_cons.2 ⟨fine64, List.forall_mem_cons.2 ⟨fine65, List.forall_mem_cons.2 ⟨fine66, List.forall_mem_cons.2 ⟨fine67, List.forall_mem_cons.2 ⟨fine68, List.forall_mem_cons.2 ⟨fine69, List.forall_mem_cons.2 ⟨fine70, List.forall_mem_cons.2 ⟨fine71, List.forall_mem_cons.2 ⟨fine72, List.forall_mem_cons.2 ⟨fine73, List.forall_mem_cons.2 ⟨fine74, List.forall_mem_cons.2 ⟨fine75, List.forall_mem_cons.2 ⟨fine76, List.forall_mem_cons.2 ⟨fine77, List.forall_mem_cons.2 ⟨fine78, List.forall_mem_cons.2 ⟨fine79, List.forall_mem_cons.2 ⟨fine80, List.forall_mem_cons.2 ⟨fine81, List.forall_mem_cons.2 ⟨fine82, List.forall_mem_cons.2 ⟨fine83, List.forall_mem_cons.2 ⟨fine84, List.forall_mem_cons.2 ⟨fine85, List.forall_mem_cons.2 ⟨fine86, List.forall_mem_cons.2 ⟨fine87, List.forall_mem_cons.2 ⟨fine88, List.forall_mem_cons.2 ⟨fine89, List.forall_mem_cons.2 ⟨fine90, List.forall_mem_cons.2 ⟨fine91, List.forall_mem_cons.2 ⟨fine92, List.forall_mem_cons.2 ⟨fine93, List.forall_mem_cons.2 ⟨fine94, List.forall_mem_cons.2 ⟨fine95, List.forall_mem_cons.2 ⟨fine96, List.forall_mem_cons.2 ⟨fine97, List.forall_mem_cons.2 ⟨fine98, List.forall_mem_cons.2 ⟨fine99, List.forall_mem_cons.2 ⟨fine100, List.forall_mem_cons.2 ⟨fine101, List.forall_mem_cons.2 ⟨fine102, List.forall_mem_cons.2 ⟨fine103, List.forall_mem_cons.2 ⟨fine104, List.forall_mem_cons.2 ⟨fine105, List.forall_mem_cons.2 ⟨fine106, List.forall_mem_cons.2 ⟨fine107, List.forall_mem_cons.2 ⟨fine108, List.forall_mem_cons.2 ⟨fine109, List.forall_mem_cons.2 ⟨fine110, List.forall_mem_cons.2 ⟨fine111, List.forall_mem_cons.2 ⟨fine112, List.forall_mem_cons.2 ⟨fine113, List.forall_mem_cons.2 ⟨fine114, List.forall_mem_cons.2 ⟨fine115, List.forall_mem_cons.2 ⟨fine116, List.forall_mem_cons.2 ⟨fine117, List.forall_mem_cons.2 ⟨fine118, List.forall_mem_cons.2 ⟨fine119, List.forall_mem_cons.2 ⟨fine120, List.forall_mem_cons.2 ⟨fine121, List.forall_mem_cons.2 ⟨fine122, List.forall_mem_cons.2 ⟨fine123, List.forall_mem_cons.2 ⟨fine124, List.forall_mem_cons.2 ⟨fine125, List.forall_mem_cons.2 ⟨fine126, List.forall_mem_cons.2 ⟨fine127, List.forall_mem_cons.2 ⟨fine128, List.forall_mem_cons.2 ⟨fine129, List.forall_mem_cons.2 ⟨fine130, List.forall_mem_cons.2 ⟨fine131, List.forall_mem_cons.2 ⟨fine132, List.forall_mem_cons.2 ⟨fine133, List.forall_mem_cons.2 ⟨fine134, List.forall_mem_cons.2 ⟨fine135, List.forall_mem_cons.2 ⟨fine136, List.forall_mem_cons.2 ⟨fine137, List.forall_mem_cons.2 ⟨fine138, List.forall_mem_cons.2 ⟨fine139, List.forall_mem_cons.2 ⟨fine140, List.forall_mem_cons.2 ⟨fine141, List.forall_mem_cons.2 ⟨fine142, List.forall_mem_cons.2 ⟨fine143, List.forall_mem_cons.2 ⟨fine144, List.forall_mem_cons.2 ⟨fine145, List.forall_mem_cons.2 ⟨fine146, List.forall_mem_cons.2 ⟨fine147, List.forall_mem_cons.2 ⟨fine148, List.forall_mem_cons.2 ⟨fine149, List.forall_mem_cons.2 ⟨fine150, List.forall_mem_cons.2 ⟨fine151, List.forall_mem_cons.2 ⟨fine152, List.forall_mem_cons.2 ⟨fine153, List.forall_mem_cons.2 ⟨fine154, List.forall_mem_cons.2 ⟨fine155, fun _ h => by cases h⟩⟩⟩⟩⟩⟩⟩⟩⟩⟩⟩⟩⟩⟩⟩⟩⟩⟩⟩⟩⟩⟩⟩⟩⟩⟩⟩⟩⟩⟩⟩⟩⟩⟩⟩⟩⟩⟩⟩⟩⟩⟩⟩⟩⟩⟩⟩⟩⟩⟩⟩⟩⟩⟩⟩⟩⟩⟩⟩⟩⟩⟩⟩⟩⟩⟩⟩⟩⟩⟩⟩⟩⟩⟩⟩⟩⟩⟩⟩⟩⟩⟩⟩⟩⟩⟩⟩⟩⟩⟩⟩⟩⟩⟩⟩⟩⟩⟩⟩⟩⟩⟩⟩⟩⟩⟩⟩⟩⟩⟩⟩⟩⟩⟩⟩⟩⟩⟩⟩⟩⟩⟩⟩⟩⟩⟩⟩⟩⟩⟩⟩⟩⟩⟩⟩⟩⟩⟩⟩⟩⟩⟩⟩⟩⟩⟩⟩⟩⟩⟩⟩⟩⟩⟩⟩⟩
theorem mixed : Tryz.prog.follows .mixedOrders = true := by kernel_rfl
theorem impl : Impl Gm Tryz.prog Gi.kf Ph extF := ⟨rfl, mixed, fun f k h => Or.inl (fines (f, k) (kp_mem (l := kp) (f := f) (k := k) h))⟩
end Go.Proofs.YthhkaabllddhdaaGreat
