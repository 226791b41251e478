/- Of this proof. -/
import Derived.Test.YthklhahdgbbbhaaGreatGtc
import Derived.Test.YthklhahdgbbbhaaGreatRows
import Derived.KernelRfl
import Derived.Lib.Bytealg
import Derived.Lib.Walk
import Derived.WalkKit
import Derived.Test.YthklhahdgbbbhaaGreatGins
set_option linter.unusedSimpArgs false
set_option linter.unusedVariables false
namespace Go.Proofs.YthklhahdgbbbhaaGreat
open Go Go.RowKit Gi
set_option maxHeartbeats 8000000
def kp : List (Nat × Nat) := [(274, 248), (273, 247), (134, 320), (265, 349), (76, 305), (199, 355), (205, 337), (215, 225), (216, 226), (133, 319), (208, 340), (80, 312), (200, 332), (72, 175), (128, 210), (68, 152), (123, 180), (210, 188), (269, 216), (300, 190), (264, 348), (69, 61), (197, 67), (121, 178), (67, 151), (198, 246), (131, 354), (204, 336), (79, 148), (132, 318), (302, 358), (27, 118), (212, 342), (31, 301), (211, 341), (140, 326), (74, 154), (141, 195), (214, 224), (142, 196), (143, 197), (213, 223), (82, 162), (32, 124), (29, 297), (30, 116), (81, 313), (66, 146), (259, 362), (263, 261), (209, 218), (267, 242), (202, 334), (139, 191), (136, 176), (207, 212), (201, 333), (262, 347), (138, 325), (270, 217), (304, 241), (258, 90), (192, 213), (77, 306), (225, 82), (151, 50), (144, 205), (83, 171), (277, 259), (309, 268), (275, 257), (218, 236), (334, 279), (325, 275), (36, 142), (276, 258), (219, 237), (335, 91), (327, 69), (326, 276), (311, 269), (279, 94), (222, 77), (223, 78), (280, 9), (224, 55), (281, 38), (221, 76), (145, 44), (147, 206), (85, 172), (35, 141), (146, 45), (148, 207), (86, 173), (312, 270), (84, 14), (34, 140), (313, 39), (217, 235), (220, 238), (338, 282), (88, 19), (38, 144), (87, 174), (37, 143), (33, 139), (150, 24), (310, 63), (149, 208), (278, 260), (8, 108), (226, 83), (152, 51), (95, 46), (89, 198), (39, 163), (229, 251), (282, 262), (227, 249), (154, 228), (328, 277), (314, 271), (12, 130), (228, 250), (155, 229), (329, 87), (316, 64), (315, 272), (284, 263), (231, 92), (158, 71), (159, 72), (232, 5), (160, 52), (233, 30), (157, 70), (90, 40), (92, 199), (41, 164), (11, 129), (91, 41), (42, 165), (285, 264), (40, 10), (10, 128), (286, 31), (153, 227), (156, 230), (336, 280), (44, 15), (14, 132), (43, 166), (13, 131), (9, 127), (94, 20), (283, 57), (93, 200), (230, 252), (4, 104), (161, 79), (96, 47), (190, 80), (119, 48), (112, 201), (60, 167), (248, 255), (291, 265), (246, 253), (183, 232), (330, 278), (318, 273), (24, 136), (247, 254), (184, 233), (331, 89), (320, 66), (319, 274), (293, 266), (250, 93), (187, 74), (188, 75), (251, 7), (189, 53), (252, 34), (186, 73), (113, 42), (115, 202), (62, 168), (23, 135), (114, 43), (116, 203), (63, 169), (294, 267), (61, 12), (22, 134), (295, 35), (182, 231), (185, 234), (337, 281), (65, 17), (26, 138), (64, 170), (25, 137), (21, 133), (118, 22), (292, 60), (117, 204), (249, 256), (6, 106), (191, 81), (120, 49), (78, 307), (137, 324), (203, 335), (266, 352), (206, 211), (127, 209), (122, 179), (261, 346), (303, 240), (268, 215), (135, 321), (129, 182), (271, 353), (272, 356), (245, 245), (244, 244), (105, 317), (242, 345), (55, 304), (164, 351), (173, 331), (180, 221), (181, 222), (104, 316), (106, 322), (57, 310), (169, 327), (45, 145), (47, 150), (175, 184), (289, 186), (240, 343), (162, 65), (97, 177), (46, 149), (163, 243), (99, 350), (172, 330), (56, 147), (103, 315), (241, 344), (290, 357), (15, 117), (177, 339), (19, 300), (176, 338), (108, 323), (54, 153), (109, 192), (179, 220), (110, 193), (111, 194), (178, 219), (59, 161), (20, 123), (17, 296), (18, 115), (171, 329), (170, 328), (51, 58), (58, 311), (49, 181), (235, 359), (234, 88), (243, 239), (107, 187), (174, 214), (260, 363), (7, 372), (297, 411), (254, 404), (299, 413), (124, 387), (194, 396), (195, 397), (126, 389), (71, 380), (257, 407), (130, 390), (193, 395), (196, 398), (253, 403), (75, 382), (73, 381), (70, 379), (28, 374), (256, 406), (125, 388), (321, 415), (3, 370), (5, 371), (237, 400), (288, 409), (100, 384), (166, 392), (167, 393), (102, 386), (53, 378), (239, 402), (98, 383), (165, 391), (168, 394), (287, 408), (50, 376), (48, 375), (52, 377), (16, 373), (238, 401), (236, 399), (101, 385), (317, 414), (255, 405), (298, 412), (296, 410)]
def Qg (f : Nat) : Option Nat := kp.lookup f
noncomputable instance kfI : KF := ⟨Qg, Tryz.prog⟩
theorem It : ∀ {l : List (Nat × Nat)} {f k : Nat}, l.lookup f = some k → (f, k) ∈ l
 | [], _, _, h => by simp at h
 | (a, b) :: l, f, k, h => by
  rw [List.lookup_cons] at h
  split at h
  ·rename_i he
   cases h
   rw [show f = a by simpa using he]
   exact List.mem_cons_self
  ·exact List.mem_cons_of_mem _ (It h)
def Gm : Ctx := ⟨fun _ => True, 0, fun _ _ _ _ => trivial, fun _ _ => Nat.zero_le _⟩
def Gq (p : Nat × Nat) : Prop := (∃ fn af, Tryz.prog.funcs[p.1]? = some fn ∧ OO Tryz.prog Gi.kf fn = some af ∧ Ph p.2 = some af) ∨
 (Ph p.2 = none ∧ (∃ fn, Tryz.prog.funcs[p.1]? = some fn ∧ fn.body.isNone = false ∧ (fn.name == "runtime.NumGoroutine") = false) ∧ ∀ xs r, al p.2 xs = some r → Bf Gm Tryz.prog p.1 xs r)
set_option maxRecDepth 100000 in
theorem H2 (a b : ByteArray) (w : World) : Calls Tryz.prog 301 #[.string a, .string b] w fun e w' => e = .returned (.int .i64 (Lib.compareBytes a.data.toList b.data.toList)) ∧ w' = w := by
 have mixed : Tryz.prog.follows .mixedOrders = true := by kernel_rfl
 go_enter Tryz.func301, Tryz.ntmps301
 go_wp2
 rw [run_callFunc_extern Tryz.func322 (by kernel_rfl) (by kernel_rfl) (by kernel_rfl) (e := Extern.BytealgCompare.compare) (by kernel_rfl), Lib.run_compareString]
 simp only [Result.andThen]
 rw [Oper.upon_value]
 go_wp2
 go_ret
 exact ⟨rfl, rfl⟩
set_option maxRecDepth 100000 in
theorem J9 (a b : ByteArray) (w : World) : Calls Tryz.prog 260 #[.string a, .string b] w fun e w' => e = .returned (.int .i64 (Lib.compareBytes a.data.toList b.data.toList)) ∧ w' = w := by
 have mixed : Tryz.prog.follows .mixedOrders = true := by kernel_rfl
 have e213 : ∀ args w, (callFunc 301 args).run Tryz.prog w = .ok (.enter 301 args) w := enters_of Tryz.func301 (by kernel_rfl) rfl
 go_enter Tryz.func260, Tryz.ntmps260
 go_wp2_with (go_at_fn 301; refine (H2 _ _ _).mono ?_; rintro e w' ⟨rfl, rfl⟩)
 go_ret
 exact ⟨rfl, rfl⟩
theorem Ka : ∀ xs r, al 363 xs = some r → Bf Gm Tryz.prog 260 xs r := by
 intro xs r h
 unfold al at h
 split at h
 ·rename_i heq; cases heq
 ·rename_i heq; cases heq
 ·rename_i a b _
  cases h
  refine ⟨rfl, fun M0 w vals hG hM ha => ?_⟩
  obtain ⟨hl, hv⟩ := ha
  obtain ⟨v, v2, hvs⟩ : ∃ v v2, vals.toList = [v, v2] := by
   match h : vals.toList, hl with
   | [v, v2], _ => exact ⟨v, v2, rfl⟩
  have h0 : VR M0 w [] [] (eX a) v := hv 0 _ v rfl (by rw [hvs]; rfl)
  have h1 : VR M0 w [] [] (eX b) v2 := hv 1 _ v2 rfl (by rw [hvs]; rfl)
  have hv0 : v = .string ⟨a.toArray⟩ := by simpa [VR, LR, aV] using h0
  have hv1 : v2 = .string ⟨b.toArray⟩ := by simpa [VR, LR, aV] using h1
  obtain rfl : vals = #[.string ⟨a.toArray⟩, .string ⟨b.toArray⟩] := by cases vals; simp_all
  refine (J9 ⟨a.toArray⟩ ⟨b.toArray⟩ w).mono fun e w' ⟨he, hw'⟩ => ?_
  subst hw'
  refine ⟨_, he, Below.refl _ _, [], ?_, ?_⟩
  ·exact ⟨rfl, hM, Nat.le_refl _, fun i x q hi hq => by simp [thaw, thawL] at hi, fun i i' x x' b h1 => by simp [thaw, thawL] at h1⟩
  ·simp [thaw, thawL, VR, LR, aV]
 ·cases h
theorem Nq : Gq (271, 353) := Or.inr ⟨rfl, ⟨Tryz.f271, Tryz.func271, by kernel_rfl, by kernel_rfl⟩, fun xs r h => by unfold al at h; split at h <;> first | (rename_i heq; cases heq; done) | cases h⟩
theorem Nr : Gq (272, 356) := Or.inr ⟨rfl, ⟨Tryz.f272, Tryz.func272, by kernel_rfl, by kernel_rfl⟩, fun xs r h => by unfold al at h; split at h <;> first | (rename_i heq; cases heq; done) | cases h⟩
theorem Ns : Gq (260, 363) := Or.inr ⟨rfl, ⟨Tryz.f260, Tryz.func260, by kernel_rfl, by kernel_rfl⟩, Ka⟩
def Al {α : Type} (P : α → Prop) : List α → Prop
 | [] => True
 | a :: l => P a ∧ Al P l
theorem Lo {α : Type} {P : α → Prop} : ∀ {l : List α}, Al P l → ∀ a ∈ l, P a
 | [], _, a, m => by cases m
 | b :: l, h, a, m => by
  rcases List.mem_cons.1 m with rfl | m
  ·exact h.1
  ·exact Lo h.2 a m
theorem fN {i k : Nat} {fn : _} {af : AFn} (h : Tryz.prog.funcs[i]? = some fn) (h3 : Ph k = some af := by exact rfl) (h2 : OO Tryz.prog Gi.kf fn = some af := by as_aux_lemma => kernel_rfl) : Gq (i, k) := Or.inl ⟨fn, af, h, h2, h3⟩
def Gc (c : Nat) : Prop := Al Gq ((kp.drop (c * 16)).take 16)
set_option maxRecDepth 100000 in
theorem P4 : Gc 0 := ⟨fN Tryz.func274, fN Tryz.func273, fN Tryz.func134, fN Tryz.func265, fN Tryz.func76, fN Tryz.func199, fN Tryz.func205, fN Tryz.func215, fN Tryz.func216, fN Tryz.func133, fN Tryz.func208, fN Tryz.func80, fN Tryz.func200, fN Tryz.func72, fN Tryz.func128, fN Tryz.func68, trivial⟩
set_option maxRecDepth 100000 in
theorem P5 : Gc 1 := ⟨fN Tryz.func123, fN Tryz.func210, fN Tryz.func269, fN Tryz.func300, fN Tryz.func264, fN Tryz.func69, fN Tryz.func197, fN Tryz.func121, fN Tryz.func67, fN Tryz.func198, fN Tryz.func131, fN Tryz.func204, fN Tryz.func79, fN Tryz.func132, fN Tryz.func302, fN Tryz.func27, trivial⟩
set_option maxRecDepth 100000 in
theorem P6 : Gc 2 := ⟨fN Tryz.func212, fN Tryz.func31, fN Tryz.func211, fN Tryz.func140, fN Tryz.func74, fN Tryz.func141, fN Tryz.func214, fN Tryz.func142, fN Tryz.func143, fN Tryz.func213, fN Tryz.func82, fN Tryz.func32, fN Tryz.func29, fN Tryz.func30, fN Tryz.func81, fN Tryz.func66, trivial⟩
set_option maxRecDepth 100000 in
theorem P7 : Gc 3 := ⟨fN Tryz.func259, fN Tryz.func263, fN Tryz.func209, fN Tryz.func267, fN Tryz.func202, fN Tryz.func139, fN Tryz.func136, fN Tryz.func207, fN Tryz.func201, fN Tryz.func262, fN Tryz.func138, fN Tryz.func270, fN Tryz.func304, fN Tryz.func258, fN Tryz.func192, fN Tryz.func77, trivial⟩
set_option maxRecDepth 100000 in
theorem P8 : Gc 4 := ⟨fN Tryz.func225, fN Tryz.func151, fN Tryz.func144, fN Tryz.func83, fN Tryz.func277, fN Tryz.func309, fN Tryz.func275, fN Tryz.func218, fN Tryz.func334, fN Tryz.func325, fN Tryz.func36, fN Tryz.func276, fN Tryz.func219, fN Tryz.func335, fN Tryz.func327, fN Tryz.func326, trivial⟩
set_option maxRecDepth 100000 in
theorem P9 : Gc 5 := ⟨fN Tryz.func311, fN Tryz.func279, fN Tryz.func222, fN Tryz.func223, fN Tryz.func280, fN Tryz.func224, fN Tryz.func281, fN Tryz.func221, fN Tryz.func145, fN Tryz.func147, fN Tryz.func85, fN Tryz.func35, fN Tryz.func146, fN Tryz.func148, fN Tryz.func86, fN Tryz.func312, trivial⟩
set_option maxRecDepth 100000 in
theorem Qa : Gc 6 := ⟨fN Tryz.func84, fN Tryz.func34, fN Tryz.func313, fN Tryz.func217, fN Tryz.func220, fN Tryz.func338, fN Tryz.func88, fN Tryz.func38, fN Tryz.func87, fN Tryz.func37, fN Tryz.func33, fN Tryz.func150, fN Tryz.func310, fN Tryz.func149, fN Tryz.func278, fN Tryz.func8, trivial⟩
set_option maxRecDepth 100000 in
theorem Qb : Gc 7 := ⟨fN Tryz.func226, fN Tryz.func152, fN Tryz.func95, fN Tryz.func89, fN Tryz.func39, fN Tryz.func229, fN Tryz.func282, fN Tryz.func227, fN Tryz.func154, fN Tryz.func328, fN Tryz.func314, fN Tryz.func12, fN Tryz.func228, fN Tryz.func155, fN Tryz.func329, fN Tryz.func316, trivial⟩
set_option maxRecDepth 100000 in
theorem Qc : Gc 8 := ⟨fN Tryz.func315, fN Tryz.func284, fN Tryz.func231, fN Tryz.func158, fN Tryz.func159, fN Tryz.func232, fN Tryz.func160, fN Tryz.func233, fN Tryz.func157, fN Tryz.func90, fN Tryz.func92, fN Tryz.func41, fN Tryz.func11, fN Tryz.func91, fN Tryz.func42, fN Tryz.func285, trivial⟩
set_option maxRecDepth 100000 in
theorem Qd : Gc 9 := ⟨fN Tryz.func40, fN Tryz.func10, fN Tryz.func286, fN Tryz.func153, fN Tryz.func156, fN Tryz.func336, fN Tryz.func44, fN Tryz.func14, fN Tryz.func43, fN Tryz.func13, fN Tryz.func9, fN Tryz.func94, fN Tryz.func283, fN Tryz.func93, fN Tryz.func230, fN Tryz.func4, trivial⟩
set_option maxRecDepth 100000 in
theorem PH : Gc 10 := ⟨fN Tryz.func161, fN Tryz.func96, fN Tryz.func190, fN Tryz.func119, fN Tryz.func112, fN Tryz.func60, fN Tryz.func248, fN Tryz.func291, fN Tryz.func246, fN Tryz.func183, fN Tryz.func330, fN Tryz.func318, fN Tryz.func24, fN Tryz.func247, fN Tryz.func184, fN Tryz.func331, trivial⟩
set_option maxRecDepth 100000 in
theorem PI : Gc 11 := ⟨fN Tryz.func320, fN Tryz.func319, fN Tryz.func293, fN Tryz.func250, fN Tryz.func187, fN Tryz.func188, fN Tryz.func251, fN Tryz.func189, fN Tryz.func252, fN Tryz.func186, fN Tryz.func113, fN Tryz.func115, fN Tryz.func62, fN Tryz.func23, fN Tryz.func114, fN Tryz.func116, trivial⟩
set_option maxRecDepth 100000 in
theorem PJ : Gc 12 := ⟨fN Tryz.func63, fN Tryz.func294, fN Tryz.func61, fN Tryz.func22, fN Tryz.func295, fN Tryz.func182, fN Tryz.func185, fN Tryz.func337, fN Tryz.func65, fN Tryz.func26, fN Tryz.func64, fN Tryz.func25, fN Tryz.func21, fN Tryz.func118, fN Tryz.func292, fN Tryz.func117, trivial⟩
set_option maxRecDepth 100000 in
theorem PK : Gc 13 := ⟨fN Tryz.func249, fN Tryz.func6, fN Tryz.func191, fN Tryz.func120, fN Tryz.func78, fN Tryz.func137, fN Tryz.func203, fN Tryz.func266, fN Tryz.func206, fN Tryz.func127, fN Tryz.func122, fN Tryz.func261, fN Tryz.func303, fN Tryz.func268, fN Tryz.func135, fN Tryz.func129, trivial⟩
set_option maxRecDepth 100000 in
theorem PL : Gc 14 := ⟨Nq, Nr, fN Tryz.func245, fN Tryz.func244, fN Tryz.func105, fN Tryz.func242, fN Tryz.func55, fN Tryz.func164, fN Tryz.func173, fN Tryz.func180, fN Tryz.func181, fN Tryz.func104, fN Tryz.func106, fN Tryz.func57, fN Tryz.func169, fN Tryz.func45, trivial⟩
set_option maxRecDepth 100000 in
theorem PM : Gc 15 := ⟨fN Tryz.func47, fN Tryz.func175, fN Tryz.func289, fN Tryz.func240, fN Tryz.func162, fN Tryz.func97, fN Tryz.func46, fN Tryz.func163, fN Tryz.func99, fN Tryz.func172, fN Tryz.func56, fN Tryz.func103, fN Tryz.func241, fN Tryz.func290, fN Tryz.func15, fN Tryz.func177, trivial⟩
set_option maxRecDepth 100000 in
theorem PN : Gc 16 := ⟨fN Tryz.func19, fN Tryz.func176, fN Tryz.func108, fN Tryz.func54, fN Tryz.func109, fN Tryz.func179, fN Tryz.func110, fN Tryz.func111, fN Tryz.func178, fN Tryz.func59, fN Tryz.func20, fN Tryz.func17, fN Tryz.func18, fN Tryz.func171, fN Tryz.func170, fN Tryz.func51, trivial⟩
set_option maxRecDepth 100000 in
theorem PO : Gc 17 := ⟨fN Tryz.func58, fN Tryz.func49, fN Tryz.func235, fN Tryz.func234, fN Tryz.func243, fN Tryz.func107, fN Tryz.func174, Ns, fN Tryz.func7, fN Tryz.func297, fN Tryz.func254, fN Tryz.func299, fN Tryz.func124, fN Tryz.func194, fN Tryz.func195, fN Tryz.func126, trivial⟩
set_option maxRecDepth 100000 in
theorem PP : Gc 18 := ⟨fN Tryz.func71, fN Tryz.func257, fN Tryz.func130, fN Tryz.func193, fN Tryz.func196, fN Tryz.func253, fN Tryz.func75, fN Tryz.func73, fN Tryz.func70, fN Tryz.func28, fN Tryz.func256, fN Tryz.func125, fN Tryz.func321, fN Tryz.func3, fN Tryz.func5, fN Tryz.func237, trivial⟩
set_option maxRecDepth 100000 in
theorem PQ : Gc 19 := ⟨fN Tryz.func288, fN Tryz.func100, fN Tryz.func166, fN Tryz.func167, fN Tryz.func102, fN Tryz.func53, fN Tryz.func239, fN Tryz.func98, fN Tryz.func165, fN Tryz.func168, fN Tryz.func287, fN Tryz.func50, fN Tryz.func48, fN Tryz.func52, fN Tryz.func16, fN Tryz.func238, trivial⟩
set_option maxRecDepth 100000 in
theorem PR : Gc 20 := ⟨fN Tryz.func236, fN Tryz.func101, fN Tryz.func317, fN Tryz.func255, fN Tryz.func298, fN Tryz.func296, trivial⟩
theorem On : ∀ {n : Nat} {l : List (Nat × Nat)}, (∀ c, c < n → Al Gq ((l.drop (c * 16)).take 16)) → l.length ≤ n * 16 → ∀ p ∈ l, Gq p := by
 intro n l h hl p hp
 obtain ⟨i, hi, rfl⟩ := List.getElem_of_mem hp
 refine Lo (h (i / 16) (by omega)) _ (List.mem_iff_getElem?.2 ⟨i % 16, ?_⟩)
 rw [List.getElem?_take, if_pos (Nat.mod_lt _ (by decide)), List.getElem?_drop, show i / 16 * 16 + i % 16 = i by omega]
 simp [hi]
set_option maxRecDepth 100000 in
theorem Pi : ∀ p ∈ kp, Gq p := On (n := 21) (fun c hc => match c, hc with
 | 0, _ => P4
 | 1, _ => P5
 | 2, _ => P6
 | 3, _ => P7
 | 4, _ => P8
 | 5, _ => P9
 | 6, _ => Qa
 | 7, _ => Qb
 | 8, _ => Qc
 | 9, _ => Qd
 | 10, _ => PH
 | 11, _ => PI
 | 12, _ => PJ
 | 13, _ => PK
 | 14, _ => PL
 | 15, _ => PM
 | 16, _ => PN
 | 17, _ => PO
 | 18, _ => PP
 | 19, _ => PQ
 | 20, _ => PR
 | c + 21, hc => by omega) (by decide)
theorem mixed : Tryz.prog.follows .mixedOrders = true := by kernel_rfl
theorem Nv : kp.all (fun p => match Tryz.prog.funcs[p.1]? with | some fn => !(fn.origin == "slices.Insert") || p.1 == 271 || p.1 == 272 | none => true) = true := by kernel_rfl
theorem ins : ∀ f k fn t e z b, Gi.kf f = some k → Tryz.prog.funcs[f]? = some fn → fn.origin = "slices.Insert" → fn.params.toList.head? = some t → m8 Tryz.prog t = some e → t9 Tryz.prog e = some z → J2 Tryz.prog e = some b → Be Tryz.prog f z b := by
 intro f k fn t e z b hk hfn horg hpar he hz hb
 have h1 := List.all_eq_true.1 Nv (f, k) (It (l := kp) (f := f) (k := k) hk)
 simp only [hfn, horg, beq_self_eq_true, Bool.not_true, Bool.false_or, Bool.or_eq_true, beq_iff_eq] at h1
 rcases h1 with rfl | rfl
 ·rw [Tryz.func271] at hfn
  cases hfn
  obtain rfl : 216 = t := by simpa using hpar
  rw [show m8 Tryz.prog 216 = some 280 by kernel_rfl] at he
  cases he
  rw [show t9 Tryz.prog 280 = some 2 by kernel_rfl] at hz
  rw [show J2 Tryz.prog 280 = some 24 by kernel_rfl] at hb
  cases hz
  cases hb
  exact L7
 ·rw [Tryz.func272] at hfn
  cases hfn
  obtain rfl : 118 = t := by simpa using hpar
  rw [show m8 Tryz.prog 118 = some 220 by kernel_rfl] at he
  cases he
  rw [show t9 Tryz.prog 220 = some 4 by kernel_rfl] at hz
  rw [show J2 Tryz.prog 220 = some 56 by kernel_rfl] at hb
  cases hz
  cases hb
  exact Nu
theorem PS : Impl Gm Tryz.prog Gi.kf Ph al := ⟨rfl, mixed, fun f k h => Pi (f, k) (It (l := kp) (f := f) (k := k) h), ins⟩
end Go.Proofs.YthklhahdgbbbhaaGreat
