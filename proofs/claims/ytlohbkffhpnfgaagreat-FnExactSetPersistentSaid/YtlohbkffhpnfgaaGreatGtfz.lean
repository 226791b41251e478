/- Of this proof. -/
import Derived.Test.YtlohbkffhpnfgaaGreatGka
import Derived.Test.YtlohbkffhpnfgaaGreatRows
import Derived.KernelRfl
import Derived.Lib.Bytealg
import Derived.Lib.Walk
import Derived.WalkKit
import Derived.Shelf.Abstract
set_option linter.unusedSimpArgs false
set_option linter.unusedVariables false
namespace Go.Proofs.YtlohbkffhpnfgaaGreat
open Go Go.RowKit Gi
set_option maxHeartbeats 8000000
def kp : List (Nat × Nat) := [(458, 248), (457, 247), (323, 355), (430, 225), (431, 226), (54, 175), (133, 210), (379, 404), (424, 411), (427, 190), (76, 61), (426, 413), (238, 387), (317, 396), (318, 397), (321, 67), (240, 389), (135, 380), (241, 178), (209, 407), (136, 151), (242, 390), (322, 246), (316, 395), (195, 398), (378, 403), (138, 382), (137, 381), (134, 379), (243, 354), (55, 374), (14, 619), (93, 154), (382, 195), (429, 224), (383, 196), (384, 197), (428, 223), (381, 406), (319, 162), (239, 388), (386, 362), (166, 478), (275, 261), (180, 490), (129, 459), (274, 498), (183, 491), (285, 218), (128, 458), (315, 493), (280, 501), (237, 479), (127, 457), (352, 242), (97, 492), (271, 334), (131, 461), (130, 460), (126, 456), (206, 191), (207, 499), (53, 434), (377, 333), (422, 347), (400, 217), (441, 241), (456, 415), (385, 90), (320, 213), (3, 610), (332, 82), (250, 50), (244, 205), (139, 171), (28, 259), (433, 268), (388, 257), (325, 236), (469, 279), (460, 275), (59, 142), (389, 258), (326, 237), (470, 91), (462, 69), (461, 276), (435, 269), (391, 94), (329, 77), (330, 78), (392, 9), (331, 55), (393, 38), (328, 76), (245, 44), (247, 206), (141, 172), (58, 141), (246, 45), (248, 207), (142, 173), (436, 270), (140, 14), (57, 140), (437, 39), (324, 235), (327, 238), (475, 282), (144, 19), (61, 144), (143, 174), (60, 143), (56, 139), (249, 24), (434, 63), (20, 208), (390, 260), (15, 108), (333, 83), (251, 51), (161, 469), (154, 462), (259, 483), (256, 480), (335, 494), (71, 438), (260, 484), (258, 482), (156, 464), (157, 465), (160, 468), (155, 463), (158, 466), (70, 437), (159, 467), (69, 436), (73, 440), (72, 439), (68, 435), (257, 481), (22, 422), (17, 425), (162, 470), (152, 448), (145, 441), (29, 474), (252, 471), (334, 485), (65, 429), (255, 475), (254, 473), (147, 443), (148, 444), (151, 447), (146, 442), (149, 445), (64, 428), (150, 446), (63, 427), (67, 431), (66, 430), (62, 426), (253, 472), (21, 421), (78, 432), (16, 420), (153, 449), (218, 46), (212, 198), (102, 163), (357, 251), (404, 262), (355, 249), (288, 228), (465, 277), (447, 271), (41, 130), (356, 250), (289, 229), (466, 87), (449, 64), (448, 272), (406, 263), (359, 92), (292, 71), (293, 72), (360, 5), (294, 52), (361, 30), (291, 70), (213, 40), (215, 199), (104, 164), (40, 129), (214, 41), (105, 165), (407, 264), (103, 10), (39, 128), (408, 31), (287, 227), (290, 230), (473, 280), (107, 15), (43, 132), (106, 166), (42, 131), (38, 127), (217, 20), (405, 57), (216, 200), (358, 252), (11, 104), (295, 79), (219, 47), (313, 80), (235, 48), (228, 201), (120, 167), (26, 255), (416, 265), (371, 253), (306, 232), (467, 278), (453, 273), (50, 136), (372, 254), (307, 233), (468, 89), (455, 66), (454, 274), (418, 266), (374, 93), (310, 74), (311, 75), (375, 7), (312, 53), (376, 34), (309, 73), (229, 42), (231, 202), (122, 168), (49, 135), (230, 43), (232, 203), (123, 169), (419, 267), (121, 12), (48, 134), (420, 35), (305, 231), (308, 234), (474, 281), (125, 17), (52, 138), (124, 170), (51, 137), (47, 133), (234, 22), (417, 60), (233, 204), (373, 256), (13, 106), (314, 81), (236, 49), (380, 405), (132, 209), (421, 346), (440, 240), (423, 410), (425, 412), (194, 182), (452, 245), (451, 244), (300, 351), (414, 221), (415, 222), (45, 145), (366, 400), (411, 186), (410, 409), (225, 384), (302, 392), (303, 393), (298, 65), (227, 386), (119, 378), (222, 177), (202, 402), (117, 149), (223, 383), (299, 243), (301, 391), (188, 394), (409, 408), (116, 376), (114, 375), (118, 377), (224, 350), (46, 373), (12, 618), (368, 192), (413, 220), (369, 193), (370, 194), (412, 219), (367, 401), (304, 161), (176, 487), (220, 477), (296, 489), (336, 329), (112, 454), (267, 495), (174, 486), (365, 399), (109, 451), (74, 58), (278, 500), (113, 455), (200, 497), (187, 488), (110, 452), (111, 453), (164, 476), (108, 450), (226, 385), (44, 433), (115, 181), (364, 359), (363, 88), (362, 239), (221, 187), (297, 214), (450, 414), (268, 496), (387, 363)]
def QP (f : Nat) : Option Nat := kp.lookup f
noncomputable instance kfI : KF := ⟨QP, Tryz.prog⟩
theorem FJ : ∀ {l : List (Nat × Nat)} {f k : Nat}, l.lookup f = some k → (f, k) ∈ l
 | [], _, _, h => by simp at h
 | (a, b) :: l, f, k, h => by
  rw [List.lookup_cons] at h
  split at h
  ·rename_i he
   cases h
   rw [show f = a by simpa using he]
   exact List.mem_cons_self
  ·exact List.mem_cons_of_mem _ (FJ h)
def Gm : Ctx := ⟨fun _ => True, 0, fun _ _ _ _ => trivial, fun _ _ => Nat.zero_le _⟩
def KH (p : Nat × Nat) : Prop := (∃ fn af, Tryz.prog.funcs[p.1]? = some fn ∧ O0 Tryz.prog Gi.kf fn = some af ∧ Ph p.2 = some af) ∨
 (Ph p.2 = none ∧ (∃ fn, Tryz.prog.funcs[p.1]? = some fn ∧ fn.body.isNone = false ∧ (fn.name == "runtime.NumGoroutine") = false) ∧ ∀ xs r, aF p.2 xs = some r → yI Gm Tryz.prog p.1 xs r)
set_option maxRecDepth 100000 in
theorem IP (a b : ByteArray) (w : World) : Calls Tryz.prog 432 #[.string a, .string b] w fun e w' => e = .returned (.int .i64 (Lib.compareBytes a.data.toList b.data.toList)) ∧ w' = w := by
 have mixed : Tryz.prog.follows .mixedOrders = true := by kernel_rfl
 go_enter Tryz.func432, Tryz.ntmps432
 go_wp2
 rw [run_callFunc_extern Tryz.func459 (by kernel_rfl) (by kernel_rfl) (by kernel_rfl) (e := Extern.BytealgCompare.compare) (by kernel_rfl), Lib.run_compareString]
 simp only [Result.andThen]
 rw [Oper.upon_value]
 go_wp2
 go_ret
 exact ⟨rfl, rfl⟩
set_option maxRecDepth 100000 in
theorem K4 (a b : ByteArray) (w : World) : Calls Tryz.prog 387 #[.string a, .string b] w fun e w' => e = .returned (.int .i64 (Lib.compareBytes a.data.toList b.data.toList)) ∧ w' = w := by
 have mixed : Tryz.prog.follows .mixedOrders = true := by kernel_rfl
 have e213 : ∀ args w, (callFunc 432 args).run Tryz.prog w = .ok (.enter 432 args) w := enters_of Tryz.func432 (by kernel_rfl) rfl
 go_enter Tryz.func387, Tryz.ntmps387
 go_wp2_with (go_at_fn 432; refine (IP _ _ _).mono ?_; rintro e w' ⟨rfl, rfl⟩)
 go_ret
 exact ⟨rfl, rfl⟩
theorem K5 : ∀ xs r, aF 363 xs = some r → yI Gm Tryz.prog 387 xs r := by
 intro xs r h
 unfold aF at h
 split at h
 ·rename_i heq; cases heq
 ·rename_i heq; cases heq
 ·rename_i a b _
  cases h
  refine ⟨rfl, fun M0 w vals hG hM ha => ?_⟩
  obtain ⟨hl, hv⟩ := ha
  obtain ⟨v, v2, hvs⟩ : ∃ v v2, vals.toList = [v, v2] := by
   match h : vals.toList, hl with
   | [v, v2], _ => exact ⟨v, v2, rfl⟩
  have h0 : VR M0 w [] [] (dM a) v := hv 0 _ v rfl (by rw [hvs]; rfl)
  have h1 : VR M0 w [] [] (dM b) v2 := hv 1 _ v2 rfl (by rw [hvs]; rfl)
  have hv0 : v = .string ⟨a.toArray⟩ := by simpa [VR, LR, aj] using h0
  have hv1 : v2 = .string ⟨b.toArray⟩ := by simpa [VR, LR, aj] using h1
  obtain rfl : vals = #[.string ⟨a.toArray⟩, .string ⟨b.toArray⟩] := by cases vals; simp_all
  refine (K4 ⟨a.toArray⟩ ⟨b.toArray⟩ w).mono fun e w' ⟨he, hw'⟩ => ?_
  subst hw'
  refine ⟨_, he, Below.refl _ _, [], ?_, ?_⟩
  ·exact ⟨rfl, hM, Nat.le_refl _, fun i x q hi hq => by simp [thaw, thawL] at hi, fun i i' x x' b h1 => by simp [thaw, thawL] at h1⟩
  ·simp [thaw, thawL, VR, LR, aj]
 ·cases h
theorem N7 : KH (387, 363) := Or.inr ⟨rfl, ⟨Tryz.f387, Tryz.func387, by kernel_rfl, by kernel_rfl⟩, K5⟩
def Al {α : Type} (P : α → Prop) : List α → Prop
 | [] => True
 | a :: l => P a ∧ Al P l
theorem Mo {α : Type} {P : α → Prop} : ∀ {l : List α}, Al P l → ∀ a ∈ l, P a
 | [], _, a, m => by cases m
 | b :: l, h, a, m => by
  rcases List.mem_cons.1 m with rfl | m
  ·exact h.1
  ·exact Mo h.2 a m
theorem fN {i k : Nat} {fn : _} {af : AFn} (h : Tryz.prog.funcs[i]? = some fn) (h3 : Ph k = some af := by exact rfl) (h2 : O0 Tryz.prog Gi.kf fn = some af := by as_aux_lemma => kernel_rfl) : KH (i, k) := Or.inl ⟨fn, af, h, h2, h3⟩
def Gc (c : Nat) : Prop := Al KH ((kp.drop (c * 16)).take 16)
set_option maxRecDepth 100000 in
theorem QF : Gc 0 := ⟨fN Tryz.func458, fN Tryz.func457, fN Tryz.func323, fN Tryz.func430, fN Tryz.func431, fN Tryz.func54, fN Tryz.func133, fN Tryz.func379, fN Tryz.func424, fN Tryz.func427, fN Tryz.func76, fN Tryz.func426, fN Tryz.func238, fN Tryz.func317, fN Tryz.func318, fN Tryz.func321, trivial⟩
set_option maxRecDepth 100000 in
theorem QG : Gc 1 := ⟨fN Tryz.func240, fN Tryz.func135, fN Tryz.func241, fN Tryz.func209, fN Tryz.func136, fN Tryz.func242, fN Tryz.func322, fN Tryz.func316, fN Tryz.func195, fN Tryz.func378, fN Tryz.func138, fN Tryz.func137, fN Tryz.func134, fN Tryz.func243, fN Tryz.func55, fN Tryz.func14, trivial⟩
set_option maxRecDepth 100000 in
theorem QH : Gc 2 := ⟨fN Tryz.func93, fN Tryz.func382, fN Tryz.func429, fN Tryz.func383, fN Tryz.func384, fN Tryz.func428, fN Tryz.func381, fN Tryz.func319, fN Tryz.func239, fN Tryz.func386, fN Tryz.func166, fN Tryz.func275, fN Tryz.func180, fN Tryz.func129, fN Tryz.func274, fN Tryz.func183, trivial⟩
set_option maxRecDepth 100000 in
theorem QI : Gc 3 := ⟨fN Tryz.func285, fN Tryz.func128, fN Tryz.func315, fN Tryz.func280, fN Tryz.func237, fN Tryz.func127, fN Tryz.func352, fN Tryz.func97, fN Tryz.func271, fN Tryz.func131, fN Tryz.func130, fN Tryz.func126, fN Tryz.func206, fN Tryz.func207, fN Tryz.func53, fN Tryz.func377, trivial⟩
set_option maxRecDepth 100000 in
theorem QJ : Gc 4 := ⟨fN Tryz.func422, fN Tryz.func400, fN Tryz.func441, fN Tryz.func456, fN Tryz.func385, fN Tryz.func320, fN Tryz.func3, fN Tryz.func332, fN Tryz.func250, fN Tryz.func244, fN Tryz.func139, fN Tryz.func28, fN Tryz.func433, fN Tryz.func388, fN Tryz.func325, fN Tryz.func469, trivial⟩
set_option maxRecDepth 100000 in
theorem QK : Gc 5 := ⟨fN Tryz.func460, fN Tryz.func59, fN Tryz.func389, fN Tryz.func326, fN Tryz.func470, fN Tryz.func462, fN Tryz.func461, fN Tryz.func435, fN Tryz.func391, fN Tryz.func329, fN Tryz.func330, fN Tryz.func392, fN Tryz.func331, fN Tryz.func393, fN Tryz.func328, fN Tryz.func245, trivial⟩
set_option maxRecDepth 100000 in
theorem QL : Gc 6 := ⟨fN Tryz.func247, fN Tryz.func141, fN Tryz.func58, fN Tryz.func246, fN Tryz.func248, fN Tryz.func142, fN Tryz.func436, fN Tryz.func140, fN Tryz.func57, fN Tryz.func437, fN Tryz.func324, fN Tryz.func327, fN Tryz.func475, fN Tryz.func144, fN Tryz.func61, fN Tryz.func143, trivial⟩
set_option maxRecDepth 100000 in
theorem QM : Gc 7 := ⟨fN Tryz.func60, fN Tryz.func56, fN Tryz.func249, fN Tryz.func434, fN Tryz.func20, fN Tryz.func390, fN Tryz.func15, fN Tryz.func333, fN Tryz.func251, fN Tryz.func161, fN Tryz.func154, fN Tryz.func259, fN Tryz.func256, fN Tryz.func335, fN Tryz.func71, fN Tryz.func260, trivial⟩
set_option maxRecDepth 100000 in
theorem QN : Gc 8 := ⟨fN Tryz.func258, fN Tryz.func156, fN Tryz.func157, fN Tryz.func160, fN Tryz.func155, fN Tryz.func158, fN Tryz.func70, fN Tryz.func159, fN Tryz.func69, fN Tryz.func73, fN Tryz.func72, fN Tryz.func68, fN Tryz.func257, fN Tryz.func22, fN Tryz.func17, fN Tryz.func162, trivial⟩
set_option maxRecDepth 100000 in
theorem QO : Gc 9 := ⟨fN Tryz.func152, fN Tryz.func145, fN Tryz.func29, fN Tryz.func252, fN Tryz.func334, fN Tryz.func65, fN Tryz.func255, fN Tryz.func254, fN Tryz.func147, fN Tryz.func148, fN Tryz.func151, fN Tryz.func146, fN Tryz.func149, fN Tryz.func64, fN Tryz.func150, fN Tryz.func63, trivial⟩
set_option maxRecDepth 100000 in
theorem Qg : Gc 10 := ⟨fN Tryz.func67, fN Tryz.func66, fN Tryz.func62, fN Tryz.func253, fN Tryz.func21, fN Tryz.func78, fN Tryz.func16, fN Tryz.func153, fN Tryz.func218, fN Tryz.func212, fN Tryz.func102, fN Tryz.func357, fN Tryz.func404, fN Tryz.func355, fN Tryz.func288, fN Tryz.func465, trivial⟩
set_option maxRecDepth 100000 in
theorem Qh : Gc 11 := ⟨fN Tryz.func447, fN Tryz.func41, fN Tryz.func356, fN Tryz.func289, fN Tryz.func466, fN Tryz.func449, fN Tryz.func448, fN Tryz.func406, fN Tryz.func359, fN Tryz.func292, fN Tryz.func293, fN Tryz.func360, fN Tryz.func294, fN Tryz.func361, fN Tryz.func291, fN Tryz.func213, trivial⟩
set_option maxRecDepth 100000 in
theorem Qi : Gc 12 := ⟨fN Tryz.func215, fN Tryz.func104, fN Tryz.func40, fN Tryz.func214, fN Tryz.func105, fN Tryz.func407, fN Tryz.func103, fN Tryz.func39, fN Tryz.func408, fN Tryz.func287, fN Tryz.func290, fN Tryz.func473, fN Tryz.func107, fN Tryz.func43, fN Tryz.func106, fN Tryz.func42, trivial⟩
set_option maxRecDepth 100000 in
theorem Qj : Gc 13 := ⟨fN Tryz.func38, fN Tryz.func217, fN Tryz.func405, fN Tryz.func216, fN Tryz.func358, fN Tryz.func11, fN Tryz.func295, fN Tryz.func219, fN Tryz.func313, fN Tryz.func235, fN Tryz.func228, fN Tryz.func120, fN Tryz.func26, fN Tryz.func416, fN Tryz.func371, fN Tryz.func306, trivial⟩
set_option maxRecDepth 100000 in
theorem Qk : Gc 14 := ⟨fN Tryz.func467, fN Tryz.func453, fN Tryz.func50, fN Tryz.func372, fN Tryz.func307, fN Tryz.func468, fN Tryz.func455, fN Tryz.func454, fN Tryz.func418, fN Tryz.func374, fN Tryz.func310, fN Tryz.func311, fN Tryz.func375, fN Tryz.func312, fN Tryz.func376, fN Tryz.func309, trivial⟩
set_option maxRecDepth 100000 in
theorem Ql : Gc 15 := ⟨fN Tryz.func229, fN Tryz.func231, fN Tryz.func122, fN Tryz.func49, fN Tryz.func230, fN Tryz.func232, fN Tryz.func123, fN Tryz.func419, fN Tryz.func121, fN Tryz.func48, fN Tryz.func420, fN Tryz.func305, fN Tryz.func308, fN Tryz.func474, fN Tryz.func125, fN Tryz.func52, trivial⟩
set_option maxRecDepth 100000 in
theorem Qm : Gc 16 := ⟨fN Tryz.func124, fN Tryz.func51, fN Tryz.func47, fN Tryz.func234, fN Tryz.func417, fN Tryz.func233, fN Tryz.func373, fN Tryz.func13, fN Tryz.func314, fN Tryz.func236, fN Tryz.func380, fN Tryz.func132, fN Tryz.func421, fN Tryz.func440, fN Tryz.func423, fN Tryz.func425, trivial⟩
set_option maxRecDepth 100000 in
theorem Qn : Gc 17 := ⟨fN Tryz.func194, fN Tryz.func452, fN Tryz.func451, fN Tryz.func300, fN Tryz.func414, fN Tryz.func415, fN Tryz.func45, fN Tryz.func366, fN Tryz.func411, fN Tryz.func410, fN Tryz.func225, fN Tryz.func302, fN Tryz.func303, fN Tryz.func298, fN Tryz.func227, fN Tryz.func119, trivial⟩
set_option maxRecDepth 100000 in
theorem Qo : Gc 18 := ⟨fN Tryz.func222, fN Tryz.func202, fN Tryz.func117, fN Tryz.func223, fN Tryz.func299, fN Tryz.func301, fN Tryz.func188, fN Tryz.func409, fN Tryz.func116, fN Tryz.func114, fN Tryz.func118, fN Tryz.func224, fN Tryz.func46, fN Tryz.func12, fN Tryz.func368, fN Tryz.func413, trivial⟩
set_option maxRecDepth 100000 in
theorem Qp : Gc 19 := ⟨fN Tryz.func369, fN Tryz.func370, fN Tryz.func412, fN Tryz.func367, fN Tryz.func304, fN Tryz.func176, fN Tryz.func220, fN Tryz.func296, fN Tryz.func336, fN Tryz.func112, fN Tryz.func267, fN Tryz.func174, fN Tryz.func365, fN Tryz.func109, fN Tryz.func74, fN Tryz.func278, trivial⟩
set_option maxRecDepth 100000 in
theorem Qq : Gc 20 := ⟨fN Tryz.func113, fN Tryz.func200, fN Tryz.func187, fN Tryz.func110, fN Tryz.func111, fN Tryz.func164, fN Tryz.func108, fN Tryz.func226, fN Tryz.func44, fN Tryz.func115, fN Tryz.func364, fN Tryz.func363, fN Tryz.func362, fN Tryz.func221, fN Tryz.func297, fN Tryz.func450, trivial⟩
set_option maxRecDepth 100000 in
theorem Qr : Gc 21 := ⟨fN Tryz.func268, N7, trivial⟩
theorem OT : ∀ {n : Nat} {l : List (Nat × Nat)}, (∀ c, c < n → Al KH ((l.drop (c * 16)).take 16)) → l.length ≤ n * 16 → ∀ p ∈ l, KH p := by
 intro n l h hl p hp
 obtain ⟨i, hi, rfl⟩ := List.getElem_of_mem hp
 refine Mo (h (i / 16) (by omega)) _ (List.mem_iff_getElem?.2 ⟨i % 16, ?_⟩)
 rw [List.getElem?_take, if_pos (Nat.mod_lt _ (by decide)), List.getElem?_drop, show i / 16 * 16 + i % 16 = i by omega]
 simp [hi]
set_option maxRecDepth 100000 in
theorem PO : ∀ p ∈ kp, KH p := OT (n := 22) (fun c hc => match c, hc with
 | 0, _ => QF
 | 1, _ => QG
 | 2, _ => QH
 | 3, _ => QI
 | 4, _ => QJ
 | 5, _ => QK
 | 6, _ => QL
 | 7, _ => QM
 | 8, _ => QN
 | 9, _ => QO
 | 10, _ => Qg
 | 11, _ => Qh
 | 12, _ => Qi
 | 13, _ => Qj
 | 14, _ => Qk
 | 15, _ => Ql
 | 16, _ => Qm
 | 17, _ => Qn
 | 18, _ => Qo
 | 19, _ => Qp
 | 20, _ => Qq
 | 21, _ => Qr
 | c + 22, hc => by omega) (by decide)
theorem mixed : Tryz.prog.follows .mixedOrders = true := by kernel_rfl
theorem Ob : kp.all (fun p => match Tryz.prog.funcs[p.1]? with | some fn => !(fn.origin == "slices.Insert") | none => true) = true := by kernel_rfl
theorem ins : ∀ f k fn t e z b, Gi.kf f = some k → Tryz.prog.funcs[f]? = some fn → fn.origin = "slices.Insert" → fn.params.toList.head? = some t → lE Tryz.prog t = some e → rW Tryz.prog e = some z → Mi Tryz.prog e = some b → GG Tryz.prog f z b := by
 intro f k fn t e z b hk hfn horg hpar he hz hb
 have h1 := List.all_eq_true.1 Ob (f, k) (FJ (l := kp) (f := f) (k := k) hk)
 simp only [hfn, horg, beq_self_eq_true, Bool.not_true, Bool.false_or, Bool.or_eq_true, beq_iff_eq] at h1
 cases h1
set_option maxRecDepth 100000 in
theorem Pi : kp.all (fun p => Nat.blt p.2 jn && (Ph (p.2 + jn)).isNone) = true := by kernel_rfl
theorem small : ∀ f k, Gi.kf f = some k → k < jn ∧ Ph (k + jn) = none := by
 intro f k h
 have h1 := List.all_eq_true.1 Pi (f, k) (FJ (l := kp) (f := f) (k := k) h)
 simp only [Bool.and_eq_true, Option.isNone_iff_eq_none] at h1
 exact ⟨by simpa using h1.1, h1.2⟩
theorem Qs : Impl Gm Tryz.prog Gi.kf Ph aF := ⟨rfl, mixed, fun f k h => PO (f, k) (FJ (l := kp) (f := f) (k := k) h), small, ins⟩
end Go.Proofs.YtlohbkffhpnfgaaGreat
