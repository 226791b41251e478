/- Of this proof. -/
import Derived.Test.YthaajpjcibaopaaGreatGcb
import Derived.Test.YthaajpjcibaopaaGreatRows
import Derived.KernelRfl
import Derived.JoinedOf
namespace Go.Proofs.YthaajpjcibaopaaGreat
open Go Go.RowKit Gi
set_option linter.unusedVariables false
set_option maxHeartbeats 8000000
set_option linter.unusedSimpArgs false
def kp : List (Nat × Nat) := [(7, 424), (114, 478), (197, 261), (160, 490), (64, 459), (196, 498), (161, 491), (164, 218), (63, 458), (163, 493), (219, 501), (115, 479), (62, 457), (199, 242), (162, 492), (195, 334), (66, 461), (65, 460), (61, 456), (116, 191), (198, 499), (24, 434), (3, 417), (173, 82), (124, 50), (117, 205), (67, 171), (202, 259), (220, 268), (200, 257), (166, 236), (238, 279), (231, 275), (28, 142), (201, 258), (167, 237), (239, 91), (233, 69), (232, 276), (222, 269), (204, 94), (170, 77), (171, 78), (205, 9), (172, 55), (206, 38), (169, 76), (118, 44), (120, 206), (69, 172), (27, 141), (119, 45), (121, 207), (70, 173), (223, 270), (68, 14), (26, 140), (224, 39), (165, 235), (168, 238), (242, 282), (72, 19), (30, 144), (71, 174), (29, 143), (25, 139), (123, 24), (221, 63), (122, 208), (203, 260), (8, 108), (174, 83), (125, 51), (92, 469), (84, 462), (134, 483), (131, 480), (176, 494), (40, 438), (135, 484), (133, 482), (86, 464), (87, 465), (91, 468), (85, 463), (88, 466), (39, 437), (89, 467), (38, 436), (42, 440), (41, 439), (37, 435), (132, 481), (90, 422), (10, 425), (93, 470), (82, 448), (73, 441), (129, 474), (126, 471), (175, 485), (34, 429), (130, 475), (128, 473), (76, 443), (77, 444), (81, 447), (75, 442), (78, 445), (33, 428), (79, 446), (32, 427), (36, 431), (35, 430), (31, 426), (127, 472), (80, 421), (74, 432), (9, 420), (83, 449), (100, 46), (94, 198), (43, 163), (179, 251), (207, 262), (177, 249), (137, 228), (234, 277), (225, 271), (14, 130), (178, 250), (138, 229), (235, 87), (227, 64), (226, 272), (209, 263), (181, 92), (141, 71), (142, 72), (182, 5), (143, 52), (183, 30), (140, 70), (95, 40), (97, 199), (45, 164), (13, 129), (96, 41), (46, 165), (210, 264), (44, 10), (12, 128), (211, 31), (136, 227), (139, 230), (240, 280), (48, 15), (16, 132), (47, 166), (15, 131), (11, 127), (99, 20), (208, 57), (98, 200), (180, 252), (4, 104), (144, 79), (101, 47), (158, 80), (112, 48), (105, 201), (55, 167), (190, 255), (214, 265), (188, 253), (151, 232), (236, 278), (228, 273), (21, 136), (189, 254), (152, 233), (237, 89), (230, 66), (229, 274), (216, 266), (192, 93), (155, 74), (156, 75), (193, 7), (157, 53), (194, 34), (154, 73), (106, 42), (108, 202), (57, 168), (20, 135), (107, 43), (109, 203), (58, 169), (217, 267), (56, 12), (19, 134), (218, 35), (150, 231), (153, 234), (241, 281), (60, 17), (23, 138), (59, 170), (22, 137), (18, 133), (111, 22), (215, 60), (110, 204), (191, 256), (6, 106), (159, 81), (113, 49), (5, 423), (146, 487), (103, 477), (148, 489), (212, 329), (53, 454), (184, 495), (145, 486), (50, 451), (213, 500), (54, 455), (186, 497), (147, 488), (51, 452), (52, 453), (102, 476), (49, 450), (17, 433), (187, 239), (104, 187), (149, 214), (185, 496)]
def kfS (f : Nat) : Option Nat := kp.lookup f
noncomputable instance kfI : KF := ⟨kfS, Tryz.prog⟩
theorem kp_mem : ∀ {l : List (Nat × Nat)} {f k : Nat}, l.lookup f = some k → (f, k) ∈ l
 | [], _, _, h => by simp at h
 | (a, b) :: l, f, k, h => by
  rw [List.lookup_cons] at h
  split at h
  ·rename_i he
   cases h
   rw [show f = a by simpa using he]
   exact List.mem_cons_self
  ·exact List.mem_cons_of_mem _ (kp_mem h)
def Gm : Ctx := ⟨fun _ => True, 0, fun _ _ _ _ => trivial, fun _ _ => Nat.zero_le _⟩
def Fine (p : Nat × Nat) : Prop := (∃ fn af, Tryz.prog.funcs[p.1]? = some fn ∧ cFn Tryz.prog Gi.kf fn = some af ∧ Ph p.2 = some af) ∨
 (Ph p.2 = none ∧ (∃ fn, Tryz.prog.funcs[p.1]? = some fn ∧ fn.body.isNone = false ∧ (fn.name == "runtime.NumGoroutine") = false) ∧ ∀ xs r, extF p.2 xs = some r → Sound Gm Tryz.prog p.1 xs r)
def Al {α : Type} (P : α → Prop) : List α → Prop
 | [] => True
 | a :: l => P a ∧ Al P l
theorem Al_mem {α : Type} {P : α → Prop} : ∀ {l : List α}, Al P l → ∀ a ∈ l, P a
 | [], _, a, m => by cases m
 | b :: l, h, a, m => by
  rcases List.mem_cons.1 m with rfl | m
  ·exact h.1
  ·exact Al_mem h.2 a m
theorem fN {i k : Nat} {fn : _} {af : AFn} (h : Tryz.prog.funcs[i]? = some fn) (h3 : Ph k = some af := by exact rfl) (h2 : cFn Tryz.prog Gi.kf fn = some af := by as_aux_lemma => kernel_rfl) : Fine (i, k) := Or.inl ⟨fn, af, h, h2, h3⟩
def Gc (c : Nat) : Prop := Al Fine ((kp.drop (c * 16)).take 16)
set_option maxRecDepth 100000 in
theorem gc0 : Gc 0 := ⟨fN Tryz.func7, fN Tryz.func114, fN Tryz.func197, fN Tryz.func160, fN Tryz.func64, fN Tryz.func196, fN Tryz.func161, fN Tryz.func164, fN Tryz.func63, fN Tryz.func163, fN Tryz.func219, fN Tryz.func115, fN Tryz.func62, fN Tryz.func199, fN Tryz.func162, fN Tryz.func195, trivial⟩
set_option maxRecDepth 100000 in
theorem gc1 : Gc 1 := ⟨fN Tryz.func66, fN Tryz.func65, fN Tryz.func61, fN Tryz.func116, fN Tryz.func198, fN Tryz.func24, fN Tryz.func3, fN Tryz.func173, fN Tryz.func124, fN Tryz.func117, fN Tryz.func67, fN Tryz.func202, fN Tryz.func220, fN Tryz.func200, fN Tryz.func166, fN Tryz.func238, trivial⟩
set_option maxRecDepth 100000 in
theorem gc2 : Gc 2 := ⟨fN Tryz.func231, fN Tryz.func28, fN Tryz.func201, fN Tryz.func167, fN Tryz.func239, fN Tryz.func233, fN Tryz.func232, fN Tryz.func222, fN Tryz.func204, fN Tryz.func170, fN Tryz.func171, fN Tryz.func205, fN Tryz.func172, fN Tryz.func206, fN Tryz.func169, fN Tryz.func118, trivial⟩
set_option maxRecDepth 100000 in
theorem gc3 : Gc 3 := ⟨fN Tryz.func120, fN Tryz.func69, fN Tryz.func27, fN Tryz.func119, fN Tryz.func121, fN Tryz.func70, fN Tryz.func223, fN Tryz.func68, fN Tryz.func26, fN Tryz.func224, fN Tryz.func165, fN Tryz.func168, fN Tryz.func242, fN Tryz.func72, fN Tryz.func30, fN Tryz.func71, trivial⟩
set_option maxRecDepth 100000 in
theorem gc4 : Gc 4 := ⟨fN Tryz.func29, fN Tryz.func25, fN Tryz.func123, fN Tryz.func221, fN Tryz.func122, fN Tryz.func203, fN Tryz.func8, fN Tryz.func174, fN Tryz.func125, fN Tryz.func92, fN Tryz.func84, fN Tryz.func134, fN Tryz.func131, fN Tryz.func176, fN Tryz.func40, fN Tryz.func135, trivial⟩
set_option maxRecDepth 100000 in
theorem gc5 : Gc 5 := ⟨fN Tryz.func133, fN Tryz.func86, fN Tryz.func87, fN Tryz.func91, fN Tryz.func85, fN Tryz.func88, fN Tryz.func39, fN Tryz.func89, fN Tryz.func38, fN Tryz.func42, fN Tryz.func41, fN Tryz.func37, fN Tryz.func132, fN Tryz.func90, fN Tryz.func10, fN Tryz.func93, trivial⟩
set_option maxRecDepth 100000 in
theorem gc6 : Gc 6 := ⟨fN Tryz.func82, fN Tryz.func73, fN Tryz.func129, fN Tryz.func126, fN Tryz.func175, fN Tryz.func34, fN Tryz.func130, fN Tryz.func128, fN Tryz.func76, fN Tryz.func77, fN Tryz.func81, fN Tryz.func75, fN Tryz.func78, fN Tryz.func33, fN Tryz.func79, fN Tryz.func32, trivial⟩
set_option maxRecDepth 100000 in
theorem gc7 : Gc 7 := ⟨fN Tryz.func36, fN Tryz.func35, fN Tryz.func31, fN Tryz.func127, fN Tryz.func80, fN Tryz.func74, fN Tryz.func9, fN Tryz.func83, fN Tryz.func100, fN Tryz.func94, fN Tryz.func43, fN Tryz.func179, fN Tryz.func207, fN Tryz.func177, fN Tryz.func137, fN Tryz.func234, trivial⟩
set_option maxRecDepth 100000 in
theorem gc8 : Gc 8 := ⟨fN Tryz.func225, fN Tryz.func14, fN Tryz.func178, fN Tryz.func138, fN Tryz.func235, fN Tryz.func227, fN Tryz.func226, fN Tryz.func209, fN Tryz.func181, fN Tryz.func141, fN Tryz.func142, fN Tryz.func182, fN Tryz.func143, fN Tryz.func183, fN Tryz.func140, fN Tryz.func95, trivial⟩
set_option maxRecDepth 100000 in
theorem gc9 : Gc 9 := ⟨fN Tryz.func97, fN Tryz.func45, fN Tryz.func13, fN Tryz.func96, fN Tryz.func46, fN Tryz.func210, fN Tryz.func44, fN Tryz.func12, fN Tryz.func211, fN Tryz.func136, fN Tryz.func139, fN Tryz.func240, fN Tryz.func48, fN Tryz.func16, fN Tryz.func47, fN Tryz.func15, trivial⟩
set_option maxRecDepth 100000 in
theorem gc10 : Gc 10 := ⟨fN Tryz.func11, fN Tryz.func99, fN Tryz.func208, fN Tryz.func98, fN Tryz.func180, fN Tryz.func4, fN Tryz.func144, fN Tryz.func101, fN Tryz.func158, fN Tryz.func112, fN Tryz.func105, fN Tryz.func55, fN Tryz.func190, fN Tryz.func214, fN Tryz.func188, fN Tryz.func151, trivial⟩
set_option maxRecDepth 100000 in
theorem gc11 : Gc 11 := ⟨fN Tryz.func236, fN Tryz.func228, fN Tryz.func21, fN Tryz.func189, fN Tryz.func152, fN Tryz.func237, fN Tryz.func230, fN Tryz.func229, fN Tryz.func216, fN Tryz.func192, fN Tryz.func155, fN Tryz.func156, fN Tryz.func193, fN Tryz.func157, fN Tryz.func194, fN Tryz.func154, trivial⟩
set_option maxRecDepth 100000 in
theorem gc12 : Gc 12 := ⟨fN Tryz.func106, fN Tryz.func108, fN Tryz.func57, fN Tryz.func20, fN Tryz.func107, fN Tryz.func109, fN Tryz.func58, fN Tryz.func217, fN Tryz.func56, fN Tryz.func19, fN Tryz.func218, fN Tryz.func150, fN Tryz.func153, fN Tryz.func241, fN Tryz.func60, fN Tryz.func23, trivial⟩
set_option maxRecDepth 100000 in
theorem gc13 : Gc 13 := ⟨fN Tryz.func59, fN Tryz.func22, fN Tryz.func18, fN Tryz.func111, fN Tryz.func215, fN Tryz.func110, fN Tryz.func191, fN Tryz.func6, fN Tryz.func159, fN Tryz.func113, fN Tryz.func5, fN Tryz.func146, fN Tryz.func103, fN Tryz.func148, fN Tryz.func212, fN Tryz.func53, trivial⟩
set_option maxRecDepth 100000 in
theorem gc14 : Gc 14 := ⟨fN Tryz.func184, fN Tryz.func145, fN Tryz.func50, fN Tryz.func213, fN Tryz.func54, fN Tryz.func186, fN Tryz.func147, fN Tryz.func51, fN Tryz.func52, fN Tryz.func102, fN Tryz.func49, fN Tryz.func17, fN Tryz.func187, fN Tryz.func104, fN Tryz.func149, fN Tryz.func185, trivial⟩
theorem Gc_all : ∀ {n : Nat} {l : List (Nat × Nat)}, (∀ c, c < n → Al Fine ((l.drop (c * 16)).take 16)) → l.length ≤ n * 16 → ∀ p ∈ l, Fine p := by
 intro n l h hl p hp
 obtain ⟨i, hi, rfl⟩ := List.getElem_of_mem hp
 refine Al_mem (h (i / 16) (by omega)) _ (List.mem_iff_getElem?.2 ⟨i % 16, ?_⟩)
 rw [List.getElem?_take, if_pos (Nat.mod_lt _ (by decide)), List.getElem?_drop, show i / 16 * 16 + i % 16 = i by omega]
 simp [hi]
set_option maxRecDepth 100000 in
theorem fines : ∀ p ∈ kp, Fine p := Gc_all (n := 15) (fun c hc => match c, hc with
 | 0, _ => gc0
 | 1, _ => gc1
 | 2, _ => gc2
 | 3, _ => gc3
 | 4, _ => gc4
 | 5, _ => gc5
 | 6, _ => gc6
 | 7, _ => gc7
 | 8, _ => gc8
 | 9, _ => gc9
 | 10, _ => gc10
 | 11, _ => gc11
 | 12, _ => gc12
 | 13, _ => gc13
 | 14, _ => gc14
 | c + 15, hc => by omega) (by decide)
theorem mixed : Tryz.prog.follows .mixedOrders = true := by kernel_rfl
theorem insOnly : kp.all (fun p => match Tryz.prog.funcs[p.1]? with | some fn => !(fn.origin == "slices.Insert") | none => true) = true := by kernel_rfl
theorem ins : ∀ f k fn t e z b, Gi.kf f = some k → Tryz.prog.funcs[f]? = some fn → fn.origin = "slices.Insert" → fn.params.toList.head? = some t → elemT Tryz.prog t = some e → szT Tryz.prog e = some z → byT Tryz.prog e = some b → InsOK Tryz.prog f z b := by
 intro f k fn t e z b hk hfn horg hpar he hz hb
 have h1 := List.all_eq_true.1 insOnly (f, k) (kp_mem (l := kp) (f := f) (k := k) hk)
 simp only [hfn, horg, beq_self_eq_true, Bool.not_true, Bool.false_or, Bool.or_eq_true, beq_iff_eq] at h1
 cases h1
set_option maxRecDepth 100000 in
theorem smalls : kp.all (fun p => Nat.blt p.2 modK && (Ph (p.2 + modK)).isNone) = true := by kernel_rfl
theorem small : ∀ f k, Gi.kf f = some k → k < modK ∧ Ph (k + modK) = none := by
 intro f k h
 have h1 := List.all_eq_true.1 smalls (f, k) (kp_mem (l := kp) (f := f) (k := k) h)
 simp only [Bool.and_eq_true, Option.isNone_iff_eq_none] at h1
 exact ⟨by simpa using h1.1, h1.2⟩
theorem impl : Impl Gm Tryz.prog Gi.kf Ph extF := ⟨rfl, mixed, fun f k h => fines (f, k) (kp_mem (l := kp) (f := f) (k := k) h), small, ins⟩
end Go.Proofs.YthaajpjcibaopaaGreat
namespace Go.Proofs.YthaajpjcibaopaaGreat
open Go
set_option maxRecDepth 100000
theorem and2 {a b : Bool} (h : a = true) (k : b = true) : (a && b) = true := by rw [h, k]; rfl
theorem fLaid : laidOutB Tryz.prog = true := by kernel_rfl
theorem fMaps : mapsRowed Tryz.prog = true := by kernel_rfl
theorem fKeys : (Rows.fnExactSetOnlineRow.plainKeys == Tryz.prog.plainKeys) = true := by kernel_rfl
theorem fHeard : Tryz.prog.stopsHeard = true := by kernel_rfl
theorem fEnter : Tryz.prog.mayEnter = true := by kernel_rfl
theorem fLift : (Rows.fnExactSetOnlineRow.lifted == Tryz.prog.liftsFinal) = true := by kernel_rfl
theorem fMake : (Tryz.prog.make == some Rows.fnExactSetOnlineRow.make) = true := by kernel_rfl
end Go.Proofs.YthaajpjcibaopaaGreat
