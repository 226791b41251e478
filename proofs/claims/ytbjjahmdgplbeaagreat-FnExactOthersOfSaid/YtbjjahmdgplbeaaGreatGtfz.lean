/- The functions of this translation are those of the table: each by one closed fact of the kernel. Written by program. -/
import Derived.Test.YtbjjahmdgplbeaaGreatGzl
import Derived.Test.YtbjjahmdgplbeaaGreatRows
import Derived.KernelRfl
namespace Go.Proofs.YtbjjahmdgplbeaaGreat
open Go Go.RowKit Gi
set_option linter.unusedVariables false
set_option maxHeartbeats 8000000
set_option linter.unusedSimpArgs false
def kp : List (Nat × Nat) := [(3, 416), (5, 104), (6, 418), (7, 106), (8, 419), (9, 208), (10, 108), (11, 420), (12, 421), (17, 127), (18, 128), (19, 129), (20, 130), (21, 131), (22, 132), (23, 133), (24, 134), (25, 135), (26, 136), (27, 137), (28, 138), (29, 139), (30, 140), (31, 141), (32, 142), (33, 143), (34, 144), (35, 426), (36, 427), (37, 428), (38, 429), (39, 430), (40, 431), (41, 432), (50, 163), (51, 10), (52, 164), (53, 165), (54, 166), (55, 15), (56, 167), (57, 12), (58, 168), (59, 169), (60, 170), (61, 17), (62, 171), (63, 14), (64, 172), (65, 173), (66, 174), (67, 19), (68, 441), (69, 442), (70, 443), (71, 444), (72, 445), (73, 446), (74, 447), (75, 448), (76, 449), (98, 198), (99, 40), (100, 41), (101, 199), (102, 200), (103, 20), (104, 46), (105, 47), (106, 201), (107, 42), (108, 43), (109, 202), (110, 203), (111, 204), (112, 22), (113, 48), (114, 49), (115, 205), (116, 44), (117, 45), (118, 206), (119, 207), (120, 24), (121, 50), (122, 51), (123, 471), (124, 472), (125, 473), (126, 474), (127, 475), (139, 227), (140, 228), (141, 229), (142, 230), (143, 70), (144, 71), (145, 72), (146, 52), (147, 79), (148, 231), (149, 232), (150, 233), (151, 234), (152, 73), (153, 74), (154, 75), (155, 53), (156, 80), (157, 81), (158, 235), (159, 236), (160, 237), (161, 238), (162, 76), (163, 77), (164, 78), (165, 55), (166, 82), (167, 83), (168, 485), (180, 249), (181, 250), (182, 251), (183, 252), (184, 92), (185, 5), (186, 30), (187, 253), (188, 254), (189, 255), (190, 256), (191, 93), (192, 7), (193, 34), (194, 257), (195, 258), (196, 259), (197, 260), (198, 94), (199, 9), (200, 38), (210, 262), (211, 57), (212, 263), (213, 264), (214, 31), (215, 265), (216, 60), (217, 266), (218, 267), (219, 35), (220, 268), (221, 63), (222, 269), (223, 270), (224, 39), (228, 271), (229, 272), (230, 64), (231, 273), (232, 274), (233, 66), (234, 275), (235, 276), (236, 69), (237, 277), (238, 87), (239, 278), (240, 89), (241, 279), (242, 91), (243, 280), (244, 281), (245, 282), (13, 422)]
def kfS (f : Nat) : Option Nat := kp.lookup f
noncomputable instance kfI : KF := ⟨kfS, Tryz.prog⟩
theorem kp_mem : ∀ {l : List (Nat × Nat)} {f k : Nat}, l.lookup f = some k → (f, k) ∈ l
  | [], _, _, h => by simp at h
  | (a, b) :: l, f, k, h => by
    rw [List.lookup_cons] at h
    split at h
    · rename_i he
      cases h
      rw [show f = a by simpa using he]
      exact List.mem_cons_self
    · exact List.mem_cons_of_mem _ (kp_mem h)
def Gm : Ctx := ⟨fun _ => True, 0, fun _ _ _ _ => trivial, fun _ _ => Nat.zero_le _⟩
def Fine (p : Nat × Nat) : Prop := (∃ fn af, Tryz.prog.funcs[p.1]? = some fn ∧ cFn Tryz.prog Gi.kf fn = some af ∧ Ph p.2 = some af) ∨
  (Ph p.2 = none ∧ (∃ fn, Tryz.prog.funcs[p.1]? = some fn ∧ fn.body.isNone = false ∧ (fn.name == "runtime.NumGoroutine") = false) ∧ ∀ xs r, extF p.2 xs = some r → Sound Gm Tryz.prog p.1 xs r)
def Al {α : Type} (P : α → Prop) : List α → Prop
  | [] => True
  | a :: l => P a ∧ Al P l
theorem Al_mem {α : Type} {P : α → Prop} : ∀ {l : List α}, Al P l → ∀ a ∈ l, P a
  | [], _, a, m => by cases m
  | b :: l, h, a, m => by
    rcases List.mem_cons.1 m with rfl | m
    · exact h.1
    · exact Al_mem h.2 a m
theorem fN {i k : Nat} {fn : _} {af : AFn} (h : Tryz.prog.funcs[i]? = some fn) (h3 : Ph k = some af := by exact rfl) (h2 : cFn Tryz.prog Gi.kf fn = some af := by as_aux_lemma => kernel_rfl) : Fine (i, k) := Or.inl ⟨fn, af, h, h2, h3⟩
def Gc (c : Nat) : Prop := Al Fine ((kp.drop (c * 16)).take 16)
set_option maxRecDepth 100000 in
theorem gc0 : Gc 0 := ⟨fN Tryz.func3, fN Tryz.func5, fN Tryz.func6, fN Tryz.func7, fN Tryz.func8, fN Tryz.func9, fN Tryz.func10, fN Tryz.func11, fN Tryz.func12, fN Tryz.func17, fN Tryz.func18, fN Tryz.func19, fN Tryz.func20, fN Tryz.func21, fN Tryz.func22, fN Tryz.func23, trivial⟩
set_option maxRecDepth 100000 in
theorem gc1 : Gc 1 := ⟨fN Tryz.func24, fN Tryz.func25, fN Tryz.func26, fN Tryz.func27, fN Tryz.func28, fN Tryz.func29, fN Tryz.func30, fN Tryz.func31, fN Tryz.func32, fN Tryz.func33, fN Tryz.func34, fN Tryz.func35, fN Tryz.func36, fN Tryz.func37, fN Tryz.func38, fN Tryz.func39, trivial⟩
set_option maxRecDepth 100000 in
theorem gc2 : Gc 2 := ⟨fN Tryz.func40, fN Tryz.func41, fN Tryz.func50, fN Tryz.func51, fN Tryz.func52, fN Tryz.func53, fN Tryz.func54, fN Tryz.func55, fN Tryz.func56, fN Tryz.func57, fN Tryz.func58, fN Tryz.func59, fN Tryz.func60, fN Tryz.func61, fN Tryz.func62, fN Tryz.func63, trivial⟩
set_option maxRecDepth 100000 in
theorem gc3 : Gc 3 := ⟨fN Tryz.func64, fN Tryz.func65, fN Tryz.func66, fN Tryz.func67, fN Tryz.func68, fN Tryz.func69, fN Tryz.func70, fN Tryz.func71, fN Tryz.func72, fN Tryz.func73, fN Tryz.func74, fN Tryz.func75, fN Tryz.func76, fN Tryz.func98, fN Tryz.func99, fN Tryz.func100, trivial⟩
set_option maxRecDepth 100000 in
theorem gc4 : Gc 4 := ⟨fN Tryz.func101, fN Tryz.func102, fN Tryz.func103, fN Tryz.func104, fN Tryz.func105, fN Tryz.func106, fN Tryz.func107, fN Tryz.func108, fN Tryz.func109, fN Tryz.func110, fN Tryz.func111, fN Tryz.func112, fN Tryz.func113, fN Tryz.func114, fN Tryz.func115, fN Tryz.func116, trivial⟩
set_option maxRecDepth 100000 in
theorem gc5 : Gc 5 := ⟨fN Tryz.func117, fN Tryz.func118, fN Tryz.func119, fN Tryz.func120, fN Tryz.func121, fN Tryz.func122, fN Tryz.func123, fN Tryz.func124, fN Tryz.func125, fN Tryz.func126, fN Tryz.func127, fN Tryz.func139, fN Tryz.func140, fN Tryz.func141, fN Tryz.func142, fN Tryz.func143, trivial⟩
set_option maxRecDepth 100000 in
theorem gc6 : Gc 6 := ⟨fN Tryz.func144, fN Tryz.func145, fN Tryz.func146, fN Tryz.func147, fN Tryz.func148, fN Tryz.func149, fN Tryz.func150, fN Tryz.func151, fN Tryz.func152, fN Tryz.func153, fN Tryz.func154, fN Tryz.func155, fN Tryz.func156, fN Tryz.func157, fN Tryz.func158, fN Tryz.func159, trivial⟩
set_option maxRecDepth 100000 in
theorem gc7 : Gc 7 := ⟨fN Tryz.func160, fN Tryz.func161, fN Tryz.func162, fN Tryz.func163, fN Tryz.func164, fN Tryz.func165, fN Tryz.func166, fN Tryz.func167, fN Tryz.func168, fN Tryz.func180, fN Tryz.func181, fN Tryz.func182, fN Tryz.func183, fN Tryz.func184, fN Tryz.func185, fN Tryz.func186, trivial⟩
set_option maxRecDepth 100000 in
theorem gc8 : Gc 8 := ⟨fN Tryz.func187, fN Tryz.func188, fN Tryz.func189, fN Tryz.func190, fN Tryz.func191, fN Tryz.func192, fN Tryz.func193, fN Tryz.func194, fN Tryz.func195, fN Tryz.func196, fN Tryz.func197, fN Tryz.func198, fN Tryz.func199, fN Tryz.func200, fN Tryz.func210, fN Tryz.func211, trivial⟩
set_option maxRecDepth 100000 in
theorem gc9 : Gc 9 := ⟨fN Tryz.func212, fN Tryz.func213, fN Tryz.func214, fN Tryz.func215, fN Tryz.func216, fN Tryz.func217, fN Tryz.func218, fN Tryz.func219, fN Tryz.func220, fN Tryz.func221, fN Tryz.func222, fN Tryz.func223, fN Tryz.func224, fN Tryz.func228, fN Tryz.func229, fN Tryz.func230, trivial⟩
set_option maxRecDepth 100000 in
theorem gc10 : Gc 10 := ⟨fN Tryz.func231, fN Tryz.func232, fN Tryz.func233, fN Tryz.func234, fN Tryz.func235, fN Tryz.func236, fN Tryz.func237, fN Tryz.func238, fN Tryz.func239, fN Tryz.func240, fN Tryz.func241, fN Tryz.func242, fN Tryz.func243, fN Tryz.func244, fN Tryz.func245, fN Tryz.func13, trivial⟩
theorem Gc_all : ∀ {n : Nat} {l : List (Nat × Nat)}, (∀ c, c < n → Al Fine ((l.drop (c * 16)).take 16)) → l.length ≤ n * 16 → ∀ p ∈ l, Fine p := by
  intro n l h hl p hp
  obtain ⟨i, hi, rfl⟩ := List.getElem_of_mem hp
  refine Al_mem (h (i / 16) (by omega)) _ (List.mem_iff_getElem?.2 ⟨i % 16, ?_⟩)
  rw [List.getElem?_take, if_pos (Nat.mod_lt _ (by decide)), List.getElem?_drop, show i / 16 * 16 + i % 16 = i by omega]
  simp [hi]
set_option maxRecDepth 100000 in
theorem fines : ∀ p ∈ kp, Fine p := Gc_all (n := 11) (fun c hc => match c, hc with
  | 0, _ => gc0
  | 1, _ => gc1
  | 2, _ => gc2
  | 3, _ => gc3
  | 4, _ => gc4
  | 5, _ => gc5
  | 6, _ => gc6
  | 7, _ => gc7
  | 8, _ => gc8
  | 9, _ => gc9
  | 10, _ => gc10
  | c + 11, hc => by omega) (by decide)
theorem mixed : Tryz.prog.follows .mixedOrders = true := by kernel_rfl
theorem insOnly : kp.all (fun p => match Tryz.prog.funcs[p.1]? with | some fn => !(fn.origin == "slices.Insert") | none => true) = true := by kernel_rfl
theorem ins : ∀ f k fn t e z b, Gi.kf f = some k → Tryz.prog.funcs[f]? = some fn → fn.origin = "slices.Insert" → fn.params.toList.head? = some t → elemT Tryz.prog t = some e → szT Tryz.prog e = some z → byT Tryz.prog e = some b → InsOK Tryz.prog f z b := by
  intro f k fn t e z b hk hfn horg hpar he hz hb
  have h1 := List.all_eq_true.1 insOnly (f, k) (kp_mem (l := kp) (f := f) (k := k) hk)
  simp only [hfn, horg, beq_self_eq_true, Bool.not_true, Bool.false_or, Bool.or_eq_true, beq_iff_eq] at h1
  cases h1
set_option maxRecDepth 100000 in
theorem smalls : kp.all (fun p => Nat.blt p.2 modK && (Ph (p.2 + modK)).isNone) = true := by kernel_rfl
theorem small : ∀ f k, Gi.kf f = some k → k < modK ∧ Ph (k + modK) = none := by
  intro f k h
  have h1 := List.all_eq_true.1 smalls (f, k) (kp_mem (l := kp) (f := f) (k := k) h)
  simp only [Bool.and_eq_true, Option.isNone_iff_eq_none] at h1
  exact ⟨by simpa using h1.1, h1.2⟩
theorem impl : Impl Gm Tryz.prog Gi.kf Ph extF := ⟨rfl, mixed, fun f k h => fines (f, k) (kp_mem (l := kp) (f := f) (k := k) h), small, ins⟩
end Go.Proofs.YtbjjahmdgplbeaaGreat
