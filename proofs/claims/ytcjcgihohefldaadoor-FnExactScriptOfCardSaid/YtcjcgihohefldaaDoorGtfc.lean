/- The functions of this translation are those of the table: each by one closed fact of the kernel; and what the functions do that stand beside it. Written by program. -/
import Derived.Test.YtcjcgihohefldaaDoorGsv
import Derived.Test.YtcjcgihohefldaaDoorGwk
import Derived.Test.YtcjcgihohefldaaDoorRows
import Derived.KernelRfl
namespace Go.Proofs.YtcjcgihohefldaaDoor
open Go Go.RowKit Gi
set_option linter.unusedVariables false
set_option linter.unusedSimpArgs false
set_option maxHeartbeats 8000000
def kpT : List (Nat × Nat) := [(31, 33), (37, 37), (9, 58), (11, 61), (6, 77), (13, 94), (32, 177), (38, 178), (46, 213), (14, 432), (7, 443), (8, 464), (3, 502), (4, 503), (5, 504), (10, 505), (12, 506), (15, 507), (16, 508), (17, 509), (20, 512), (21, 513), (22, 514), (23, 515), (24, 516), (26, 518), (29, 521), (30, 522)]
def kpX : List (Nat × Nat) := [(45, 68), (18, 510), (19, 511)]
def kp : List (Nat × Nat) := kpT ++ kpX
def kfS (f : Nat) : Option Nat := kp.lookup f
noncomputable instance kfI : KF := ⟨kfS, Tryd.prog⟩
theorem lk_mem {α β : Type} [BEq α] [LawfulBEq α] : ∀ {l : List (α × β)} {a : α} {b : β}, l.lookup a = some b → (a, b) ∈ l
  | [], _, _, h => by simp at h
  | (x, y) :: l, a, b, h => by
    rw [List.lookup_cons] at h
    split at h
    · rename_i he
      cases h
      rw [show a = x by simpa using he]
      exact List.mem_cons_self
    · exact List.mem_cons_of_mem _ (lk_mem h)
def G0 (w : World) : Prop := ∃ m, w.cell? ⟨0, 0, none⟩ = some (.int .i64 m)
/-- internal/bytealg.MaxLen holds a number -/
def Gm : Ctx := ⟨G0, 1, fun w w' ⟨m, h⟩ hb => ⟨m, (hb.cell (p := ⟨0, 0, none⟩) (by show (0 : Nat) < 1; omega)).trans h⟩, fun w ⟨m, h⟩ => World.block_lt_of_cell? _ _ h⟩
theorem isMax : Tryd.prog.globalNamed "internal/bytealg.MaxLen" = some 0 := by kernel_rfl
def Tab (p : Nat × Nat) : Prop := ∃ fn af, Tryd.prog.funcs[p.1]? = some fn ∧ cFn Tryd.prog Gi.kf fn = some af ∧ Ph p.2 = some af
def Al {α : Type} (P : α → Prop) : List α → Prop
  | [] => True
  | a :: l => P a ∧ Al P l
theorem Al_mem {α : Type} {P : α → Prop} : ∀ {l : List α}, Al P l → ∀ a ∈ l, P a
  | [], _, a, m => by cases m
  | b :: l, h, a, m => by
    rcases List.mem_cons.1 m with rfl | m
    · exact h.1
    · exact Al_mem h.2 a m
theorem fN {i k : Nat} {fn : _} {af : AFn} (h : Tryd.prog.funcs[i]? = some fn) (h3 : Ph k = some af := by exact rfl) (h2 : cFn Tryd.prog Gi.kf fn = some af := by as_aux_lemma => kernel_rfl) : Tab (i, k) := ⟨fn, af, h, h2, h3⟩
set_option maxRecDepth 100000 in
theorem gT : Al Tab kpT := ⟨fN Tryd.func31, fN Tryd.func37, fN Tryd.func9, fN Tryd.func11, fN Tryd.func6, fN Tryd.func13, fN Tryd.func32, fN Tryd.func38, fN Tryd.func46, fN Tryd.func14, fN Tryd.func7, fN Tryd.func8, fN Tryd.func3, fN Tryd.func4, fN Tryd.func5, fN Tryd.func10, fN Tryd.func12, fN Tryd.func15, fN Tryd.func16, fN Tryd.func17, fN Tryd.func20, fN Tryd.func21, fN Tryd.func22, fN Tryd.func23, fN Tryd.func24, fN Tryd.func26, fN Tryd.func29, fN Tryd.func30, trivial⟩
theorem mixed : Tryd.prog.follows .mixedOrders = true := by kernel_rfl
set_option maxRecDepth 100000 in
theorem insOnly : kp.all (fun p => match Tryd.prog.funcs[p.1]? with | some fn => !(fn.origin == "slices.Insert") | none => true) = true := by kernel_rfl
theorem ins : ∀ f k fn t e z b, Gi.kf f = some k → Tryd.prog.funcs[f]? = some fn → fn.origin = "slices.Insert" → fn.params.toList.head? = some t → elemT Tryd.prog t = some e → szT Tryd.prog e = some z → byT Tryd.prog e = some b → InsOK Tryd.prog f z b := by
  intro f k fn t e z b hk hfn horg hpar he hz hb
  have h1 := List.all_eq_true.1 insOnly (f, k) (lk_mem (l := kp) (a := f) (b := k) hk)
  simp only [hfn, horg, beq_self_eq_true, Bool.not_true] at h1
  cases h1
set_option maxRecDepth 100000 in
theorem smalls : kp.all (fun p => Nat.blt p.2 modK && (Ph (p.2 + modK)).isNone) = true := by kernel_rfl
theorem small : ∀ f k, Gi.kf f = some k → k < modK ∧ Ph (k + modK) = none := by
  intro f k h
  have h1 := List.all_eq_true.1 smalls (f, k) (lk_mem (l := kp) (a := f) (b := k) h)
  simp only [Bool.and_eq_true, Option.isNone_iff_eq_none] at h1
  exact ⟨by simpa using h1.1, h1.2⟩
theorem implOf (ext : Nat → List V → Option V) (h1 : ∀ xs r, ext 68 xs = some r → Sound Gm Tryd.prog 45 xs r) (h2 : ∀ xs r, ext 510 xs = some r → Sound Gm Tryd.prog 18 xs r)
    (h3 : ∀ xs r, ext 511 xs = some r → Sound Gm Tryd.prog 19 xs r) : Impl Gm Tryd.prog Gi.kf Ph ext :=
  ⟨rfl, mixed, fun f k h => by
    have hm : (f, k) ∈ kpT ++ kpX := lk_mem (l := kp) (a := f) (b := k) h
    rcases List.mem_append.1 hm with hm | hm
    · exact Or.inl (Al_mem gT _ hm)
    · refine Or.inr ?_
      simp only [kpX, List.mem_cons, List.mem_nil_iff, or_false, Prod.mk.injEq] at hm
      rcases hm with ⟨rfl, rfl⟩ | ⟨rfl, rfl⟩ | ⟨rfl, rfl⟩
      · exact ⟨by kernel_rfl, ⟨_, Tryd.func45, by kernel_rfl, by kernel_rfl⟩, h1⟩
      · exact ⟨by kernel_rfl, ⟨_, Tryd.func18, by kernel_rfl, by kernel_rfl⟩, h2⟩
      · exact ⟨by kernel_rfl, ⟨_, Tryd.func19, by kernel_rfl, by kernel_rfl⟩, h3⟩, small, ins⟩
theorem res0 {M0 : Nat → Prop} {w w' : World} {r : V} {v : Value} (hM : ∀ b, M0 b → b < w.heap.size) (hb : Below w.heap.size w w') (ht : thaw [] r = (r, [])) (hv : VR (Mu M0 [] []) w' [] [] r v) : ResR M0 w.heap.size w' r v := by
  refine ⟨[], ?_, ?_⟩
  · rw [ht]
    exact ⟨⟨rfl, fun b h => ⟨Nat.lt_of_lt_of_le (hM b h) hb.size, fun o ob ho => by simp at ho⟩, hb.size, fun i x r hi => by simp at hi, fun i i' x x' b h1 => by simp at h1⟩, fun _ => [], ⟨fun i x b hi => by simp at hi, fun i x z2 es2 b hi => by simp at hi⟩, fun _ _ => rfl, nofun⟩
  · rw [ht]
    exact hv
theorem str1 {M : Nat → Prop} {w : World} {s : List UInt8} {vals : Array Value} (ha : ArgsR M w [vstr s] vals.toList) : vals = #[.string ⟨s.toArray⟩] := by
  obtain ⟨hl, hv⟩ := ha
  obtain ⟨v, hvs⟩ : ∃ v, vals.toList = [v] := List.length_eq_one_iff.1 hl.symm
  have h0 : VR M w [] [] (vstr s) v := hv 0 _ v rfl (by rw [hvs]; rfl)
  have hvn : v = .string ⟨s.toArray⟩ := by simpa [VR, LR, Reads] using h0
  cases vals; simp_all
theorem decD (d : Nat) (h : d < 10) : Lib.decDigits d = [UInt8.ofNat (48 + d)] := by
  unfold Lib.decDigits
  rw [dif_pos h]
theorem atoiD (d : Nat) (h : d < 10) : Lib.atoi [UInt8.ofNat (48 + d)] = some (d : Int) := by
  rcases (show d = 0 ∨ d = 1 ∨ d = 2 ∨ d = 3 ∨ d = 4 ∨ d = 5 ∨ d = 6 ∨ d = 7 ∨ d = 8 ∨ d = 9 by omega) with rfl | rfl | rfl | rfl | rfl | rfl | rfl | rfl | rfl | rfl <;> rfl
theorem itoa_sound : ∀ xs r, eItoa xs = some r → Sound Gm Tryd.prog 45 xs r := by
  intro xs r h
  unfold eItoa at h
  split at h
  · rename_i n
    simp only [dig] at h
    split at h
    · rename_i hn
      cases h
      obtain ⟨d, rfl⟩ := Int.eq_ofNat_of_zero_le hn.1
      refine ⟨rfl, fun M0 w vals hG hM ha => ?_⟩
      obtain ⟨hl, hv⟩ := ha
      obtain ⟨v, hvs⟩ : ∃ v, vals.toList = [v] := List.length_eq_one_iff.1 hl.symm
      have h0 : VR M0 w [] [] (vint .i64 d) v := hv 0 _ v rfl (by rw [hvs]; rfl)
      have hvn : v = .int .i64 d := by simpa [VR, LR, Reads] using h0
      obtain rfl : vals = #[.int .i64 d] := by cases vals; simp_all
      refine (Tryd.strconv_Itoa_small d (by omega) w).mono fun e w' ⟨he, hw'⟩ => ?_
      subst hw'
      rw [decD d (by omega)] at he
      exact ⟨_, he, Below.refl _ _, res0 hM (Below.refl _ _) rfl (by simp [VR, LR, Reads])⟩
    · cases h
  · cases h
theorem impl0 : Impl Gm Tryd.prog Gi.kf Ph ext0 := implOf ext0 (fun xs r h => itoa_sound xs r h) (fun xs r h => by simp [ext0] at h) (fun xs r h => by simp [ext0] at h)
set_option maxRecDepth 100000 in
theorem keyF : Gi.kf 29 = some 521 := by kernel_rfl
theorem fmt_calls {k r n : Int} {t s : List UInt8} (h : run Ph ext0 100 521 [.agg [.pv (.int .i64 k), .pv (.int .i64 r), .pv (.int .i64 n), .pv (.str t)]] = some (vstr s)) (W : World) (hG : ∃ m, W.cell? ⟨0, 0, none⟩ = some (.int .i64 m)) :
    Calls Tryd.prog 29 #[.agg (XC k r n ⟨t.toArray⟩)] W fun e w' => e = .returned (.string ⟨s.toArray⟩) ∧ Below W.heap.size W w' := by
  refine ((run_sound impl0 100 _ _ _ _ keyF h).2 (fun _ => False) W #[.agg (XC k r n ⟨t.toArray⟩)] hG nofun ⟨rfl, fun i x u hx hu => ?_⟩).mono fun e w' ⟨v, he, hb, ρ', _, hv⟩ => ?_
  · match i, hx, hu with
    | 0, hx, hu =>
      simp at hx hu; subst hx; subst hu
      refine ⟨_, rfl, rfl, fun i l v hl hv => ?_⟩
      match i, hl, hv with
      | 0, hl, hv => simp at hl hv; subst hl; subst hv; simp [LR, Reads]
      | 1, hl, hv => simp at hl hv; subst hl; subst hv; simp [LR, Reads]
      | 2, hl, hv => simp at hl hv; subst hl; subst hv; simp [LR, Reads]
      | 3, hl, hv => simp at hl hv; subst hl; subst hv; simp [LR, Reads]
      | i + 4, hl, hv => simp at hl
    | i + 1, hx, hu => simp at hx
  · have : v = .string ⟨s.toArray⟩ := by simpa [thaw, thawL, VR, LR, Reads] using hv
    exact ⟨by rw [he, this], hb⟩
theorem pint (d : Nat) (h : d < 10) (W : World) : Calls Tryd.prog 28 #[.string ⟨#[UInt8.ofNat (48 + d)]⟩] W fun e w' => e = .returned (.tuple #[.int .i64 d, .bool true]) ∧ Below W.heap.size W w' := by
  refine (parseInt d (by omega) _ (by rw [decD d h]) (by show 1 ≤ 18; omega) (atoiD d h) W).mono fun e w' ⟨he, t, hw⟩ => ⟨he, ?_⟩
  rw [hw]
  exact below_bytes W t
def Line (x : List UInt8 × Int × Int × Int × List UInt8) : Prop := ∀ (m : Int) (w : World), w.cell? ⟨0, 0, none⟩ = some (.int .i64 m) →
  Calls Tryd.prog 19 #[.string ⟨x.1.toArray⟩] w fun e w' => e = .returned (.tuple #[.agg (XC x.2.1 x.2.2.1 x.2.2.2.1 ⟨x.2.2.2.2.toArray⟩), .bool true]) ∧ Below w.heap.size w w'
theorem kinds {w0 : ByteArray} {kd : Nat} (h : ([1, 2, 3, 4, 5, 6, 7, 8, 9].all fun k => ((wd k).toList == w0.toList) == decide (k = kd)) = true) : ∀ k, 1 ≤ k → k ≤ 9 → ((wd k).toList == w0.toList) = decide (k = kd) := by
  intro k h1 h9
  have := List.all_eq_true.1 h k (by
    rcases (show k = 1 ∨ k = 2 ∨ k = 3 ∨ k = 4 ∨ k = 5 ∨ k = 6 ∨ k = 7 ∨ k = 8 ∨ k = 9 by omega) with rfl | rfl | rfl | rfl | rfl | rfl | rfl | rfl | rfl <;> simp)
  simpa using this
set_option maxRecDepth 100000 in
theorem line0 : Line ([115, 101, 116, 32, 48, 32, 53], 1, 0, 5, []) := fun m w hm => pA ⟨#[115, 101, 116, 32, 48, 32, 53]⟩ ⟨#[115, 101, 116]⟩ ⟨#[48]⟩ ⟨#[53]⟩ m w (by decide) hm (by kernel_rfl) (by kernel_rfl) 1 ⟨by decide, by decide⟩ (kinds (by kernel_rfl)) (by decide) (by decide) (by decide) 0 (pint 0 (by decide)) 5 (pint 5 (by decide)) (fmt_calls (k := 1) (r := 0) (n := 5) (t := []) (s := [115, 101, 116, 32, 48, 32, 53]) (by kernel_rfl))
set_option maxRecDepth 100000 in
theorem line1 : Line ([112, 117, 116, 32, 48, 32, 49, 32, 97], 7, 0, 1, [97]) := fun m w hm => pB ⟨#[112, 117, 116, 32, 48, 32, 49, 32, 97]⟩ ⟨#[112, 117, 116]⟩ ⟨#[48]⟩ ⟨#[49]⟩ ⟨#[97]⟩ m w (by decide) hm (by kernel_rfl) (by kernel_rfl) 7 ⟨by decide, by decide⟩ (kinds (by kernel_rfl)) (by decide) (by decide) (by decide) 0 (pint 0 (by decide)) 1 (pint 1 (by decide)) (fmt_calls (k := 7) (r := 0) (n := 1) (t := [97]) (s := [112, 117, 116, 32, 48, 32, 49, 32, 97]) (by kernel_rfl))
set_option maxRecDepth 100000 in
theorem line2 : Line ([115, 101, 110, 100, 32, 48, 32, 49, 32, 97], 8, 0, 1, [97]) := fun m w hm => pB ⟨#[115, 101, 110, 100, 32, 48, 32, 49, 32, 97]⟩ ⟨#[115, 101, 110, 100]⟩ ⟨#[48]⟩ ⟨#[49]⟩ ⟨#[97]⟩ m w (by decide) hm (by kernel_rfl) (by kernel_rfl) 8 ⟨by decide, by decide⟩ (kinds (by kernel_rfl)) (by decide) (by decide) (by decide) 0 (pint 0 (by decide)) 1 (pint 1 (by decide)) (fmt_calls (k := 8) (r := 0) (n := 1) (t := [97]) (s := [115, 101, 110, 100, 32, 48, 32, 49, 32, 97]) (by kernel_rfl))
set_option maxRecDepth 100000 in
theorem line3 : Line ([101, 110, 100], 9, 0, 0, []) := fun m w hm => pE ⟨#[101, 110, 100]⟩ ⟨#[101, 110, 100]⟩ m w (by decide) hm (by kernel_rfl) (by kernel_rfl) (kinds (by kernel_rfl)) (fmt_calls (k := 9) (r := 0) (n := 0) (t := []) (s := [101, 110, 100]) (by kernel_rfl))
set_option maxRecDepth 100000 in
theorem line4 : Line ([103, 101, 116, 32, 48, 32, 49, 32, 97], 6, 0, 1, [97]) := fun m w hm => pB ⟨#[103, 101, 116, 32, 48, 32, 49, 32, 97]⟩ ⟨#[103, 101, 116]⟩ ⟨#[48]⟩ ⟨#[49]⟩ ⟨#[97]⟩ m w (by decide) hm (by kernel_rfl) (by kernel_rfl) 6 ⟨by decide, by decide⟩ (kinds (by kernel_rfl)) (by decide) (by decide) (by decide) 0 (pint 0 (by decide)) 1 (pint 1 (by decide)) (fmt_calls (k := 6) (r := 0) (n := 1) (t := [97]) (s := [103, 101, 116, 32, 48, 32, 49, 32, 97]) (by kernel_rfl))
set_option maxRecDepth 100000 in
theorem line5 : Line ([97, 100, 100, 32, 48, 32, 48], 2, 0, 0, []) := fun m w hm => pA ⟨#[97, 100, 100, 32, 48, 32, 48]⟩ ⟨#[97, 100, 100]⟩ ⟨#[48]⟩ ⟨#[48]⟩ m w (by decide) hm (by kernel_rfl) (by kernel_rfl) 2 ⟨by decide, by decide⟩ (kinds (by kernel_rfl)) (by decide) (by decide) (by decide) 0 (pint 0 (by decide)) 0 (pint 0 (by decide)) (fmt_calls (k := 2) (r := 0) (n := 0) (t := []) (s := [97, 100, 100, 32, 48, 32, 48]) (by kernel_rfl))
set_option maxRecDepth 100000 in
theorem line6 : Line ([112, 117, 116, 32, 48, 32, 50, 32, 98], 7, 0, 2, [98]) := fun m w hm => pB ⟨#[112, 117, 116, 32, 48, 32, 50, 32, 98]⟩ ⟨#[112, 117, 116]⟩ ⟨#[48]⟩ ⟨#[50]⟩ ⟨#[98]⟩ m w (by decide) hm (by kernel_rfl) (by kernel_rfl) 7 ⟨by decide, by decide⟩ (kinds (by kernel_rfl)) (by decide) (by decide) (by decide) 0 (pint 0 (by decide)) 2 (pint 2 (by decide)) (fmt_calls (k := 7) (r := 0) (n := 2) (t := [98]) (s := [112, 117, 116, 32, 48, 32, 50, 32, 98]) (by kernel_rfl))
set_option maxRecDepth 100000 in
theorem line7 : Line ([115, 101, 110, 100, 32, 48, 32, 50, 32, 98], 8, 0, 2, [98]) := fun m w hm => pB ⟨#[115, 101, 110, 100, 32, 48, 32, 50, 32, 98]⟩ ⟨#[115, 101, 110, 100]⟩ ⟨#[48]⟩ ⟨#[50]⟩ ⟨#[98]⟩ m w (by decide) hm (by kernel_rfl) (by kernel_rfl) 8 ⟨by decide, by decide⟩ (kinds (by kernel_rfl)) (by decide) (by decide) (by decide) 0 (pint 0 (by decide)) 2 (pint 2 (by decide)) (fmt_calls (k := 8) (r := 0) (n := 2) (t := [98]) (s := [115, 101, 110, 100, 32, 48, 32, 50, 32, 98]) (by kernel_rfl))
set_option maxRecDepth 100000 in
theorem line8 : Line ([102, 101, 116, 99, 104, 32, 48, 32, 115, 116, 121, 108, 101], 5, 0, 0, [115, 116, 121, 108, 101]) := fun m w hm => pF ⟨#[102, 101, 116, 99, 104, 32, 48, 32, 115, 116, 121, 108, 101]⟩ ⟨#[102, 101, 116, 99, 104]⟩ ⟨#[48]⟩ ⟨#[115, 116, 121, 108, 101]⟩ m w (by decide) hm (by kernel_rfl) (by kernel_rfl) (kinds (by kernel_rfl)) 0 (pint 0 (by decide)) (fmt_calls (k := 5) (r := 0) (n := 0) (t := [115, 116, 121, 108, 101]) (s := [102, 101, 116, 99, 104, 32, 48, 32, 115, 116, 121, 108, 101]) (by kernel_rfl))
set_option maxRecDepth 100000 in
theorem line9 : Line ([105, 102, 32, 48, 32, 51], 3, 0, 3, []) := fun m w hm => pA ⟨#[105, 102, 32, 48, 32, 51]⟩ ⟨#[105, 102]⟩ ⟨#[48]⟩ ⟨#[51]⟩ m w (by decide) hm (by kernel_rfl) (by kernel_rfl) 3 ⟨by decide, by decide⟩ (kinds (by kernel_rfl)) (by decide) (by decide) (by decide) 0 (pint 0 (by decide)) 3 (pint 3 (by decide)) (fmt_calls (k := 3) (r := 0) (n := 3) (t := []) (s := [105, 102, 32, 48, 32, 51]) (by kernel_rfl))
set_option maxRecDepth 100000 in
theorem line10 : Line ([112, 117, 116, 32, 48, 32, 51, 32, 100, 111, 110, 101], 7, 0, 3, [100, 111, 110, 101]) := fun m w hm => pB ⟨#[112, 117, 116, 32, 48, 32, 51, 32, 100, 111, 110, 101]⟩ ⟨#[112, 117, 116]⟩ ⟨#[48]⟩ ⟨#[51]⟩ ⟨#[100, 111, 110, 101]⟩ m w (by decide) hm (by kernel_rfl) (by kernel_rfl) 7 ⟨by decide, by decide⟩ (kinds (by kernel_rfl)) (by decide) (by decide) (by decide) 0 (pint 0 (by decide)) 3 (pint 3 (by decide)) (fmt_calls (k := 7) (r := 0) (n := 3) (t := [100, 111, 110, 101]) (s := [112, 117, 116, 32, 48, 32, 51, 32, 100, 111, 110, 101]) (by kernel_rfl))
set_option maxRecDepth 100000 in
theorem line11 : Line ([115, 101, 116, 32, 49, 32, 55], 1, 1, 7, []) := fun m w hm => pA ⟨#[115, 101, 116, 32, 49, 32, 55]⟩ ⟨#[115, 101, 116]⟩ ⟨#[49]⟩ ⟨#[55]⟩ m w (by decide) hm (by kernel_rfl) (by kernel_rfl) 1 ⟨by decide, by decide⟩ (kinds (by kernel_rfl)) (by decide) (by decide) (by decide) 1 (pint 1 (by decide)) 7 (pint 7 (by decide)) (fmt_calls (k := 1) (r := 1) (n := 7) (t := []) (s := [115, 101, 116, 32, 49, 32, 55]) (by kernel_rfl))
set_option maxRecDepth 100000 in
theorem line12 : Line ([115, 101, 110, 100, 32, 49, 32, 51, 32, 100, 111, 110, 101], 8, 1, 3, [100, 111, 110, 101]) := fun m w hm => pB ⟨#[115, 101, 110, 100, 32, 49, 32, 51, 32, 100, 111, 110, 101]⟩ ⟨#[115, 101, 110, 100]⟩ ⟨#[49]⟩ ⟨#[51]⟩ ⟨#[100, 111, 110, 101]⟩ m w (by decide) hm (by kernel_rfl) (by kernel_rfl) 8 ⟨by decide, by decide⟩ (kinds (by kernel_rfl)) (by decide) (by decide) (by decide) 1 (pint 1 (by decide)) 3 (pint 3 (by decide)) (fmt_calls (k := 8) (r := 1) (n := 3) (t := [100, 111, 110, 101]) (s := [115, 101, 110, 100, 32, 49, 32, 51, 32, 100, 111, 110, 101]) (by kernel_rfl))
set_option maxRecDepth 100000 in
theorem line13 : Line ([115, 101, 116, 32, 48, 32, 49], 1, 0, 1, []) := fun m w hm => pA ⟨#[115, 101, 116, 32, 48, 32, 49]⟩ ⟨#[115, 101, 116]⟩ ⟨#[48]⟩ ⟨#[49]⟩ m w (by decide) hm (by kernel_rfl) (by kernel_rfl) 1 ⟨by decide, by decide⟩ (kinds (by kernel_rfl)) (by decide) (by decide) (by decide) 0 (pint 0 (by decide)) 1 (pint 1 (by decide)) (fmt_calls (k := 1) (r := 0) (n := 1) (t := []) (s := [115, 101, 116, 32, 48, 32, 49]) (by kernel_rfl))
set_option maxRecDepth 100000 in
theorem line14 : Line ([115, 101, 110, 100, 32, 48, 32, 48, 32, 97], 8, 0, 0, [97]) := fun m w hm => pB ⟨#[115, 101, 110, 100, 32, 48, 32, 48, 32, 97]⟩ ⟨#[115, 101, 110, 100]⟩ ⟨#[48]⟩ ⟨#[48]⟩ ⟨#[97]⟩ m w (by decide) hm (by kernel_rfl) (by kernel_rfl) 8 ⟨by decide, by decide⟩ (kinds (by kernel_rfl)) (by decide) (by decide) (by decide) 0 (pint 0 (by decide)) 0 (pint 0 (by decide)) (fmt_calls (k := 8) (r := 0) (n := 0) (t := [97]) (s := [115, 101, 110, 100, 32, 48, 32, 48, 32, 97]) (by kernel_rfl))
set_option maxRecDepth 100000 in
theorem line15 : Line ([115, 101, 116, 32, 48, 32, 50], 1, 0, 2, []) := fun m w hm => pA ⟨#[115, 101, 116, 32, 48, 32, 50]⟩ ⟨#[115, 101, 116]⟩ ⟨#[48]⟩ ⟨#[50]⟩ m w (by decide) hm (by kernel_rfl) (by kernel_rfl) 1 ⟨by decide, by decide⟩ (kinds (by kernel_rfl)) (by decide) (by decide) (by decide) 0 (pint 0 (by decide)) 2 (pint 2 (by decide)) (fmt_calls (k := 1) (r := 0) (n := 2) (t := []) (s := [115, 101, 116, 32, 48, 32, 50]) (by kernel_rfl))
set_option maxRecDepth 100000 in
theorem line16 : Line ([115, 101, 116, 32, 48, 32, 51], 1, 0, 3, []) := fun m w hm => pA ⟨#[115, 101, 116, 32, 48, 32, 51]⟩ ⟨#[115, 101, 116]⟩ ⟨#[48]⟩ ⟨#[51]⟩ m w (by decide) hm (by kernel_rfl) (by kernel_rfl) 1 ⟨by decide, by decide⟩ (kinds (by kernel_rfl)) (by decide) (by decide) (by decide) 0 (pint 0 (by decide)) 3 (pint 3 (by decide)) (fmt_calls (k := 1) (r := 0) (n := 3) (t := []) (s := [115, 101, 116, 32, 48, 32, 51]) (by kernel_rfl))
set_option maxRecDepth 100000 in
theorem line17 : Line ([112, 117, 116, 32, 48, 32, 48, 32, 97], 7, 0, 0, [97]) := fun m w hm => pB ⟨#[112, 117, 116, 32, 48, 32, 48, 32, 97]⟩ ⟨#[112, 117, 116]⟩ ⟨#[48]⟩ ⟨#[48]⟩ ⟨#[97]⟩ m w (by decide) hm (by kernel_rfl) (by kernel_rfl) 7 ⟨by decide, by decide⟩ (kinds (by kernel_rfl)) (by decide) (by decide) (by decide) 0 (pint 0 (by decide)) 0 (pint 0 (by decide)) (fmt_calls (k := 7) (r := 0) (n := 0) (t := [97]) (s := [112, 117, 116, 32, 48, 32, 48, 32, 97]) (by kernel_rfl))
set_option maxRecDepth 100000 in
theorem line18 : Line ([103, 111, 116, 111, 32, 54], 4, 0, 6, []) := fun m w hm => pG ⟨#[103, 111, 116, 111, 32, 54]⟩ ⟨#[103, 111, 116, 111]⟩ ⟨#[54]⟩ m w (by decide) hm (by kernel_rfl) (by kernel_rfl) (kinds (by kernel_rfl)) 6 (pint 6 (by decide)) (fmt_calls (k := 4) (r := 0) (n := 6) (t := []) (s := [103, 111, 116, 111, 32, 54]) (by kernel_rfl))
theorem lines : Al Line lins := ⟨line0, line1, line2, line3, line4, line5, line6, line7, line8, line9, line10, line11, line12, line13, line14, line15, line16, line17, line18, trivial⟩
theorem ins_sound : ∀ xs r, eIns xs = some r → Sound Gm Tryd.prog 19 xs r := by
  intro xs r h
  unfold eIns at h
  split at h
  · rename_i s
    obtain ⟨x, hx, rfl⟩ := Option.map_eq_some_iff.1 h
    have hl := Al_mem lines _ (lk_mem hx)
    refine ⟨rfl, fun M0 w vals hG hM ha => ?_⟩
    obtain ⟨m, hm⟩ := hG
    rw [str1 ha]
    refine (hl m w hm).mono fun e w' ⟨he, hb⟩ => ⟨_, he, hb, res0 hM hb rfl ?_⟩
    refine ⟨_, rfl, rfl, fun i x u hx hu => ?_⟩
    match i, hx, hu with
    | 0, hx, hu =>
      simp at hx hu; subst hx; subst hu
      refine ⟨_, rfl, rfl, fun i l v hl hv => ?_⟩
      match i, hl, hv with
      | 0, hl, hv => simp at hl hv; subst hl; subst hv; simp [LR, Reads]
      | 1, hl, hv => simp at hl hv; subst hl; subst hv; simp [LR, Reads]
      | 2, hl, hv => simp at hl hv; subst hl; subst hv; simp [LR, Reads]
      | 3, hl, hv => simp at hl hv; subst hl; subst hv; simp [LR, Reads]
      | i + 4, hl, hv => simp at hl
    | 1, hx, hu => simp at hx hu; subst hx; subst hu; simp [LR, Reads]
    | i + 2, hx, hu => simp at hx
  · cases h
/-- A new row of strings. -/
theorem res_row {M0 : Nat → Prop} {w : World} {l : List (List UInt8)} {T : TypeId} (hM : ∀ b, M0 b → b < w.heap.size) (hl : l.length ≤ maxLen) :
    ResR M0 w.heap.size (w.alloc (.cells ((l.map fun x => Value.string ⟨x.toArray⟩)).toArray T)) (.one (.own 1 (l.map fun x => [PV.str x]))) (.slice (some ⟨w.heap.size, 0, none⟩) l.length l.length) := by
  have hrow : Row (w.alloc (.cells ((l.map fun x => Value.string ⟨x.toArray⟩)).toArray T)) w.heap.size ((l.map fun x => Value.string ⟨x.toArray⟩)).toArray := ⟨T, heap_alloc_new _ _⟩
  have hsz : w.heap.size ≤ (w.alloc (.cells ((l.map fun x => Value.string ⟨x.toArray⟩)).toArray T)).heap.size := by simp
  generalize w.alloc (.cells ((l.map fun x => Value.string ⟨x.toArray⟩)).toArray T) = w' at *
  refine ⟨[some w.heap.size], ⟨⟨rfl, fun b h => ⟨Nat.lt_of_lt_of_le (hM b h) hsz, fun o ob ho _ e => ?_⟩, hsz, fun o ob r ho hr => ?_, fun o o' ob ob' b h1 h2 _ _ h3 h4 => ?_⟩, fun b => if b = w.heap.size then [0] else [], ⟨fun o ob b ho _ hr => ?_, fun o ob z es b ho hd => ?_⟩, fun b hb => ?_, fun b o c τ z es hk => ?_⟩, ?_⟩
  · match o, e with
    | 0, e =>
      simp at e
      have := hM b h
      omega
    | o + 1, e => simp at e
  · match o, ho, hr with
    | 0, ho, hr =>
      simp [thaw, thawL] at ho hr
      subst ho; subst hr
      refine ⟨by decide, fun e he => ?_, Nat.le_refl _, _, l.length, hrow, by simp, by simp, hl, fun i e j p he hp => ?_⟩
      · obtain ⟨x, _, rfl⟩ := List.mem_map.1 he
        rfl
      · obtain ⟨x, hx, rfl⟩ : ∃ x, l[i]? = some x ∧ [PV.str x] = e := by simpa using he
        match j, hp with
        | 0, hp =>
          simp at hp; subst hp
          exact ⟨.string ⟨x.toArray⟩, by simp [hx], by simp [Reads]⟩
        | j + 1, hp => simp at hp
    | o + 1, ho, hr => simp [thaw, thawL] at ho
  · match o, o', h1, h2 with
    | 0, 0, _, _ => rfl
    | o + 1, _, h1, _ => simp [thaw, thawL] at h1
    | _, o' + 1, _, h2 => simp [thaw, thawL] at h2
  · match o, ho, hr with
    | 0, ho, hr =>
      simp at hr
      rw [if_pos hr.symm]
    | o + 1, ho, hr => simp [thaw, thawL] at ho
  · match o, ho with
    | 0, ho =>
      simp [thaw, thawL] at ho
      subst ho
      cases hd
    | o + 1, ho => simp [thaw, thawL] at ho
  · rw [if_neg (by have := hrow.lt; omega)]
  · split at hk <;> cases hk
  · refine ⟨some w.heap.size, .arr 1 (l.map fun x => [PV.str x]), rfl, rfl, ?_⟩
    exact ⟨_, l.length, hrow, by simp, by simp, hl, by simp⟩
def Scr (s : List UInt8) : Prop := s.length < 1000 ∧ Lib.countB ⟨s.toArray⟩ ⟨#[59]⟩ + 1 = (cutAt 59 s).length ∧ Lib.splitB ⟨#[59]⟩ 0 (Lib.countB ⟨s.toArray⟩ ⟨#[59]⟩) ⟨s.toArray⟩ = (cutAt 59 s).map fun x => ⟨x.toArray⟩
set_option maxRecDepth 100000 in
theorem scripts : Al Scr scrs := ⟨⟨by decide, by kernel_rfl, by kernel_rfl⟩, ⟨by decide, by kernel_rfl, by kernel_rfl⟩, ⟨by decide, by kernel_rfl, by kernel_rfl⟩, ⟨by decide, by kernel_rfl, by kernel_rfl⟩, trivial⟩
theorem cut_len (c : UInt8) : ∀ s : List UInt8, (cutAt c s).length ≤ s.length + 1
  | [] => Nat.le_refl _
  | x :: r => by
    have := cut_len c r
    simp only [cutAt]
    split
    · simp; omega
    · split <;> simp_all <;> omega
theorem split_sound : ∀ xs r, eSplit xs = some r → Sound Gm Tryd.prog 18 xs r := by
  intro xs r h
  unfold eSplit at h
  split at h
  · rename_i s sep
    split at h
    · rename_i hs
      obtain ⟨hs, rfl⟩ := hs
      cases h
      obtain ⟨h1, h2, h3⟩ := Al_mem scripts _ hs
      refine ⟨rfl, fun M0 w vals hG hM ha => ?_⟩
      obtain ⟨m, hm⟩ := hG
      obtain ⟨hl, hv⟩ := ha
      obtain ⟨v, u, hvs⟩ : ∃ v u, vals.toList = [v, u] := by
        match hq : vals.toList, hl with
        | [v, u], _ => exact ⟨v, u, rfl⟩
      have h0 : VR M0 w [] [] (vstr s) v := hv 0 _ v rfl (by rw [hvs]; rfl)
      have h00 : VR M0 w [] [] (vstr [59]) u := hv 1 _ u rfl (by rw [hvs]; rfl)
      obtain rfl : v = .string ⟨s.toArray⟩ := by simpa [VR, LR, Reads] using h0
      obtain rfl : u = .string ⟨#[59]⟩ := by simpa [VR, LR, Reads] using h00
      obtain rfl : vals = #[.string ⟨s.toArray⟩, .string ⟨#[59]⟩] := by cases vals; simp_all
      refine (Tryd.strings_Split ⟨s.toArray⟩ ⟨#[59]⟩ m w (by show s.toArray.size < _; simp; omega) hm (by decide)).mono fun e w' ⟨he, hw'⟩ => ?_
      subst hw'
      rw [h2] at he
      rw [h3, List.map_map]
      exact ⟨_, he, (Below.refl _ _).alloc (Nat.le_refl _) _, res_row hM (by have := cut_len 59 s; unfold maxLen; omega)⟩
    · cases h
  · cases h
theorem impl : Impl Gm Tryd.prog Gi.kf Ph extF := implOf extF (fun xs r h => itoa_sound xs r h) (fun xs r h => split_sound xs r (by simpa [extF] using h)) (fun xs r h => ins_sound xs r (by simpa [extF] using h))
end Go.Proofs.YtcjcgihohefldaaDoor
