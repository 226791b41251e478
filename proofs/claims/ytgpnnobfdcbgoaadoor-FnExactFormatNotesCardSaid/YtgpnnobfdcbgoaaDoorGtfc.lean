/- The functions of this translation are those of the table: each by one closed fact of the kernel. Written by program. -/
import Derived.Test.YtgpnnobfdcbgoaaDoorGtc
import Derived.Test.YtgpnnobfdcbgoaaDoorShelf
import Derived.Test.YtgpnnobfdcbgoaaDoorRows
import Derived.Lib.LaidTab
import Derived.Stop.LaidErr
import Derived.WalkSmall
import Derived.KernelRfl
namespace Go.Proofs.YtgpnnobfdcbgoaaDoor
open Go Go.RowKit Gi
set_option linter.unusedVariables false
set_option linter.unusedSimpArgs false
def kp : List (Nat × Nat) := [(20, 37), (12, 8), (19, 36), (7, 23), (40, 61), (30, 67), (41, 90), (3, 3), (49, 91), (45, 69), (24, 9), (14, 55), (34, 38), (35, 39), (8, 24), (46, 87), (36, 64), (15, 5), (9, 52), (25, 30), (26, 31), (4, 20), (47, 89), (39, 66), (18, 7), (11, 53), (28, 34), (29, 35), (6, 22), (17, 33), (10, 6), (16, 32), (5, 21), (27, 65), (37, 58), (38, 88), (31, 68), (13, 54)]
def kfS (f : Nat) : Option Nat := kp.lookup f
instance kfI : KF := ⟨kfS⟩
theorem kp_mem : ∀ {l : List (Nat × Nat)} {f k : Nat}, l.lookup f = some k → (f, k) ∈ l
  | [], _, _, h => by simp at h
  | (a, b) :: l, f, k, h => by
    rw [List.lookup_cons] at h
    split at h
    · rename_i he
      cases h
      rw [show f = a by simpa using he]
      exact List.mem_cons_self
    · exact List.mem_cons_of_mem _ (kp_mem h)

/-- the table of powers of ten, which strconv.Itoa reads -/
def tabs (w : World) : Prop := Lib.TabIs Tryd.prog w "internal/strconv.uint64pow10" .u64 Lib.pow10Tab
theorem gPow : Tryd.prog.globalNamed "internal/strconv.uint64pow10" = some 1 := by kernel_rfl
theorem tabs_keep (w w' : World) (h : tabs w) (hb : Below (1 + 1) w w') : tabs w' := by
  unfold tabs Lib.TabIs World.var? at *
  rw [gPow] at h ⊢
  simp only [Option.bind_some] at h ⊢
  rw [hb.block _ (Nat.lt_succ_self _)]
  exact h
theorem tabs_size (w : World) (h : tabs w) : 1 + 1 ≤ w.heap.size := by
  unfold tabs Lib.TabIs World.var? at h
  rw [gPow] at h
  simp only [Option.bind_some] at h
  rcases Nat.lt_or_ge 1 w.heap.size with h' | h'
  · exact h'
  · rw [Array.getElem?_eq_none h'] at h
    simp at h
def Gm : Ctx := ⟨tabs, 1 + 1, tabs_keep, tabs_size⟩

theorem below_new (w : World) (k : Nat) (os : Array Obj) : Below w.heap.size w (Go.Sort.grow (w.drewN k) os) :=
  (below_drewN (Below.refl _ _) k).trans ⟨rfl, rfl, rfl, by simp [Go.Sort.grow], fun b hb => by
    simp only [Go.Sort.grow]
    exact Array.getElem?_append_left hb⟩

theorem itoa_sound : ∀ xs r, extF 68 xs = some r → Sound Gm Tryd.prog 31 xs r := by
  intro xs r h
  unfold extF at h
  split at h
  · rename_i n _
    split at h
    · rename_i hn
      cases h
      refine ⟨rfl, fun M0 w vals hG hM ha => ?_⟩
      obtain ⟨hl, hv⟩ := ha
      obtain ⟨v, hvs⟩ : ∃ v, vals.toList = [v] := List.length_eq_one_iff.1 hl.symm
      have h0 : VR M0 w [] [] (vint .i64 n) v := hv 0 _ v rfl (by rw [hvs]; rfl)
      have hvn : v = .int .i64 n := by simpa [VR, LR, Reads] using h0
      obtain rfl : vals = #[.int .i64 n] := by cases vals; simp_all
      refine (Tryd.strconv_Itoa n hn.1 hn.2 w hG).mono fun e w' ⟨he, k, os, hw'⟩ => ?_
      subst hw'
      refine ⟨_, he, below_new w k os, [], ?_, ?_⟩
      · exact ⟨rfl, hM, (below_new w k os).size, fun i x q hi hq => by simp [thaw, thawL] at hi, fun i i' x x' b h1 => by simp [thaw, thawL] at h1⟩
      · simp [thaw, thawL, VR, LR, Reads]
    · cases h
  · rename_i heq; cases heq
  · cases h
theorem strs_cells {M : Nat → Prop} {w : World} {z : Nat} : ∀ {es : List (List PV)} {xs : List (List UInt8)} {b o : Nat}, strsOf es = some xs → ReadsLL M w z es b o → xs.length = es.length ∧ ∀ (j : Nat) (x : List UInt8), xs[j]? = some x → w.cell? ⟨b, o + j, none⟩ = some (.string ⟨x.toArray⟩)
  | [], xs, b, o, h, _ => by
    simp [strsOf] at h; subst h
    exact ⟨rfl, fun j x hx => by simp at hx⟩
  | e :: es, xs, b, o, h, hr => by
    unfold strsOf at h
    split at h
    · rename_i heq; cases heq
    · rename_i s r heq
      cases heq
      split at h
      · rename_i ys hys
        cases h
        simp only [ReadsLL, ReadsL] at hr
        obtain ⟨hz, ⟨⟨v, hc, hv⟩, _⟩, hr⟩ := hr
        simp at hz
        subst hz
        obtain ⟨hl, hk⟩ := strs_cells hys hr
        refine ⟨by simp [hl], fun j x hx => ?_⟩
        cases j with
        | zero =>
          simp at hx; subst hx
          simp only [Reads] at hv
          subst hv
          exact hc
        | succ j =>
          have := hk j x (by simpa using hx)
          rwa [show o + 1 + j = o + (j + 1) by omega] at this
      · cases h
    · cases h
theorem join_res {M0 : Nat → Prop} {w w' : World} {s : List UInt8} (hM : ∀ b, M0 b → b < w.heap.size) (hb : Below w.heap.size w w') : ResR M0 w.heap.size w' (vstr s) (.string ⟨s.toArray⟩) := by
  refine ⟨[], ?_, ?_⟩
  · exact ⟨rfl, hM, hb.size, fun i x q hi hq => by simp [thaw, thawL] at hi, fun i i' x x' b h1 => by simp [thaw, thawL] at h1⟩
  · simp [thaw, thawL, VR, LR, Reads]
theorem join_sound : ∀ xs r, extF 54 xs = some r → Sound Gm Tryd.prog 13 xs r := by
  intro xs0 r h
  unfold extF at h
  split at h
  · rename_i heq; cases heq
  · rename_i es sep _
    split at h
    · rename_i xs hxs
      split at h
      · rename_i hn
        cases h
        refine ⟨rfl, fun M0 w vals hG hM ha => ?_⟩
        obtain ⟨hl, hv⟩ := ha
        obtain ⟨v, u, hvs⟩ : ∃ v u, vals.toList = [v, u] := by
          match hq : vals.toList, hl with
          | [v, u], _ => exact ⟨v, u, rfl⟩
        have h0 : VR M0 w [] [] (vlst es) v := hv 0 _ v rfl (by rw [hvs]; rfl)
        have h1 : VR M0 w [] [] (vstr sep) u := hv 1 _ u rfl (by rw [hvs]; rfl)
        have hu : u = .string ⟨sep.toArray⟩ := by simpa [VR, LR, Reads] using h1
        obtain rfl : vals = #[v, u] := by cases vals; simp_all
        subst hu
        have h0' : Reads M0 w (.lst es) v := h0
        simp only [Reads] at h0'
        rcases h0' with ⟨rfl, a, c, rfl⟩ | ⟨b, o, c, z, rfl, hb, hlt, hrd, hcap⟩
        · obtain rfl : xs = [] := by simpa [strsOf] using hxs.symm
          refine (Tryd.strings_Join_none a c ⟨sep.toArray⟩ w).mono fun e w' ⟨he, hw⟩ => ?_
          subst hw
          exact ⟨_, he, Below.refl _ _, join_res hM (Below.refl _ _)⟩
        · obtain ⟨hxl, hxc⟩ := strs_cells hxs hrd
          have hmap : (xs.map fun x => (⟨x.toArray⟩ : ByteArray)).map (·.data.toList) = xs := by
            rw [List.map_map]
            exact (List.map_congr_left fun x _ => rfl).trans (List.map_id xs)
          have hcall := Tryd.strings_Join b o c (xs.map fun x => (⟨x.toArray⟩ : ByteArray)) ⟨sep.toArray⟩ w (fun j x hx => by
              rw [List.getElem?_map, Option.map_eq_some_iff] at hx
              obtain ⟨y, hy, rfl⟩ := hx
              exact hxc j y hy) hlt (by rw [List.length_map]; exact hn.1) (by rw [List.length_map, hxl]; exact hcap) (by rw [hmap]; exact hn.2)
          rw [hmap, List.length_map, hxl] at hcall
          exact hcall.mono fun e w' ⟨he, hbl⟩ => ⟨_, he, hbl, join_res hM hbl⟩
      · cases h
    · cases h
  · cases h

def Fine (p : Nat × Nat) : Prop := (∃ fn af, Tryd.prog.funcs[p.1]? = some fn ∧ cFn Tryd.prog Gi.kf fn = some af ∧ Ph p.2 = some af) ∨
    (Ph p.2 = none ∧ (∃ fn, Tryd.prog.funcs[p.1]? = some fn ∧ fn.body.isNone = false ∧ (fn.name == "runtime.NumGoroutine") = false) ∧ ∀ xs r, extF p.2 xs = some r → Sound Gm Tryd.prog p.1 xs r)
theorem fine0 : Fine (20, 37) := Or.inl ⟨Tryd.f20, f_impl_FormatInt, Tryd.func20, by kernel_rfl, rfl⟩
theorem fine1 : Fine (12, 8) := Or.inl ⟨Tryd.f12, f_impl_FormatItem, Tryd.func12, by kernel_rfl, rfl⟩
theorem fine2 : Fine (19, 36) := Or.inl ⟨Tryd.f19, f_impl_FormatKey, Tryd.func19, by kernel_rfl, rfl⟩
theorem fine3 : Fine (7, 23) := Or.inl ⟨Tryd.f7, f_impl_FormatNotes, Tryd.func7, by kernel_rfl, rfl⟩
theorem fine4 : Fine (40, 61) := Or.inl ⟨Tryd.f40, f_impl_InRange, Tryd.func40, by kernel_rfl, rfl⟩
theorem fine5 : Fine (30, 67) := Or.inl ⟨Tryd.f30, f_impl_IsKey, Tryd.func30, by kernel_rfl, rfl⟩
theorem fine6 : Fine (41, 90) := Or.inl ⟨Tryd.f41, f_impl_isKeyText, Tryd.func41, by kernel_rfl, rfl⟩
theorem fine7 : Fine (3, 3) := Or.inl ⟨Tryd.f3, f_laws_FnExactFormatNotes, Tryd.func3, by kernel_rfl, rfl⟩
theorem fine8 : Fine (49, 91) := Or.inl ⟨Tryd.f49, f_laws_eqField, Tryd.func49, by kernel_rfl, rfl⟩
theorem fine9 : Fine (45, 69) := Or.inl ⟨Tryd.f45, f_laws_eqFieldS, Tryd.func45, by kernel_rfl, rfl⟩
theorem fine10 : Fine (24, 9) := Or.inl ⟨Tryd.f24, f_laws_eqItem, Tryd.func24, by kernel_rfl, rfl⟩
theorem fine11 : Fine (14, 55) := Or.inl ⟨Tryd.f14, f_laws_eqItemS, Tryd.func14, by kernel_rfl, rfl⟩
theorem fine12 : Fine (34, 38) := Or.inl ⟨Tryd.f34, f_laws_eqKey, Tryd.func34, by kernel_rfl, rfl⟩
theorem fine13 : Fine (35, 39) := Or.inl ⟨Tryd.f35, f_laws_eqRecord, Tryd.func35, by kernel_rfl, rfl⟩
theorem fine14 : Fine (8, 24) := Or.inl ⟨Tryd.f8, f_laws_eqStore, Tryd.func8, by kernel_rfl, rfl⟩
theorem fine15 : Fine (46, 87) := Or.inl ⟨Tryd.f46, f_laws_szField, Tryd.func46, by kernel_rfl, rfl⟩
theorem fine16 : Fine (36, 64) := Or.inl ⟨Tryd.f36, f_laws_szFieldS, Tryd.func36, by kernel_rfl, rfl⟩
theorem fine17 : Fine (15, 5) := Or.inl ⟨Tryd.f15, f_laws_szItem, Tryd.func15, by kernel_rfl, rfl⟩
theorem fine18 : Fine (9, 52) := Or.inl ⟨Tryd.f9, f_laws_szItemS, Tryd.func9, by kernel_rfl, rfl⟩
theorem fine19 : Fine (25, 30) := Or.inl ⟨Tryd.f25, f_laws_szKey, Tryd.func25, by kernel_rfl, rfl⟩
theorem fine20 : Fine (26, 31) := Or.inl ⟨Tryd.f26, f_laws_szRecord, Tryd.func26, by kernel_rfl, rfl⟩
theorem fine21 : Fine (4, 20) := Or.inl ⟨Tryd.f4, f_laws_szStore, Tryd.func4, by kernel_rfl, rfl⟩
theorem fine22 : Fine (47, 89) := Or.inl ⟨Tryd.f47, f_laws_toField, Tryd.func47, by kernel_rfl, rfl⟩
theorem fine23 : Fine (39, 66) := Or.inl ⟨Tryd.f39, f_laws_toFieldS, Tryd.func39, by kernel_rfl, rfl⟩
theorem fine24 : Fine (18, 7) := Or.inl ⟨Tryd.f18, f_laws_toItem, Tryd.func18, by kernel_rfl, rfl⟩
theorem fine25 : Fine (11, 53) := Or.inl ⟨Tryd.f11, f_laws_toItemS, Tryd.func11, by kernel_rfl, rfl⟩
theorem fine26 : Fine (28, 34) := Or.inl ⟨Tryd.f28, f_laws_toKey, Tryd.func28, by kernel_rfl, rfl⟩
theorem fine27 : Fine (29, 35) := Or.inl ⟨Tryd.f29, f_laws_toRecord, Tryd.func29, by kernel_rfl, rfl⟩
theorem fine28 : Fine (6, 22) := Or.inl ⟨Tryd.f6, f_laws_toStore, Tryd.func6, by kernel_rfl, rfl⟩
theorem fine29 : Fine (17, 33) := Or.inl ⟨Tryd.f17, f_spec_FormatInt, Tryd.func17, by kernel_rfl, rfl⟩
theorem fine30 : Fine (10, 6) := Or.inl ⟨Tryd.f10, f_spec_FormatItem, Tryd.func10, by kernel_rfl, rfl⟩
theorem fine31 : Fine (16, 32) := Or.inl ⟨Tryd.f16, f_spec_FormatKey, Tryd.func16, by kernel_rfl, rfl⟩
theorem fine32 : Fine (5, 21) := Or.inl ⟨Tryd.f5, f_spec_FormatNotes, Tryd.func5, by kernel_rfl, rfl⟩
theorem fine33 : Fine (27, 65) := Or.inl ⟨Tryd.f27, f_spec_IsKey, Tryd.func27, by kernel_rfl, rfl⟩
theorem fine34 : Fine (37, 58) := Or.inl ⟨Tryd.f37, f_spec_l1In, Tryd.func37, by kernel_rfl, rfl⟩
theorem fine35 : Fine (38, 88) := Or.inl ⟨Tryd.f38, f_spec_l4Text, Tryd.func38, by kernel_rfl, rfl⟩
theorem fine36 : Fine (31, 68) := Or.inr ⟨rfl, ⟨Tryd.f31, Tryd.func31, by kernel_rfl, by kernel_rfl⟩, itoa_sound⟩
theorem fine37 : Fine (13, 54) := Or.inr ⟨rfl, ⟨Tryd.f13, Tryd.func13, by kernel_rfl, by kernel_rfl⟩, join_sound⟩
set_option maxRecDepth 100000 in
theorem fines : ∀ p ∈ kp, Fine p :=
  List.forall_mem_cons.2 ⟨fine0, List.forall_mem_cons.2 ⟨fine1, List.forall_mem_cons.2 ⟨fine2, List.forall_mem_cons.2 ⟨fine3, List.forall_mem_cons.2 ⟨fine4, List.forall_mem_cons.2 ⟨fine5, List.forall_mem_cons.2 ⟨fine6, List.forall_mem_cons.2 ⟨fine7, List.forall_mem_cons.2 ⟨fine8, List.forall_mem_cons.2 ⟨fine9, List.forall_mem_cons.2 ⟨fine10, List.forall_mem_cons.2 ⟨fine11, List.forall_mem_cons.2 ⟨fine12, List.forall_mem_cons.2 ⟨fine13, List.forall_mem_cons.2 ⟨fine14, List.forall_mem_cons.2 ⟨fine15, List.forall_mem_cons.2 ⟨fine16, List.forall_mem_cons.2 ⟨fine17, List.forall_mem_cons.2 ⟨fine18, List.forall_mem_cons.2 ⟨fine19, List.forall_mem_cons.2 ⟨fine20, List.forall_mem_cons.2 ⟨fine21, List.forall_mem_cons.2 ⟨fine22, List.forall_mem_cons.2 ⟨fine23, List.forall_mem_cons.2 ⟨fine24, List.forall_mem_cons.2 ⟨fine25, List.forall_mem_cons.2 ⟨fine26, List.forall_mem_cons.2 ⟨fine27, List.forall_mem_cons.2 ⟨fine28, List.forall_mem_cons.2 ⟨fine29, List.forall_mem_cons.2 ⟨fine30, List.forall_mem_cons.2 ⟨fine31, List.forall_mem_cons.2 ⟨fine32, List.forall_mem_cons.2 ⟨fine33, List.forall_mem_cons.2 ⟨fine34, List.forall_mem_cons.2 ⟨fine35, List.forall_mem_cons.2 ⟨fine36, List.forall_mem_cons.2 ⟨fine37, fun _ h => by cases h⟩⟩⟩⟩⟩⟩⟩⟩⟩⟩⟩⟩⟩⟩⟩⟩⟩⟩⟩⟩⟩⟩⟩⟩⟩⟩⟩⟩⟩⟩⟩⟩⟩⟩⟩⟩⟩⟩
theorem mixed : Tryd.prog.follows .mixedOrders = true := by kernel_rfl
theorem impl : Impl Gm Tryd.prog Gi.kf Ph extF := ⟨mixed, fun f k h => fines (f, k) (kp_mem (l := kp) (f := f) (k := k) h)⟩
end Go.Proofs.YtgpnnobfdcbgoaaDoor
