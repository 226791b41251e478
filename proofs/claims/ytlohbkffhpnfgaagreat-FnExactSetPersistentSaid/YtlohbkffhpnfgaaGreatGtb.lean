/- Of this proof. -/
import Derived.Test.YtlohbkffhpnfgaaGreatGta
set_option linter.unusedSimpArgs false
set_option linter.unusedVariables false
namespace Gi
open Go Go.RowKit
attribute [local simp] bt fe ai ag aw aH bf bW Opd.ev put V.cells plain bm f4 isInt isStr isBool bin bC un asList L.view am V.view viewL done aR au bw bO comp aJ br ah V.flat L.flat dF di bz putAt thaw thawL freezeVs freezeLs freezeL V.mut L.mut aI aT
theorem yi {f g : St → Option (Ex × St)} (h : g = f) (σ : St) : aq f σ = (match g σ with
 | some (.normal, σ') => aq f σ'
 | r => r) := by rw [h]; exact rq f σ
theorem Nx : eF [] = 0 := by simp only [eF]
theorem sF (p : PV) (ps : List PV) : eF (p :: ps) = sz p + eF ps := by simp only [eF]
theorem Qa (k : IntKind) (n : Int) : sz (.int k n) = 0 := by simp only [sz]
theorem PZ (b : Bool) : sz (.bool b) = 0 := by simp only [sz]
theorem dH (s : List UInt8) : sz (.str s) = s.length := by simp only [sz]
theorem F7 : ∀ (l m : List PV), eF (l ++ m) = eF l + eF m
 | [], m => by rw [List.nil_append, Nx, Nat.zero_add]
 | p :: l, m => by rw [List.cons_append, sF, sF, F7 l m, Nat.add_assoc]
theorem P9 (l : List PV) (o n : Nat) : eF ((l.drop o).take n) ≤ eF l := by
 have h1 := F7 (l.take o) (l.drop o)
 rw [List.take_append_drop] at h1
 have h2 := F7 ((l.drop o).take n) ((l.drop o).drop n)
 rw [List.take_append_drop] at h2
 rw [h1, h2]
 exact Nat.le_trans (Nat.le_add_right _ _) (Nat.le_add_left _ _)
theorem bc : ∀ {l : List PV} {i : Nat} {p : PV}, l[i]? = some p → sz p ≤ eF l
 | [], _, _, h => by simp at h
 | q :: l, 0, p, h => by simp at h; subst h; rw [sF]; exact Nat.le_add_right _ _
 | q :: l, i + 1, p, h => by rw [sF]; exact Nat.le_trans (bc (l := l) (i := i) (by simpa using h)) (Nat.le_add_left _ _)
def Mq (x : Option (Ex × St)) (Q : Ex → St → Prop) : Prop :=
 match x with
 | some (e, σ) => Q e σ
 | none => False
theorem Mq.get {x : Option (Ex × St)} {Q : Ex → St → Prop} (h : Mq x Q) : ∃ e σ, x = some (e, σ) ∧ Q e σ := by
 unfold Mq at h
 split at h
 ·exact ⟨_, _, rfl, h⟩
 ·exact h.elim
theorem Em {e : Ex} {σ : St} {Q : Ex → St → Prop} : Mq (some (e, σ)) Q = Q e σ := rfl
section
variable {ext : Nat → List V → Option V}
theorem JE {rows : List (List PV)} (hl : rows.length ≤ maxLen) (hr : ∀ r ∈ rows, ∃ s : List UInt8, r = [.str s] ∧ s.length ≤ maxLen) : ∀ (m k : Nat) (i : Int), i = k → k + m = rows.length → ∀ (left : Int), 0 ≤ left → left ≤ 1048576 → ∀ (x2 x3 x4 x6 x7 x8 x9 x10 x11 x12 x13 x14 x15 x16 x17 x18 x19 x20 x21 x22 x23 x24 x25 x26 x27 : V) (h : List AObj),
 Mq (aq (ai (ae Ph ext) aq dx) ⟨(bu rows :: aa .i64 left :: x2 :: x3 :: x4 :: aa .i64 i :: x6 :: x7 :: x8 :: x9 :: x10 :: x11 :: x12 :: x13 :: x14 :: x15 :: x16 :: x17 :: x18 :: x19 :: x20 :: x21 :: x22 :: x23 :: x24 :: x25 :: x26 :: x27 :: []), h⟩) fun e σ' => σ'.h = h ∧ σ'.t.length = 28 ∧ ((e = .exit 0 ∧ 0 ≤ less left (cz (rows.drop k)) ∧ σ'.t[1]? = some (aa .i64 (less left (cz (rows.drop k))))) ∨ (e = .ret ∧ less left (cz (rows.drop k)) = -1 ∧ σ'.t[4]? = some (aa .i64 (-1)))) := by
 generalize hF : ai (ae Ph ext) aq dx = F
 intro m
 induction m with
 | zero =>
  intro k i hi hk left h0 h1 x2 x3 x4 x6 x7 x8 x9 x10 x11 x12 x13 x14 x15 x16 x17 x18 x19 x20 x21 x22 x23 x24 x25 x26 x27 h
  subst hi
  have hk' : k = rows.length := by omega
  subst hk'
  have hl0 : less left (cz (rows.drop rows.length)) = left := by simp [cz, less]; omega
  rw [hl0, yi hF]
  simp [dx, ie, h0, Em]
 | succ m ih =>
  intro k i hi hk left h0 h1 x2 x3 x4 x6 x7 x8 x9 x10 x11 x12 x13 x14 x15 x16 x17 x18 x19 x20 x21 x22 x23 x24 x25 x26 x27 h
  subst hi
  have hlt : k < rows.length := by omega
  have hw := je (k := k) (by unfold maxLen at hl; omega)
  obtain ⟨s, hrk, hs⟩ := hr _ (List.getElem_mem hlt)
  unfold maxLen at hs
  have hw2 : IntKind.i64.wrap (left - (s.length : Int)) = left - (s.length : Int) := by rw [IntKind.wrap_i64]; omega
  rw [zo hlt, hrk]
  have hsz : eF [PV.str s] = s.length := by simp [eF, sz]
  rw [hsz]
  by_cases hneg : left < (s.length : Int)
  ·have e1 : less left (s.length + cz (rows.drop (k + 1))) = -1 := by unfold less; rw [if_pos (by omega)]
   rw [e1, yi hF]
   have hn : left - (s.length : Int) < 0 := by omega
   simp [dx, ie, hlt, hrk, hw, hw2, hn, Em]
  ·have hn : ¬ left - (s.length : Int) < 0 := by omega
   have key := ih (k + 1) ((k : Int) + 1) (by omega) (by omega) (left - s.length) (by omega) (by omega)
   have e1 : less (left - s.length) (cz (rows.drop (k + 1))) = less left (s.length + cz (rows.drop (k + 1))) := by
    have : left - (s.length : Int) = less left s.length := by unfold less; rw [if_neg hneg]
    rw [this]; exact pP (by rw [← this]; omega)
   rw [e1] at key
   clear ih
   rw [yi hF]
   simp [dx, ie, hlt, hrk, hw, hw2, hn]
   exact key _ _ _ _ _ _ _ _ _ _ _ _ _ _ _ _ _ _ _ _ _ _ _ _ _ _
theorem Gf {rows : List (List PV)} (hl : rows.length ≤ maxLen) (hr : ∀ r ∈ rows, ∃ s : List UInt8, r = [.str s] ∧ s.length ≤ maxLen) {left : Int} (h0 : 0 ≤ left) (h1 : left ≤ 1048576) : ae Ph ext 200 [bu rows, aa .i64 left] = some (aa .i64 (less left (sz (.lst rows)))) := by
 refine eN (fn := gM) rfl ?_
 have hw : IntKind.i64.wrap (left - rows.length) = left - rows.length := by unfold maxLen at hl; rw [IntKind.wrap_i64]; omega
 rw [jF]
 by_cases hn : left < rows.length
 ·have hn' : left - (rows.length : Int) < 0 := by omega
  have e : less left (rows.length + cz rows) = -1 := by unfold less; rw [if_pos (by omega)]
  rw [e]
  generalize hF : ai (ae Ph ext) aq dx = F
  simp [gM, ie, hF, hw, hn']
 ·have hn' : ¬ left - (rows.length : Int) < 0 := by omega
  have hle : left - (rows.length : Int) = less left rows.length := by unfold less; rw [if_neg hn]
  obtain ⟨e, ⟨t', h'⟩, q1, q2, q5, q3⟩ := (JE (ext := ext) hl hr rows.length 0 0 rfl (by omega) (left - rows.length) (by omega) (by omega) (.tup []) (.tup []) (aa .i64 0) (aa .i64 left) (bu rows) (aa .i64 rows.length) (aa .i64 (left - rows.length)) (aa .i64 (left - rows.length)) (ar false) (.tup []) (.tup []) (.tup []) (.tup []) (.tup []) (.tup []) (.tup []) (.tup []) (.tup []) (.tup []) (.tup []) (.tup []) (.tup []) (.tup []) (.tup []) (.tup []) []).get
  simp only [List.drop_zero] at q3
  have hls : less (left - rows.length) (cz rows) = less left (rows.length + cz rows) := by rw [hle]; exact pP (by rw [← hle]; omega)
  rw [hls] at q3
  simp at q5
  rcases q3 with ⟨rfl, _, q4⟩ | ⟨rfl, q6, q4⟩
  ·obtain ⟨_, q7⟩ := List.getElem?_eq_some_iff.1 q4
   simp [gM, ie, hw, hn', q1, q5, q7]
  ·obtain ⟨_, q7⟩ := List.getElem?_eq_some_iff.1 q4
   simp [gM, ie, hw, hn', q1, q5, q7, q6]
end
end Gi
namespace Gi
open Go Go.RowKit
set_option maxRecDepth 4000
abbrev Qz : PTy → Type
 | .int _ => Int
 | .bool => Bool
 | .str => List UInt8
 | .lst _ => List (List PV)
abbrev OL : (t : PTy) → Qz t → PV
 | .int k, n => .int k n
 | .bool, b => .bool b
 | .str, s => .str s
 | .lst _, l => .lst l
abbrev NT : List PTy → Type
 | [] => Unit
 | t :: ts => Qz t × NT ts
abbrev P0 : (ts : List PTy) → NT ts → List PV
 | [], _ => []
 | t :: ts, (x, y) => OL t x :: P0 ts y
def PB : (ts : List PTy) → NT ts → Prop
 | [], _ => True
 | t :: ts, (x, y) => nb t (OL t x) ∧ PB ts y
theorem bA : ∀ {ts : List PTy} {r : List PV}, a9 ts r → ∃ x : NT ts, r = P0 ts x ∧ PB ts x
 | [], r, h => ⟨(), eL h, trivial⟩
 | t :: ts, r, h => by
  obtain ⟨p, q, rfl, g, k⟩ := dk h
  obtain ⟨y, rfl, l⟩ := bA k
  cases t with
  | int => obtain ⟨n, rfl⟩ := kI g; exact ⟨(n, y), rfl, g, l⟩
  | bool => obtain ⟨n, rfl⟩ := jH g; exact ⟨(n, y), rfl, g, l⟩
  | str => obtain ⟨n, rfl⟩ := jh g; exact ⟨(n, y), rfl, g, l⟩
  | lst => obtain ⟨n, rfl⟩ := mn g; exact ⟨(n, y), rfl, g, l⟩
section
variable {ext : Nat → List V → Option V}
theorem Qw {rows : List (List PV)} (h : nb (.lst gW) (.lst rows)) : ∀ r ∈ rows, ∃ s : List UInt8, r = [.str s] ∧ s.length ≤ maxLen := by
 obtain ⟨_, hr⟩ := aK h
 intro r m
 obtain ⟨⟨c0, _⟩, rfl, g0, _⟩ := bA (hr r m)
 exact ⟨c0, rfl, g0⟩
theorem JJ : ji Ph ext 89 wE := bY (ss := sj) rfl (a8 ⟨rfl, rfl, trivial⟩)
theorem Jx : jI Ph ext 87 wE := cr (ss := sj) rfl (a8 ⟨rfl, rfl, trivial⟩)
theorem IT : jg Ph ext 91 wE := bX (ss := sj) rfl (a8 ⟨rfl, rfl, trivial⟩)
theorem In : ju Ph ext 66 jN := gG rfl rfl rfl rfl (by decide) (by decide) JJ (fun _ => rfl)
theorem H6 : jt Ph ext 64 jN := iR rfl rfl Jx
theorem Hc : js Ph ext 69 jN := gC rfl rfl IT
theorem Ip : ji Ph ext 34 EO := bY (ss := Eu) rfl (a8 ⟨rfl, rfl, rfl, trivial⟩)
theorem H8 : jI Ph ext 30 EO := cr (ss := Eu) rfl (a8 ⟨rfl, rfl, rfl, trivial⟩)
theorem Hg : jg Ph ext 38 EO := bX (ss := Eu) rfl (a8 ⟨rfl, rfl, rfl, trivial⟩)
theorem Is : ji Ph ext 35 r8 := bY (ss := pJ) rfl (a8 ⟨⟨In, rfl⟩, trivial⟩)
theorem Ib : jI Ph ext 31 r8 := cr (ss := pJ) rfl (a8 ⟨H6, trivial⟩)
theorem Hl : jg Ph ext 39 r8 := bX (ss := pJ) rfl (a8 ⟨Hc, trivial⟩)
theorem L8 : ji Ph ext 7 C6 := bY (ss := wU) rfl (a8 ⟨⟨Ip, fun _ => rfl⟩, ⟨Is, nofun⟩, trivial⟩)
theorem L0 : jI Ph ext 5 C6 := cr (ss := wU) rfl (a8 ⟨H8, Ib, trivial⟩)
theorem Lg : jg Ph ext 9 C6 := bX (ss := wU) rfl (a8 ⟨Hg, Hl, trivial⟩)
theorem Iq : ji Ph ext 73 rZ := bY (ss := pH) rfl (a8 ⟨rfl, rfl, trivial⟩)
theorem H9 : jI Ph ext 70 rZ := cr (ss := pH) rfl (a8 ⟨rfl, rfl, trivial⟩)
theorem Hh : jg Ph ext 76 rZ := bX (ss := pH) rfl (a8 ⟨rfl, rfl, trivial⟩)
theorem Gr : ju Ph ext 42 jr := gG rfl rfl rfl rfl (by decide) (by decide) Iq (fun _ => rfl)
theorem F8 : jt Ph ext 40 jr := iR rfl rfl H9
theorem Fj : js Ph ext 44 jr := gC rfl rfl Hh
theorem JK : ji Ph ext 93 wF := bY (ss := sk) rfl (a8 ⟨rfl, rfl, rfl, rfl, trivial⟩)
theorem Jy : jI Ph ext 92 wF := cr (ss := sk) rfl (a8 ⟨rfl, rfl, rfl, rfl, trivial⟩)
theorem IU : jg Ph ext 94 wF := bX (ss := sk) rfl (a8 ⟨rfl, rfl, rfl, rfl, trivial⟩)
theorem Io : ju Ph ext 74 jO := gG rfl rfl rfl rfl (by decide) (by decide) JK (fun _ => rfl)
theorem H7 : jt Ph ext 71 jO := iR rfl rfl Jy
theorem Hf : js Ph ext 77 jO := gC rfl rfl IU
theorem L7 : ju Ph ext 75 oH := Gq rfl rfl rfl (by decide)
theorem LZ : jt Ph ext 72 oH := AT rfl rfl
theorem Lf : js Ph ext 78 oH := Fi rfl rfl
theorem Gs : ji Ph ext 43 pX := bY (ss := nl) rfl (a8 ⟨⟨Io, rfl⟩, rfl, ⟨L7, rfl⟩, rfl, rfl, rfl, trivial⟩)
theorem F9 : jI Ph ext 41 pX := cr (ss := nl) rfl (a8 ⟨H7, rfl, LZ, rfl, rfl, rfl, trivial⟩)
theorem Fk : jg Ph ext 45 pX := bX (ss := nl) rfl (a8 ⟨Hf, rfl, Lf, rfl, rfl, rfl, trivial⟩)
theorem Mc : ji Ph ext 12 C8 := bY (ss := wW) rfl (a8 ⟨rfl, rfl, rfl, rfl, ⟨Gr, rfl⟩, ⟨Gs, nofun⟩, trivial⟩)
theorem L2 : jI Ph ext 10 C8 := cr (ss := wW) rfl (a8 ⟨rfl, rfl, rfl, rfl, F8, F9, trivial⟩)
theorem Lk : jg Ph ext 14 C8 := bX (ss := wW) rfl (a8 ⟨rfl, rfl, rfl, rfl, Fj, Fk, trivial⟩)
theorem JL : ju Ph ext 53 j4 := gG rfl rfl rfl rfl (by decide) (by decide) L8 nofun
theorem Jz : jt Ph ext 52 j4 := iR rfl rfl L0
theorem IV : js Ph ext 55 j4 := gC rfl rfl Lg
theorem Gj : ji Ph ext 80 sG := bY (ss := sh) rfl (a8 ⟨rfl, rfl, trivial⟩)
theorem Fe : jg Ph ext 82 sG := bX (ss := sh) rfl (a8 ⟨rfl, rfl, trivial⟩)
theorem Ef : ju Ph ext 48 io := gG rfl rfl rfl rfl (by decide) (by decide) Gj (fun _ => rfl)
theorem D9 : jt Ph ext 46 io := AT rfl rfl
theorem Du : js Ph ext 50 io := gC rfl rfl Fe
theorem JR : ji Ph ext 81 wG := bY (ss := sr) rfl (a8 ⟨rfl, rfl, ⟨Ip, fun _ => rfl⟩, rfl, rfl, trivial⟩)
theorem JG : jI Ph ext 79 wG := cr (ss := sr) rfl (a8 ⟨rfl, rfl, H8, rfl, rfl, trivial⟩)
theorem I0 : jg Ph ext 83 wG := bX (ss := sr) rfl (a8 ⟨rfl, rfl, Hg, rfl, rfl, trivial⟩)
theorem zt : ju Ph ext 49 gn := gG rfl rfl rfl rfl (by decide) (by decide) JR (fun _ => rfl)
theorem zq : jt Ph ext 47 gn := iR rfl rfl JG
theorem yP : js Ph ext 51 gn := gC rfl rfl I0
theorem uE : ji Ph ext 22 qx := bY (ss := sn) rfl (a8 ⟨rfl, ⟨JL, rfl⟩, rfl, trivial⟩)
theorem uD : jI Ph ext 20 qx := cr (ss := sn) rfl (a8 ⟨rfl, Jz, rfl, trivial⟩)
theorem tG : jg Ph ext 24 qx := bX (ss := sn) rfl (a8 ⟨rfl, IV, rfl, trivial⟩)
theorem It : ji Ph ext 17 r9 := bY (ss := pK) rfl (a8 ⟨⟨uE, nofun⟩, ⟨Ef, rfl⟩, ⟨zt, rfl⟩, trivial⟩)
theorem Ic : jI Ph ext 15 r9 := cr (ss := pK) rfl (a8 ⟨uD, D9, zq, trivial⟩)
theorem Hm : jg Ph ext 19 r9 := bX (ss := pK) rfl (a8 ⟨tG, Du, yP, trivial⟩)
theorem Iu : ju Ph ext 60 jc := gG rfl rfl rfl rfl (by decide) (by decide) uE nofun
theorem Ie : jt Ph ext 57 jc := iR rfl rfl uD
theorem Hn : js Ph ext 63 jc := gC rfl rfl tG
theorem De : ju Ph ext 255 iS := Gq rfl rfl rfl (by decide)
theorem CU : jt Ph ext 251 iS := AT rfl rfl
theorem Bj : js Ph ext 259 iS := Fi rfl rfl
theorem Ej : ji Ph ext 281 oI := bY (ss := lM) rfl (a8 ⟨rfl, rfl, rfl, ⟨De, rfl⟩, rfl, trivial⟩)
theorem Ee : jI Ph ext 280 oI := cr (ss := lM) rfl (a8 ⟨rfl, rfl, rfl, CU, rfl, trivial⟩)
theorem Dy : jg Ph ext 282 oI := bX (ss := lM) rfl (a8 ⟨rfl, rfl, rfl, Bj, rfl, trivial⟩)
theorem Im : ji Ph ext 278 rY := bY (ss := pG) rfl (a8 ⟨rfl, rfl, ⟨Ej, nofun⟩, trivial⟩)
theorem H5 : jI Ph ext 277 rY := cr (ss := pG) rfl (a8 ⟨rfl, rfl, Ee, trivial⟩)
theorem Hb : jg Ph ext 279 rY := bX (ss := pG) rfl (a8 ⟨rfl, rfl, Dy, trivial⟩)
theorem Gl : ju Ph ext 273 jq := gG rfl rfl rfl rfl (by decide) (by decide) Im nofun
theorem F5 : jt Ph ext 271 jq := iR rfl rfl H5
theorem Fg : js Ph ext 275 jq := gC rfl rfl Hb
theorem JI : ji Ph ext 265 wD := bY (ss := si) rfl (a8 ⟨rfl, ⟨Gl, rfl⟩, trivial⟩)
theorem Jw : jI Ph ext 262 wD := cr (ss := si) rfl (a8 ⟨rfl, F5, trivial⟩)
theorem IS : jg Ph ext 268 wD := bX (ss := si) rfl (a8 ⟨rfl, Fg, trivial⟩)
theorem Il : ju Ph ext 253 jM := gG rfl rfl rfl rfl (by decide) (by decide) JI nofun
theorem H4 : jt Ph ext 249 jM := iR rfl rfl Jw
theorem Ha : js Ph ext 257 jM := gC rfl rfl IS
theorem Ei : ji Ph ext 274 oG := bY (ss := lL) rfl (a8 ⟨rfl, rfl, trivial⟩)
theorem Ec : jI Ph ext 272 oG := cr (ss := lL) rfl (a8 ⟨rfl, rfl, trivial⟩)
theorem Dx : jg Ph ext 276 oG := bX (ss := lL) rfl (a8 ⟨rfl, rfl, trivial⟩)
theorem Df : ju Ph ext 266 fg := gG rfl rfl rfl rfl (by decide) (by decide) Ei (fun _ => rfl)
theorem CW : jt Ph ext 263 fg := iR rfl rfl Ec
theorem Bk : js Ph ext 269 fg := gC rfl rfl Dx
theorem wJ : ji Ph ext 231 jb := bY (ss := gJ) rfl (a8 ⟨rfl, rfl, rfl, rfl, trivial⟩)
theorem wC : jI Ph ext 227 jb := cr (ss := gJ) rfl (a8 ⟨rfl, rfl, rfl, rfl, trivial⟩)
theorem vg : jg Ph ext 235 jb := bX (ss := gJ) rfl (a8 ⟨rfl, rfl, rfl, rfl, trivial⟩)
theorem Eg : ji Ph ext 232 oE := bY (ss := lJ) rfl (a8 ⟨⟨Il, rfl⟩, trivial⟩)
theorem Ea : jI Ph ext 228 oE := cr (ss := lJ) rfl (a8 ⟨H4, trivial⟩)
theorem Dv : jg Ph ext 236 oE := bX (ss := lJ) rfl (a8 ⟨Ha, trivial⟩)
theorem Eh : ji Ph ext 254 oF := bY (ss := lK) rfl (a8 ⟨rfl, rfl, ⟨Iu, rfl⟩, ⟨Df, rfl⟩, trivial⟩)
theorem Eb : jI Ph ext 250 oF := cr (ss := lK) rfl (a8 ⟨rfl, rfl, Ie, CW, trivial⟩)
theorem Dw : jg Ph ext 258 oF := bX (ss := lK) rfl (a8 ⟨rfl, rfl, Hn, Bk, trivial⟩)
theorem L6 : ji Ph ext 233 C5 := bY (ss := wT) rfl (a8 ⟨⟨Eh, nofun⟩, ⟨De, rfl⟩, rfl, trivial⟩)
theorem LY : jI Ph ext 229 C5 := cr (ss := wT) rfl (a8 ⟨Eb, CU, rfl, trivial⟩)
theorem Ld : jg Ph ext 237 C5 := bX (ss := wT) rfl (a8 ⟨Dw, Bj, rfl, trivial⟩)
theorem Ir : ji Ph ext 267 r7 := bY (ss := pI) rfl (a8 ⟨rfl, rfl, ⟨zt, rfl⟩, trivial⟩)
theorem Ia : jI Ph ext 264 r7 := cr (ss := pI) rfl (a8 ⟨rfl, rfl, zq, trivial⟩)
theorem Hk : jg Ph ext 270 r7 := bX (ss := pI) rfl (a8 ⟨rfl, rfl, yP, trivial⟩)
theorem Mf : ji Ph ext 256 Da := bY (ss := wY) rfl (a8 ⟨⟨Ir, nofun⟩, rfl, rfl, trivial⟩)
theorem L4 : jI Ph ext 252 Da := cr (ss := wY) rfl (a8 ⟨Ia, rfl, rfl, trivial⟩)
theorem Lm : jg Ph ext 260 Da := bX (ss := wY) rfl (a8 ⟨Hk, rfl, rfl, trivial⟩)
theorem Gt : ji Ph ext 234 pY := bY (ss := nn) rfl (a8 ⟨⟨uE, nofun⟩, rfl, ⟨Mf, nofun⟩, trivial⟩)
theorem Ga : jI Ph ext 230 pY := cr (ss := nn) rfl (a8 ⟨uD, rfl, L4, trivial⟩)
theorem Fl : jg Ph ext 238 pY := bX (ss := nn) rfl (a8 ⟨tG, rfl, Lm, trivial⟩)
theorem Ik : ji Ph ext 201 rX := bY (ss := pF) rfl (a8 ⟨rfl, rfl, ⟨wJ, fun _ => rfl⟩, ⟨Eg, nofun⟩, ⟨L6, nofun⟩, ⟨Gt, nofun⟩, rfl, rfl, trivial⟩)
theorem H3 : jI Ph ext 198 rX := cr (ss := pF) rfl (a8 ⟨rfl, rfl, wC, Ea, LY, Ga, rfl, rfl, trivial⟩)
theorem G9 : jg Ph ext 205 rX := bX (ss := pF) rfl (a8 ⟨rfl, rfl, vg, Dv, Ld, Fl, rfl, rfl, trivial⟩)
theorem Gk : ju Ph ext 167 dq := gG rfl rfl rfl rfl (by decide) (by decide) Ik nofun
theorem F3 : jt Ph ext 163 dq := iR rfl rfl H3
theorem Ff : js Ph ext 171 dq := gC rfl rfl G9
theorem JO : ju Ph ext 134 iT := gG rfl rfl rfl rfl (by decide) (by decide) Mc nofun
theorem JC : jt Ph ext 128 iT := iR rfl rfl L2
theorem IY : js Ph ext 140 iT := gC rfl rfl Lk
theorem L9 : ji Ph ext 202 C7 := bY (ss := wV) rfl (a8 ⟨rfl, rfl, rfl, rfl, trivial⟩)
theorem L1 : jI Ph ext 199 C7 := cr (ss := wV) rfl (a8 ⟨rfl, rfl, rfl, rfl, trivial⟩)
theorem Lh : jg Ph ext 206 C7 := bX (ss := wV) rfl (a8 ⟨rfl, rfl, rfl, rfl, trivial⟩)
theorem JM : ju Ph ext 168 iq := gG rfl rfl rfl rfl (by decide) (by decide) L9 (fun _ => rfl)
theorem JA : jt Ph ext 164 iq := iR rfl rfl L1
theorem IW : js Ph ext 172 iq := gC rfl rfl Lh
theorem Ma : ji Ph ext 203 Gh := bY (ss := Fc) rfl (a8 ⟨rfl, rfl, rfl, trivial⟩)
theorem Li : jg Ph ext 207 Gh := bX (ss := Fc) rfl (a8 ⟨rfl, rfl, rfl, trivial⟩)
theorem JN : ju Ph ext 169 ir := gG rfl rfl rfl rfl (by decide) (by decide) Ma (fun _ => rfl)
theorem JB : jt Ph ext 165 ir := AT rfl rfl
theorem IX : js Ph ext 173 ir := gC rfl rfl Li
theorem Gw : ju Ph ext 204 gW := Gq rfl rfl rfl (by decide)
theorem Gg : jt Ph ext 200 gW := fun _ h _ a b => Gf (aK h).1 (Qw h) a b
theorem Fp : js Ph ext 208 gW := Fi rfl rfl
theorem Me : ji Ph ext 170 C9 := bY (ss := wX) rfl (a8 ⟨rfl, rfl, ⟨Gw, rfl⟩, rfl, trivial⟩)
theorem L3 : jI Ph ext 166 C9 := cr (ss := wX) rfl (a8 ⟨rfl, rfl, Gg, rfl, trivial⟩)
theorem Ll : jg Ph ext 174 C9 := bX (ss := wX) rfl (a8 ⟨rfl, rfl, Fp, rfl, trivial⟩)
theorem JP : ju Ph ext 137 iU := gG rfl rfl rfl rfl (by decide) (by decide) Me nofun
theorem JD : jt Ph ext 131 iU := iR rfl rfl L3
theorem IZ : js Ph ext 143 iU := gC rfl rfl Ll
theorem Gu : ju Ph ext 138 ft := gG rfl rfl rfl rfl (by decide) (by decide) It nofun
theorem Gd : jt Ph ext 132 ft := iR rfl rfl Ic
theorem Fm : js Ph ext 144 ft := gC rfl rfl Hm
theorem Gv : ji Ph ext 133 gh := bY (ss := np) rfl (a8 ⟨⟨Gk, rfl⟩, trivial⟩)
theorem Ge : jI Ph ext 127 gh := cr (ss := np) rfl (a8 ⟨F3, trivial⟩)
theorem Fo : jg Ph ext 139 gh := bX (ss := np) rfl (a8 ⟨Ff, trivial⟩)
theorem Dg : ji Ph ext 135 eH := bY (ss := kE) rfl (a8 ⟨⟨JM, rfl⟩, trivial⟩)
theorem CZ : jI Ph ext 129 eH := cr (ss := kE) rfl (a8 ⟨JA, trivial⟩)
theorem Bl : jg Ph ext 141 eH := bX (ss := kE) rfl (a8 ⟨IW, trivial⟩)
theorem Gn : ji Ph ext 136 gg := bY (ss := nk) rfl (a8 ⟨⟨JN, rfl⟩, trivial⟩)
theorem F6 : jI Ph ext 130 gg := cr (ss := nk) rfl (a8 ⟨JB, trivial⟩)
theorem Fh : jg Ph ext 142 gg := bX (ss := nk) rfl (a8 ⟨IX, trivial⟩)
theorem JQ : ji Ph ext 106 eK := bY (ss := so) rfl (a8 ⟨rfl, rfl, rfl, ⟨Gv, nofun⟩, ⟨JO, rfl⟩, rfl, ⟨Dg, nofun⟩, ⟨Gn, nofun⟩, ⟨JP, rfl⟩, ⟨Gu, rfl⟩, trivial⟩)
theorem JF : jI Ph ext 104 eK := cr (ss := so) rfl (a8 ⟨rfl, rfl, rfl, Ge, JC, rfl, CZ, F6, JD, Gd, trivial⟩)
theorem Bm : jg Ph ext 108 eK := bX (ss := so) rfl (a8 ⟨rfl, rfl, rfl, Fo, IY, rfl, Bl, Fh, IZ, Fm, trivial⟩)
theorem aG : zv Ph ext al 432 := Pn rfl
theorem An : nA Ph ext al 448 io := ew aG rfl rfl ⟨rfl, ⟨rfl, trivial⟩⟩
theorem wh : nA Ph ext al 474 iS := ew aG rfl rfl ⟨rfl, trivial⟩
theorem Cs : nA Ph ext al 485 jq := ew aG rfl rfl ⟨rfl, ⟨rfl, ⟨rfl, ⟨rfl, ⟨rfl, ⟨rfl, wh, ⟨rfl, trivial⟩⟩⟩⟩⟩⟩⟩
theorem D2 : nA Ph ext al 471 jM := ew aG rfl rfl ⟨rfl, ⟨rfl, Cs, trivial⟩⟩
theorem D3 : nA Ph ext al 475 jN := ew aG rfl rfl ⟨rfl, ⟨rfl, trivial⟩⟩
theorem qr : nA Ph ext al 447 j4 := ew aG rfl rfl ⟨rfl, ⟨rfl, ⟨rfl, ⟨rfl, D3, trivial⟩⟩⟩⟩
theorem D5 : nA Ph ext al 472 jc := ew aG rfl rfl ⟨rfl, ⟨rfl, qr, ⟨rfl, trivial⟩⟩⟩
theorem yl : nA Ph ext al 473 fg := ew aG rfl rfl ⟨rfl, ⟨rfl, trivial⟩⟩
theorem tq : nA Ph ext al 449 gn := ew aG rfl rfl ⟨rfl, ⟨rfl, ⟨rfl, ⟨rfl, ⟨rfl, ⟨rfl, ⟨rfl, trivial⟩⟩⟩⟩⟩⟩⟩
theorem rt : nA Ph ext al 441 dq := ew aG rfl rfl ⟨rfl, ⟨rfl, ⟨rfl, ⟨rfl, ⟨rfl, ⟨rfl, ⟨rfl, D2, ⟨rfl, ⟨rfl, ⟨rfl, D5, ⟨rfl, yl, ⟨rfl, wh, ⟨rfl, ⟨rfl, ⟨rfl, qr, ⟨rfl, ⟨rfl, ⟨rfl, ⟨rfl, ⟨rfl, tq, ⟨rfl, ⟨rfl, ⟨rfl, ⟨rfl, trivial⟩⟩⟩⟩⟩⟩⟩⟩⟩⟩⟩⟩⟩⟩⟩⟩⟩⟩⟩⟩⟩⟩⟩⟩
theorem FN : nA Ph ext al 446 ir := ew aG rfl rfl ⟨rfl, ⟨rfl, ⟨rfl, trivial⟩⟩⟩
theorem ru : KL Ph ext al 429 gg := wi (ss := [.l ir 446]) rfl rfl ⟨FN, trivial⟩
theorem D4 : nA Ph ext al 443 jO := ew aG rfl rfl ⟨rfl, ⟨rfl, ⟨rfl, ⟨rfl, trivial⟩⟩⟩⟩
theorem HC : nA Ph ext al 444 oH := ew aG rfl rfl ⟨rfl, trivial⟩
theorem Ct : nA Ph ext al 442 jr := ew aG rfl rfl ⟨rfl, ⟨rfl, trivial⟩⟩
theorem FM : nA Ph ext al 445 iq := ew aG rfl rfl ⟨rfl, ⟨rfl, ⟨rfl, ⟨rfl, trivial⟩⟩⟩⟩
theorem pR : KL Ph ext al 428 eH := wi (ss := [.l iq 445]) rfl rfl ⟨FM, trivial⟩
theorem wl : nA Ph ext al 427 iT := ew aG rfl rfl ⟨rfl, ⟨rfl, ⟨rfl, ⟨rfl, ⟨rfl, Ct, ⟨rfl, D4, ⟨rfl, ⟨rfl, HC, ⟨rfl, ⟨rfl, ⟨rfl, trivial⟩⟩⟩⟩⟩⟩⟩⟩⟩⟩⟩
theorem om : nA Ph ext al 431 ft := ew aG rfl rfl ⟨rfl, ⟨rfl, qr, ⟨rfl, ⟨rfl, An, ⟨rfl, tq, trivial⟩⟩⟩⟩⟩
theorem Cu : nA Ph ext al 421 gW := ew aG rfl rfl ⟨rfl, trivial⟩
theorem qt : nA Ph ext al 430 iU := ew aG rfl rfl ⟨rfl, ⟨rfl, ⟨rfl, Cu, ⟨rfl, trivial⟩⟩⟩⟩
theorem rz : KL Ph ext al 426 gh := wi (ss := [.l dq 441]) rfl rfl ⟨rt, trivial⟩
theorem FO : KL Ph ext al 420 eK := wi (ss := [.k [.int .i64, .bool, .int .i64], .s gh 426, .l iT 427, .k [.int .i64], .s eH 428, .s gg 429, .l iU 430, .l ft 431]) rfl rfl ⟨rfl, ⟨rz, ⟨wl, ⟨rfl, ⟨pR, ⟨ru, ⟨qt, ⟨om, trivial⟩⟩⟩⟩⟩⟩⟩⟩
theorem Ah : fL Ph ext al 469 io := eu aG rfl ⟨rfl, ⟨rfl, trivial⟩⟩
theorem vO : fL Ph ext al 483 iS := eu aG rfl ⟨rfl, trivial⟩
theorem Ca : fL Ph ext al 494 jq := eu aG rfl ⟨rfl, ⟨rfl, ⟨rfl, ⟨rfl, ⟨rfl, ⟨rfl, vO, ⟨rfl, trivial⟩⟩⟩⟩⟩⟩⟩
theorem DY : fL Ph ext al 480 jM := eu aG rfl ⟨rfl, ⟨rfl, Ca, trivial⟩⟩
theorem DZ : fL Ph ext al 484 jN := eu aG rfl ⟨rfl, ⟨rfl, trivial⟩⟩
theorem qk : fL Ph ext al 468 j4 := eu aG rfl ⟨rfl, ⟨rfl, ⟨rfl, ⟨rfl, DZ, trivial⟩⟩⟩⟩
theorem D1 : fL Ph ext al 481 jc := eu aG rfl ⟨rfl, ⟨rfl, qk, ⟨rfl, trivial⟩⟩⟩
theorem xX : fL Ph ext al 482 fg := eu aG rfl ⟨rfl, ⟨rfl, trivial⟩⟩
theorem tk : fL Ph ext al 470 gn := eu aG rfl ⟨rfl, ⟨rfl, ⟨rfl, ⟨rfl, ⟨rfl, ⟨rfl, ⟨rfl, trivial⟩⟩⟩⟩⟩⟩⟩
theorem B9 : fL Ph ext al 462 dq := eu aG rfl ⟨rfl, ⟨rfl, ⟨rfl, ⟨rfl, ⟨rfl, ⟨rfl, ⟨rfl, DY, ⟨rfl, ⟨rfl, ⟨rfl, D1, ⟨rfl, xX, ⟨rfl, vO, ⟨rfl, ⟨rfl, ⟨rfl, qk, ⟨rfl, ⟨rfl, ⟨rfl, ⟨rfl, ⟨rfl, tk, ⟨rfl, ⟨rfl, ⟨rfl, ⟨rfl, trivial⟩⟩⟩⟩⟩⟩⟩⟩⟩⟩⟩⟩⟩⟩⟩⟩⟩⟩⟩⟩⟩⟩⟩⟩
theorem FC : fL Ph ext al 467 ir := eu aG rfl ⟨rfl, ⟨rfl, ⟨rfl, trivial⟩⟩⟩
theorem Cb : KJ Ph ext al 438 gg := vQ (ss := [.l ir 467]) rfl ⟨FC, trivial⟩
theorem D0 : fL Ph ext al 464 jO := eu aG rfl ⟨rfl, ⟨rfl, ⟨rfl, ⟨rfl, trivial⟩⟩⟩⟩
theorem Ht : fL Ph ext al 465 oH := eu aG rfl ⟨rfl, trivial⟩
theorem Cc : fL Ph ext al 463 jr := eu aG rfl ⟨rfl, ⟨rfl, trivial⟩⟩
theorem FB : fL Ph ext al 466 iq := eu aG rfl ⟨rfl, ⟨rfl, ⟨rfl, ⟨rfl, trivial⟩⟩⟩⟩
theorem xY : KJ Ph ext al 437 eH := vQ (ss := [.l iq 466]) rfl ⟨FB, trivial⟩
theorem FD : fL Ph ext al 436 iT := eu aG rfl ⟨rfl, ⟨rfl, ⟨rfl, ⟨rfl, ⟨rfl, Cc, ⟨rfl, D0, ⟨rfl, ⟨rfl, Ht, ⟨rfl, ⟨rfl, ⟨rfl, trivial⟩⟩⟩⟩⟩⟩⟩⟩⟩⟩⟩
theorem Cd : fL Ph ext al 440 ft := eu aG rfl ⟨rfl, ⟨rfl, qk, ⟨rfl, ⟨rfl, Ah, ⟨rfl, tk, trivial⟩⟩⟩⟩⟩
theorem Cf : fL Ph ext al 422 gW := eu aG rfl ⟨rfl, trivial⟩
theorem FE : fL Ph ext al 439 iU := eu aG rfl ⟨rfl, ⟨rfl, ⟨rfl, Cf, ⟨rfl, trivial⟩⟩⟩⟩
theorem Ce : KJ Ph ext al 435 gh := vQ (ss := [.l dq 462]) rfl ⟨B9, trivial⟩
theorem FF : KJ Ph ext al 425 eK := vQ (ss := [.k [.int .i64, .bool, .int .i64], .s gh 435, .l iT 436, .k [.int .i64], .s eH 437, .s gg 438, .l iU 439, .l ft 440]) rfl ⟨rfl, ⟨Ce, ⟨FD, ⟨rfl, ⟨xY, ⟨Cb, ⟨FE, ⟨Cd, trivial⟩⟩⟩⟩⟩⟩⟩⟩
end
end Gi
