/- The text of a mark. -/
import Derived.Test.YtbjjahmdgplbeaaGreatGpp
namespace Gi
open Go Go.RowKit
set_option linter.unusedVariables false
set_option linter.unusedSimpArgs false

def digs : Nat → Nat → List UInt8 → List UInt8
  | 0, _, o => o
  | n + 1, k, o => if k = 0 then o else digs n (k / 10) (UInt8.ofNat (48 + k % 10) :: o)
def mText (k : Int) : List UInt8 := if k ≤ 0 then [109, 48] else 109 :: digs 13 k.toNat []
theorem digs_len : ∀ (n k : Nat) (o : List UInt8), (digs n k o).length ≤ n + o.length
  | 0, k, o => by simp [digs]
  | n + 1, k, o => by
    simp only [digs]
    split
    · omega
    · have := digs_len n (k / 10) (UInt8.ofNat (48 + k % 10) :: o)
      simp only [List.length_cons] at this
      omega
def txB : ACode := .seq (.seq (.region [⟨some 6, .mv (.tmp 0), none⟩, ⟨some 7, .bin .gtr (.tmp 6) (.pv (.int .i64 0)), none⟩]) (.cond (.tmp 7) .skip (.exit 0))) (.block 1 (.seq (.region [⟨some 8, .mv (.tmp 0), none⟩, ⟨some 9, .bin .rem (.tmp 8) (.pv (.int .i64 10)), none⟩, ⟨some 10, .bin .add (.pv (.int .i64 48)) (.tmp 9), none⟩, ⟨some 11, .conv .u8 (.tmp 10), none⟩, ⟨some 12, .buildS 1 [.tmp 11], none⟩, ⟨some 13, .b2s (.tmp 12), none⟩, ⟨some 14, .mv (.tmp 3), none⟩, ⟨some 15, .bin .add (.tmp 13) (.tmp 14), none⟩, ⟨some 3, .mv (.tmp 15), none⟩]) (.region [⟨some 16, .mv (.tmp 0), none⟩, ⟨some 17, .bin .quo (.tmp 16) (.pv (.int .i64 10)), none⟩, ⟨some 0, .mv (.tmp 17), none⟩])))
def txF : AFn := ⟨20, [.tmp 2], .seq (.region [⟨some 2, .mv (.pv (.str [])), none⟩]) (.seq (.seq (.region [⟨some 4, .mv (.tmp 0), none⟩, ⟨some 5, .bin .leq (.tmp 4) (.pv (.int .i64 0)), none⟩]) (.cond (.tmp 5) (.seq (.region [⟨some 2, .mv (.pv (.str [109, 48])), none⟩]) .ret) .skip)) (.seq (.region [⟨some 3, .mv (.pv (.str [])), none⟩]) (.seq (.block 0 (.loop txB)) (.seq (.region [⟨some 18, .mv (.tmp 3), none⟩, ⟨some 19, .bin .add (.pv (.str [109])) (.tmp 18), none⟩, ⟨some 2, .mv (.tmp 19), none⟩]) .ret))))⟩

section
variable {Φ : Nat → Option AFn} {ext : Nat → List V → Option V}
theorem tx_loop : ∀ (n k : Nat), k < 10 ^ n → k < 9223372036854775807 → ∀ (o : List UInt8), o.length + n ≤ 1000 → ∀ (u1 u2 u4 u5 u6 u7 u8 u9 u10 u11 u12 u13 u14 u15 u16 u17 u18 u19 : V) (h : List AObj),
    ∃ w1 w2 w4 w5 w6 w7 w8 w9 w10 w11 w12 w13 w14 w15 w16 w17 w18 w19 h', loopL (exec (callL Φ ext) loopL txB) ⟨[vint .i64 k, u1, u2, vstr o, u4, u5, u6, u7, u8, u9, u10, u11, u12, u13, u14, u15, u16, u17, u18, u19], h⟩ = some (.exit 0, ⟨[vint .i64 0, w1, w2, vstr (digs n k o), w4, w5, w6, w7, w8, w9, w10, w11, w12, w13, w14, w15, w16, w17, w18, w19], h'⟩) := by
  intro n
  induction n with
  | zero =>
    intro k hk hk2 o ho u1 u2 u4 u5 u6 u7 u8 u9 u10 u11 u12 u13 u14 u15 u16 u17 u18 u19 h
    obtain rfl : k = 0 := by simpa using hk
    refine ⟨u1, u2, u4, u5, vint .i64 0, vbool false, u8, u9, u10, u11, u12, u13, u14, u15, u16, u17, u18, u19, h, loopL_end ?_ (by simp)⟩
    simp [txB, exec, execOps, stepO, wants, fop, Opd.ev, put, bin, binInt, isBool, digs]
  | succ n ih =>
    intro k hk hk2 o ho u1 u2 u4 u5 u6 u7 u8 u9 u10 u11 u12 u13 u14 u15 u16 u17 u18 u19 h
    by_cases h0 : k = 0
    · subst h0
      refine ⟨u1, u2, u4, u5, vint .i64 0, vbool false, u8, u9, u10, u11, u12, u13, u14, u15, u16, u17, u18, u19, h, loopL_end ?_ (by simp)⟩
      simp [txB, exec, execOps, stepO, wants, fop, Opd.ev, put, bin, binInt, isBool, digs]
    · have hpos : (0 : Int) < (k : Int) := by omega
      have hm : (k : Int).tmod 10 = ((k % 10 : Nat) : Int) := by
        rw [Int.tmod_eq_emod_of_nonneg (by omega)]; omega
      have hq : (k : Int).tdiv 10 = ((k / 10 : Nat) : Int) := by
        rw [Int.tdiv_eq_ediv_of_nonneg (by omega)]; omega
      have hw1 : IntKind.i64.wrap (48 + ((k % 10 : Nat) : Int)) = ((48 + k % 10 : Nat) : Int) := by rw [IntKind.wrap_i64]; omega
      have hw2 : IntKind.u8.wrap ((48 + k % 10 : Nat) : Int) = ((48 + k % 10 : Nat) : Int) := by rw [IntKind.wrap_u8]; omega
      have hw3 : IntKind.i64.wrap ((k / 10 : Nat) : Int) = ((k / 10 : Nat) : Int) := by rw [IntKind.wrap_i64]; omega
      have hlt : k / 10 < 10 ^ n := by
        rw [Nat.pow_succ] at hk
        omega
      have hlen : ([UInt8.ofNat (48 + k % 10)] : List UInt8).length + o.length ≤ 9223372036854775807 := by simp; omega
      obtain ⟨w1, w2, w4, w5, w6, w7, w8, w9, w10, w11, w12, w13, w14, w15, w16, w17, w18, w19, h', e⟩ := ih (k / 10) hlt (by omega) (UInt8.ofNat (48 + k % 10) :: o) (by simp; omega) u1 u2 u4 u5 (vint .i64 k) (vbool true) (vint .i64 k) (vint .i64 ((k % 10 : Nat) : Int)) (vint .i64 ((48 + k % 10 : Nat) : Int)) (vint .u8 ((48 + k % 10 : Nat) : Int)) (.one (.arr h.length)) (vstr [UInt8.ofNat (48 + k % 10)]) (vstr o) (vstr (UInt8.ofNat (48 + k % 10) :: o)) (vint .i64 k) (vint .i64 ((k / 10 : Nat) : Int)) u18 u19 (h ++ [.arr 1 [[.int .u8 ((48 + k % 10 : Nat) : Int)]]])
      refine ⟨w1, w2, w4, w5, w6, w7, w8, w9, w10, w11, w12, w13, w14, w15, w16, w17, w18, w19, h', (loopL_next ?_).trans (e.trans ?_)⟩
      · have hbs : bytesOf [[PV.int .u8 ((48 + k % 10 : Nat) : Int)]] = some [UInt8.ofNat (48 + k % 10)] := by
          simp only [bytesOf, Int.toNat_natCast]
        have hvr : viewRows h [vint .u8 ((48 + k % 10 : Nat) : Int)] = some [[.int .u8 ((48 + k % 10 : Nat) : Int)]] := rfl
        have hfz : freezeVs h [vint .u8 ((48 + k % 10 : Nat) : Int)] = h := rfl
        have hal : asList (h ++ [AObj.arr 1 [[.int .u8 ((48 + k % 10 : Nat) : Int)]]]) (.one (.arr h.length)) = some [[.int .u8 ((48 + k % 10 : Nat) : Int)]] := by
          simp [asList, L.view]
        have hbp : decide ((0 : Int) < (k : Int)) = true := decide_eq_true hpos
        have h10 : ¬ ((10 : Int) = 0) := by decide
        have hc1 : (([vint .u8 ((48 + k % 10 : Nat) : Int)] : List V).all (fun v => v.cells.length == 1) && decide (0 < 1) && decide (([vint .u8 ((48 + k % 10 : Nat) : Int)] : List V).length * 1 ≤ 16777216)) = true := rfl
        simp only [txB, exec, execOps, stepO, wants, fop, eop, Opd.ev, put, List.getD_cons_zero, List.getD_cons_succ, List.set_cons_succ, List.set_cons_zero, bin, binInt, binStr, if_true, if_neg h10, hbp, isBool, isInt, List.map_cons, List.map_nil, hm, hw1, hw2, hc1, hvr, hfz, hal, hbs, hlen, hq, hw3, List.cons_append, List.nil_append]
      · simp only [digs, if_neg h0]

theorem txF_ok {f : Nat} (hk : Φ f = some txF) : TxOK Φ ext mText f := by
  intro k h0 hM
  refine callL_fn hk ?_
  by_cases hz : k ≤ 0
  · have hb : decide (k ≤ 0) = true := decide_eq_true hz
    simp [txF, start, execL, exec, execOps, stepO, wants, fop, Opd.ev, put, bin, binInt, hb, isBool, done, finish, resultsOf, resultOf, comps, comp, giveLs, giveL, arrsOf, V.cells, mText, hz]
  · have hb : decide (k ≤ 0) = false := decide_eq_false hz
    obtain ⟨n, rfl⟩ : ∃ n : Nat, k = n := ⟨k.toNat, by omega⟩
    unfold mkM at hM
    have hdl := digs_len 13 n []
    have hlen : ([109] : List UInt8).length + (digs 13 n []).length ≤ 9223372036854775807 := by simp at hdl ⊢; omega
    have hlen' : 1 + (digs 13 n []).length ≤ 9223372036854775807 := by simpa using hlen
    generalize hlp : loopL (exec (callL Φ ext) loopL txB) = lp
    have hloop : ∀ u1 u2 u4 u5 u6 u7 u8 u9 u10 u11 u12 u13 u14 u15 u16 u17 u18 u19 h, ∃ w1 w2 w4 w5 w6 w7 w8 w9 w10 w11 w12 w13 w14 w15 w16 w17 w18 w19 h', lp ⟨[vint .i64 n, u1, u2, vstr [], u4, u5, u6, u7, u8, u9, u10, u11, u12, u13, u14, u15, u16, u17, u18, u19], h⟩ = some (.exit 0, ⟨[vint .i64 0, w1, w2, vstr (digs 13 n []), w4, w5, w6, w7, w8, w9, w10, w11, w12, w13, w14, w15, w16, w17, w18, w19], h'⟩) := by
      rw [← hlp]
      exact tx_loop (Φ := Φ) (ext := ext) 13 n (by omega) (by omega) [] (by simp)
    obtain ⟨w1, w2, w4, w5, w6, w7, w8, w9, w10, w11, w12, w13, w14, w15, w16, w17, w18, w19, h', e⟩ := hloop (.tup []) (vstr []) (vint .i64 n) (vbool false) (.tup []) (.tup []) (.tup []) (.tup []) (.tup []) (.tup []) (.tup []) (.tup []) (.tup []) (.tup []) (.tup []) (.tup []) (.tup []) (.tup []) []
    have hm : mText (n : Int) = 109 :: digs 13 n [] := by simp only [mText, if_neg hz, Int.toNat_natCast]
    rw [hm]
    simp only [txF, start, execL, exec, hlp, List.length_singleton, Nat.reduceSub, List.replicate, List.cons_append, List.nil_append, execOps, stepO, wants, fop, Opd.ev, put, List.getD_cons_zero, List.getD_cons_succ, List.set_cons_succ, List.set_cons_zero, bin, binInt, hb, if_true, isBool, Bool.false_eq_true, if_false, e, binStr, hlen]
    simp [hlen', done, finish, resultsOf, resultOf, comps, comp, giveLs, giveL, arrsOf, V.cells]
end
end Gi
