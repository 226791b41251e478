/- Counting buckets; the bucket of an event; what a bucket has sent. -/
import Derived.Test.YtelkiinkpjncnaaGreatGtw
namespace Gi
open Go Go.RowKit
set_option linter.unusedSimpArgs false
set_option linter.unusedVariables false
set_option maxHeartbeats 2000000
attribute [local simp] start execL exec execOps stepO wants fop eop Opd.ev put V.cells plain loadV cut isInt isStr isBool bin binInt binStr_neq binStr_eql un asList L.view viewArgs V.view viewL done finish resultsOf resultOf comps comp giveLs giveL arrsOf V.flat L.flat setV setL storeV putAt thaw thawL freezeVs freezeLs freezeL V.mut L.mut elemPtr viewRows

theorem bucket_cells {r : List PV} (h : HasL t_BucketS r) : ∃ (c0 : List UInt8) (c1 : List UInt8) (c2 : List UInt8) (c3 : Int) (c4 : Int) (c5 : Int) (c6 : List (List PV)) (c7 : List UInt8) (c8 : Int) (c9 : List (List PV)) (c10 : List (List PV)) (c11 : List (List PV)) (c12 : Int) (c13 : List UInt8) (c14 : List (List PV)) (c15 : Int) (c16 : Int) (c17 : Int) (c18 : Int) (c19 : List (List PV)) (c20 : Int) (c21 : Int) (c22 : Int) (c23 : Bool), r = [.str c0, .str c1, .str c2, .int .i64 c3, .int .i64 c4, .int .i64 c5, .lst c6, .str c7, .int .i64 c8, .lst c9, .lst c10, .lst c11, .int .i64 c12, .str c13, .lst c14, .int .i64 c15, .int .i64 c16, .int .i64 c17, .int .i64 c18, .lst c19, .int .i64 c20, .int .i64 c21, .int .i64 c22, .bool c23] ∧ Has (.str) (.str c0) ∧ Has (.str) (.str c1) ∧ Has (.str) (.str c2) ∧ Has (.int .i64) (.int .i64 c3) ∧ Has (.int .i64) (.int .i64 c4) ∧ Has (.int .i64) (.int .i64 c5) ∧ Has (.lst t_CacheS) (.lst c6) ∧ Has (.str) (.str c7) ∧ Has (.int .i64) (.int .i64 c8) ∧ Has (.lst t_StoreS) (.lst c9) ∧ Has (.lst t_IndexDefS) (.lst c10) ∧ Has (.lst t_ByteS) (.lst c11) ∧ Has (.int .i64) (.int .i64 c12) ∧ Has (.str) (.str c13) ∧ Has (.lst t_ItemS) (.lst c14) ∧ Has (.int .i64) (.int .i64 c15) ∧ Has (.int .i64) (.int .i64 c16) ∧ Has (.int .i64) (.int .i64 c17) ∧ Has (.int .i64) (.int .i64 c18) ∧ Has (.lst t_WriteS) (.lst c19) ∧ Has (.int .i64) (.int .i64 c20) ∧ Has (.int .i64) (.int .i64 c21) ∧ Has (.int .i64) (.int .i64 c22) ∧ Has (.bool) (.bool c23) := by
  obtain ⟨p0, r1, rfl, g0, k1⟩ := HasL_cons h
  obtain ⟨p1, r2, rfl, g1, k2⟩ := HasL_cons k1
  obtain ⟨p2, r3, rfl, g2, k3⟩ := HasL_cons k2
  obtain ⟨p3, r4, rfl, g3, k4⟩ := HasL_cons k3
  obtain ⟨p4, r5, rfl, g4, k5⟩ := HasL_cons k4
  obtain ⟨p5, r6, rfl, g5, k6⟩ := HasL_cons k5
  obtain ⟨p6, r7, rfl, g6, k7⟩ := HasL_cons k6
  obtain ⟨p7, r8, rfl, g7, k8⟩ := HasL_cons k7
  obtain ⟨p8, r9, rfl, g8, k9⟩ := HasL_cons k8
  obtain ⟨p9, r10, rfl, g9, k10⟩ := HasL_cons k9
  obtain ⟨p10, r11, rfl, g10, k11⟩ := HasL_cons k10
  obtain ⟨p11, r12, rfl, g11, k12⟩ := HasL_cons k11
  obtain ⟨p12, r13, rfl, g12, k13⟩ := HasL_cons k12
  obtain ⟨p13, r14, rfl, g13, k14⟩ := HasL_cons k13
  obtain ⟨p14, r15, rfl, g14, k15⟩ := HasL_cons k14
  obtain ⟨p15, r16, rfl, g15, k16⟩ := HasL_cons k15
  obtain ⟨p16, r17, rfl, g16, k17⟩ := HasL_cons k16
  obtain ⟨p17, r18, rfl, g17, k18⟩ := HasL_cons k17
  obtain ⟨p18, r19, rfl, g18, k19⟩ := HasL_cons k18
  obtain ⟨p19, r20, rfl, g19, k20⟩ := HasL_cons k19
  obtain ⟨p20, r21, rfl, g20, k21⟩ := HasL_cons k20
  obtain ⟨p21, r22, rfl, g21, k22⟩ := HasL_cons k21
  obtain ⟨p22, r23, rfl, g22, k23⟩ := HasL_cons k22
  obtain ⟨p23, r24, rfl, g23, k24⟩ := HasL_cons k23
  obtain rfl := HasL_nil k24
  obtain ⟨c0, rfl⟩ := Has_str g0
  obtain ⟨c1, rfl⟩ := Has_str g1
  obtain ⟨c2, rfl⟩ := Has_str g2
  obtain ⟨c3, rfl⟩ := Has_int g3
  obtain ⟨c4, rfl⟩ := Has_int g4
  obtain ⟨c5, rfl⟩ := Has_int g5
  obtain ⟨c6, rfl⟩ := Has_lst g6
  obtain ⟨c7, rfl⟩ := Has_str g7
  obtain ⟨c8, rfl⟩ := Has_int g8
  obtain ⟨c9, rfl⟩ := Has_lst g9
  obtain ⟨c10, rfl⟩ := Has_lst g10
  obtain ⟨c11, rfl⟩ := Has_lst g11
  obtain ⟨c12, rfl⟩ := Has_int g12
  obtain ⟨c13, rfl⟩ := Has_str g13
  obtain ⟨c14, rfl⟩ := Has_lst g14
  obtain ⟨c15, rfl⟩ := Has_int g15
  obtain ⟨c16, rfl⟩ := Has_int g16
  obtain ⟨c17, rfl⟩ := Has_int g17
  obtain ⟨c18, rfl⟩ := Has_int g18
  obtain ⟨c19, rfl⟩ := Has_lst g19
  obtain ⟨c20, rfl⟩ := Has_int g20
  obtain ⟨c21, rfl⟩ := Has_int g21
  obtain ⟨c22, rfl⟩ := Has_int g22
  obtain ⟨c23, rfl⟩ := Has_bool g23
  exact ⟨c0, c1, c2, c3, c4, c5, c6, c7, c8, c9, c10, c11, c12, c13, c14, c15, c16, c17, c18, c19, c20, c21, c22, c23, rfl, g0, g1, g2, g3, g4, g5, g6, g7, g8, g9, g10, g11, g12, g13, g14, g15, g16, g17, g18, g19, g20, g21, g22, g23⟩
/-! ### FindBucket of the specification -/
theorem sfb_loop {rows : List (List PV)} {s t : List UInt8} (hl : rows.length ≤ maxLen) (hr : ∀ r ∈ rows, HasL t_BucketS r) : ∀ (m k : Nat) (i : Int), i = k → k + m = rows.length → ∀ (x0 x4 x5 x6 x8 x9 x10 x11 x12 x13 x14 x15 x16 x17 x18 x19 x20 x21 x22 x23 x24 x25 x26 x27 x28 x29 x30 x31 x32 x33 : V),
    Runs (loopL (exec (callL Ph extF) loopL b_spec_FindBucket_0) ⟨(x0 :: vstr s :: vstr t :: .one (.ptr 0 0 0) :: x4 :: x5 :: x6 :: vint .i64 i :: x8 :: x9 :: x10 :: x11 :: x12 :: x13 :: x14 :: x15 :: x16 :: x17 :: x18 :: x19 :: x20 :: x21 :: x22 :: x23 :: x24 :: x25 :: x26 :: x27 :: x28 :: x29 :: x30 :: x31 :: x32 :: x33 :: []), [.box [.pv (.lst rows)]]⟩) fun e σ' =>
      σ'.t.length = 34 ∧ ((e = .exit 0 ∧ findI (isB s t) (rows.drop k) k = -1) ∨ (e = .ret ∧ σ'.t[6]? = some (vint .i64 (findI (isB s t) (rows.drop k) k)))) := by
  generalize hF : exec (callL Ph extF) loopL b_spec_FindBucket_0 = F
  intro m
  induction m with
  | zero =>
    intro k i hi hk x0 x4 x5 x6 x8 x9 x10 x11 x12 x13 x14 x15 x16 x17 x18 x19 x20 x21 x22 x23 x24 x25 x26 x27 x28 x29 x30 x31 x32 x33
    subst hi
    have hk' : k = rows.length := by omega
    subst hk'
    rw [loopL_go0 hF]
    simp [b_spec_FindBucket_0, findI, Runs_some]
  | succ m ih =>
    intro k i hi hk x0 x4 x5 x6 x8 x9 x10 x11 x12 x13 x14 x15 x16 x17 x18 x19 x20 x21 x22 x23 x24 x25 x26 x27 x28 x29 x30 x31 x32 x33
    subst hi
    have hlt : k < rows.length := by omega
    have hw := wrap_small (k := k) (by unfold maxLen at hl; omega)
    obtain ⟨a, b, rest, hrk, hrl⟩ := bucket_head (hr _ (List.getElem_mem hlt))
    have key := ih (k + 1) ((k : Int) + 1) (by omega) (by omega)
    clear ih
    rw [List.drop_eq_getElem_cons hlt, hrk]
    simp only [findI, isB]
    rw [loopL_go0 hF]
    cases h1 : (a == s) <;> cases h2 : (b == t)
    · simp [b_spec_FindBucket_0, hlt, hrk, hrl, hw, h1, h2]
      exact key _ _ _ _ _ _ _ _ _ _ _ _ _ _ _ _ _ _ _ _ _ _ _ _ _ _ _ _ _ _
    · simp [b_spec_FindBucket_0, hlt, hrk, hrl, hw, h1, h2]
      exact key _ _ _ _ _ _ _ _ _ _ _ _ _ _ _ _ _ _ _ _ _ _ _ _ _ _ _ _ _ _
    · simp [b_spec_FindBucket_0, hlt, hrk, hrl, hw, h1, h2]
      exact key _ _ _ _ _ _ _ _ _ _ _ _ _ _ _ _ _ _ _ _ _ _ _ _ _ _ _ _ _ _
    · simp [b_spec_FindBucket_0, hlt, hrk, hrl, hw, h1, h2, Runs_some]
theorem spec_FindBucket_ok {rows : List (List PV)} (h : Has (.lst t_BucketS) (.lst rows)) (s t : List UInt8) : callL Ph extF 145 [.agg [.pv (.lst rows)], vstr s, vstr t] = some (vint .i64 (findI (isB s t) rows 0)) := by
  obtain ⟨hl, hr⟩ := Has_rows h
  refine callL_fn (fn := f_spec_FindBucket) rfl ?_
  obtain ⟨e, ⟨t', h'⟩, q1, q5, q3⟩ := (sfb_loop (s := s) (t := t) hl hr rows.length 0 0 rfl (by omega) (.agg [.pv (.lst rows)]) (.tup []) (.tup []) (vint .i64 0) (.tup []) (.tup []) (.tup []) (.tup []) (.tup []) (.tup []) (.tup []) (.tup []) (.tup []) (.tup []) (.tup []) (.tup []) (.tup []) (.tup []) (.tup []) (.tup []) (.tup []) (.tup []) (.tup []) (.tup []) (.tup []) (.tup []) (.tup []) (.tup []) (.tup []) (.tup [])).get
  simp only [List.drop_zero] at q3
  simp at q5
  generalize hF : exec (callL Ph extF) loopL b_spec_FindBucket_0 = F at q1
  rcases q3 with ⟨rfl, q4⟩ | ⟨rfl, q4⟩
  · rw [q4]
    simp [f_spec_FindBucket, hF, q1, q5]
  · obtain ⟨_, q7⟩ := List.getElem?_eq_some_iff.1 q4
    simp [f_spec_FindBucket, hF, q1, q5, q7]

/-! ### SentBy -/
def zeroB : List L := [(.pv (.str [])), (.pv (.str [])), (.pv (.str [])), (.pv (.int .i64 0)), (.pv (.int .i64 0)), (.pv (.int .i64 0)), .nil, (.pv (.str [])), (.pv (.int .i64 0)), .nil, .nil, .nil, (.pv (.int .i64 0)), (.pv (.str [])), .nil, (.pv (.int .i64 0)), (.pv (.int .i64 0)), (.pv (.int .i64 0)), (.pv (.int .i64 0)), .nil, (.pv (.int .i64 0)), (.pv (.int .i64 0)), (.pv (.int .i64 0)), (.pv (.bool false))]
theorem impl_bucketOf_none {c0 : Int} {c1 : Bool} {c2 : Int} {c3 c4 : List (List PV)} {c5 : Int} {c6 c7 c8 c9 : List (List PV)} (h3 : Has (.lst t_BucketS) (.lst c3)) {s t : List UInt8} (hn : findI (isB s t) c3 0 < 0) : callL Ph extF 146 [.agg [.pv (.int .i64 c0), .pv (.bool c1), .pv (.int .i64 c2), .pv (.lst c3), .pv (.lst c4), .pv (.int .i64 c5), .pv (.lst c6), .pv (.lst c7), .pv (.lst c8), .pv (.lst c9)], vstr s, vstr t] = some (.tup [(true, zeroB), (false, [.pv (.bool false)])]) := by
  have e1 := impl_FindBucket_ok h3 s t
  refine callL_fn (fn := f_impl_bucketOf) rfl ?_
  simp [f_impl_bucketOf, e1, hn, fillL, zeroB]
theorem impl_bucketOf_some {c0 : Int} {c1 : Bool} {c2 : Int} {c3 c4 : List (List PV)} {c5 : Int} {c6 c7 c8 c9 : List (List PV)} (h3 : Has (.lst t_BucketS) (.lst c3)) {s t : List UInt8} {j : Nat} (hj : j < c3.length) (hn : findI (isB s t) c3 0 = (j : Int)) : callL Ph extF 146 [.agg [.pv (.int .i64 c0), .pv (.bool c1), .pv (.int .i64 c2), .pv (.lst c3), .pv (.lst c4), .pv (.int .i64 c5), .pv (.lst c6), .pv (.lst c7), .pv (.lst c8), .pv (.lst c9)], vstr s, vstr t] = some (.tup [(true, (c3[j]).map .pv), (false, [.pv (.bool true)])]) := by
  have e1 := impl_FindBucket_ok h3 s t
  rw [hn] at e1
  obtain ⟨d0, d1, d2, d3, d4, d5, d6, d7, d8, d9, d10, d11, d12, d13, d14, d15, d16, d17, d18, d19, d20, d21, d22, d23, hd, _⟩ := bucket_cells ((Has_rows h3).2 _ (List.getElem_mem hj))
  have hneg : ¬ (j : Int) < 0 := by omega
  refine callL_fn (fn := f_impl_bucketOf) rfl ?_
  simp [f_impl_bucketOf, e1, hneg, hj, hd]
end Gi
