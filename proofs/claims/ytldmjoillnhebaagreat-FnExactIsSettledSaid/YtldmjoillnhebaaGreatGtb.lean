/- What the copying, measuring and comparing functions of the laws compute, written by program. -/
import Derived.Test.YtldmjoillnhebaaGreatGtbo
namespace Gi
open Go Go.RowKit
set_option linter.unusedVariables false
set_option linter.unusedSimpArgs false
set_option maxHeartbeats 4000000
attribute [local simp] start execL exec execOps stepO wants fop eop Opd.ev put V.cells plain loadV cut isInt isStr isBool bin binInt un asList L.view viewArgs V.view viewL done finish resultsOf resultOf comps comp giveLs giveL arrsOf V.flat L.flat setV setL storeV putAt thaw thawL freezeVs freezeLs freezeL V.mut L.mut
section
variable {ext : Nat → List V → Option V}
theorem toMail_ok {c0 : Int} {c1 : Int} {c2 : Int} (h0 : Has (.int .i64) (.int .i64 c0)) (h1 : Has (.int .i64) (.int .i64 c1)) (h2 : Has (.int .i64) (.int .i64 c2)) (hs : szL [.int .i64 c0, .int .i64 c1, .int .i64 c2] ≤ 1048576) : callL Ph ext 203 [.agg [.pv (.int .i64 c0), .pv (.int .i64 c1), .pv (.int .i64 c2)]] = some (.agg [.pv (.int .i64 c0), .pv (.int .i64 c1), .pv (.int .i64 c2)]) := by
  refine callL_fn (fn := f_laws_toMail) rfl ?_
  simp [f_laws_toMail, binStr]
theorem toMail_copies {r : List PV} (h : HasL t_Mail r) (hs : szL r ≤ 1048576) : Copies Ph ext 203 true r := by
  obtain ⟨p0, r1, rfl, g0, k1⟩ := HasL_cons h
  obtain ⟨p1, r2, rfl, g1, k2⟩ := HasL_cons k1
  obtain ⟨p2, r3, rfl, g2, k3⟩ := HasL_cons k2
  obtain rfl := HasL_nil k3
  obtain ⟨c0, rfl⟩ := Has_int g0
  obtain ⟨c1, rfl⟩ := Has_int g1
  obtain ⟨c2, rfl⟩ := Has_int g2
  exact ⟨_, toMail_ok g0 g1 g2 hs, rfl, rfl, fun _ => ⟨rfl, rfl⟩⟩
theorem eqMail_ok {r : List PV} (h : HasL t_Mail r) : callL Ph ext 207 [.agg (r.map .pv), .agg (r.map .pv)] = some (vbool true) := by
  obtain ⟨p0, r1, rfl, g0, k1⟩ := HasL_cons h
  obtain ⟨p1, r2, rfl, g1, k2⟩ := HasL_cons k1
  obtain ⟨p2, r3, rfl, g2, k3⟩ := HasL_cons k2
  obtain rfl := HasL_nil k3
  obtain ⟨c0, rfl⟩ := Has_int g0
  obtain ⟨c1, rfl⟩ := Has_int g1
  obtain ⟨c2, rfl⟩ := Has_int g2
  show callL Ph ext 207 [.agg [.pv (.int .i64 c0), .pv (.int .i64 c1), .pv (.int .i64 c2)], .agg [.pv (.int .i64 c0), .pv (.int .i64 c1), .pv (.int .i64 c2)]] = _
  refine callL_fn (fn := f_laws_eqMail) rfl ?_
  simp [f_laws_eqMail, binStr]
theorem toMailS_ok {rows : List (List PV)} (h : Has (.lst t_MailS) (.lst rows)) (hs : sz (.lst rows) ≤ 1048576) : callL Ph ext 169 [vlst rows] = some (.one (.own 3 rows)) := by
  obtain ⟨hl, hr⟩ := Has_rows h
  have hn : rows.length ≤ 1048576 := Nat.le_trans (Nat.le_add_right _ _) hs
  refine toS_ok (Φ := Ph) (ext := ext) (k := 169) (bytes := 24) (z := 3) (kx := 203) (zero := [(.int .i64 0), (.int .i64 0), (.int .i64 0)]) (fl := true) rfl (fun r m => HasL_len (hr r m)) (by decide) rfl hl (by omega) (fun r m => ?_)
  exact toMail_copies (hr r m) (row_le m hs)
theorem szMailS_ok {rows : List (List PV)} (h : Has (.lst t_MailS) (.lst rows)) {left : Int} (h0 : 0 ≤ left) (h1 : left ≤ 1048576) : callL Ph ext 165 [vlst rows, vint .i64 left] = some (vint .i64 (less left (sz (.lst rows)))) := by
  obtain ⟨hl, hr⟩ := Has_rows h
  rw [sz_lst, szRows_zero (ts := t_MailS) (by decide) hr]
  exact szF_ok (Φ := Ph) (ext := ext) (k := 165) rfl hl h0 h1
theorem eqMailS_ok {rows : List (List PV)} (h : Has (.lst t_MailS) (.lst rows)) : callL Ph ext 173 [vlst rows, vlst rows] = some (vbool true) := by
  obtain ⟨hl, hr⟩ := Has_rows h
  exact eqS_ok (Φ := Ph) (ext := ext) (k := 173) (z := 3) (kx := 207) rfl (fun r m => HasL_len (hr r m)) hl (fun r m => eqMail_ok (hr r m))
theorem toChannel_ok {c0 : List (List PV)} (h0 : Has (.lst t_MailS) (.lst c0)) (hs : szL [.lst c0] ≤ 1048576) : callL Ph ext 136 [.agg [.pv (.lst c0)]] = some (.agg [.own 3 c0]) := by
  have e0 := (toMailS_ok (ext := ext) h0 (Nat.le_trans (szL_at (i := 0) rfl) hs))
  refine callL_fn (fn := f_laws_toChannel) rfl ?_
  simp [f_laws_toChannel, binStr, e0]
theorem toChannel_copies {r : List PV} (h : HasL t_Channel r) (hs : szL r ≤ 1048576) : Copies Ph ext 136 false r := by
  obtain ⟨p0, r1, rfl, g0, k1⟩ := HasL_cons h
  obtain rfl := HasL_nil k1
  obtain ⟨c0, rfl⟩ := Has_lst g0
  exact ⟨_, toChannel_ok g0 hs, rfl, rfl, fun h => by cases h⟩
theorem szChannel_ok {r : List PV} (h : HasL t_Channel r) : Measures Ph ext 130 r := by
  obtain ⟨p0, r1, rfl, g0, k1⟩ := HasL_cons h
  obtain rfl := HasL_nil k1
  obtain ⟨c0, rfl⟩ := Has_lst g0
  intro left h0 h1
  show callL Ph ext 130 [.agg [.pv (.lst c0)], vint .i64 left] = _
  have tot : szL [.lst c0] = sz (.lst c0) := by simp only [szL_nil0, szL_cons0, sz_int0, sz_bool0, sz_str0, Nat.add_zero, Nat.zero_add, Nat.add_assoc]
  generalize szL [.lst c0] = T at tot ⊢
  have e0 := szMailS_ok (ext := ext) g0 (left := left) (by omega) (by omega)
  generalize hS0 : sz (.lst c0) = S0 at tot e0
  generalize q0 : less left S0 = l0 at e0
  by_cases n0 : l0 < 0
  · have n0' := less_lt' (by omega) q0 n0
    rw [less_lt (by omega)]
    refine callL_fn (fn := f_laws_szChannel) rfl ?_
    simp [f_laws_szChannel, binStr, e0, n0]
  obtain ⟨y0, z0⟩ := less_pos (by omega) q0 n0
  rw [less_ge' (n := T) (l := l0) (by omega) (by omega)]
  refine callL_fn (fn := f_laws_szChannel) rfl ?_
  simp [f_laws_szChannel, binStr, e0, n0]
theorem eqChannel_ok {r : List PV} (h : HasL t_Channel r) : callL Ph ext 142 [.agg (r.map .pv), .agg (r.map .pv)] = some (vbool true) := by
  obtain ⟨p0, r1, rfl, g0, k1⟩ := HasL_cons h
  obtain rfl := HasL_nil k1
  obtain ⟨c0, rfl⟩ := Has_lst g0
  show callL Ph ext 142 [.agg [.pv (.lst c0)], .agg [.pv (.lst c0)]] = _
  have e0 := eqMailS_ok (ext := ext) g0
  refine callL_fn (fn := f_laws_eqChannel) rfl ?_
  simp [f_laws_eqChannel, binStr, e0]
theorem toStringS_ok {rows : List (List PV)} (h : Has (.lst t_StringS) (.lst rows)) (hs : sz (.lst rows) ≤ 1048576) : callL Ph ext 204 [vlst rows] = some (.one (.own 1 rows)) := by
  obtain ⟨hl, hr⟩ := Has_rows h
  have hn : rows.length ≤ 1048576 := Nat.le_trans (Nat.le_add_right _ _) hs
  obtain ⟨qs, rfl⟩ := singles hr
  exact toF_ok (Φ := Ph) (ext := ext) (k := 204) (bytes := 16) (zero := (.str [])) rfl (by simpa using hl) (by simp at hn; omega)
theorem eqStringS_ok {rows : List (List PV)} (h : Has (.lst t_StringS) (.lst rows)) : callL Ph ext 208 [vlst rows, vlst rows] = some (vbool true) := by
  obtain ⟨hl, hr⟩ := Has_rows h
  obtain ⟨qs, rfl⟩ := singles hr
  exact eqF_ok (Φ := Ph) (ext := ext) (k := 208) rfl (plains (by decide) hr) (by simpa using hl)
theorem toSite_ok {c0 : List UInt8} {c1 : Int} {c2 : List (List PV)} {c3 : Bool} (h0 : Has (.str) (.str c0)) (h1 : Has (.int .i64) (.int .i64 c1)) (h2 : Has (.lst t_StringS) (.lst c2)) (h3 : Has (.bool) (.bool c3)) (hs : szL [.str c0, .int .i64 c1, .lst c2, .bool c3] ≤ 1048576) : callL Ph ext 170 [.agg [.pv (.str c0), .pv (.int .i64 c1), .pv (.lst c2), .pv (.bool c3)]] = some (.agg [.pv (.str c0), .pv (.int .i64 c1), .own 1 c2, .pv (.bool c3)]) := by
  have e0 := (toStringS_ok (ext := ext) h2 (Nat.le_trans (szL_at (i := 2) rfl) hs))
  refine callL_fn (fn := f_laws_toSite) rfl ?_
  simp [f_laws_toSite, binStr, e0]
theorem toSite_copies {r : List PV} (h : HasL t_Site r) (hs : szL r ≤ 1048576) : Copies Ph ext 170 false r := by
  obtain ⟨p0, r1, rfl, g0, k1⟩ := HasL_cons h
  obtain ⟨p1, r2, rfl, g1, k2⟩ := HasL_cons k1
  obtain ⟨p2, r3, rfl, g2, k3⟩ := HasL_cons k2
  obtain ⟨p3, r4, rfl, g3, k4⟩ := HasL_cons k3
  obtain rfl := HasL_nil k4
  obtain ⟨c0, rfl⟩ := Has_str g0
  obtain ⟨c1, rfl⟩ := Has_int g1
  obtain ⟨c2, rfl⟩ := Has_lst g2
  obtain ⟨c3, rfl⟩ := Has_bool g3
  exact ⟨_, toSite_ok g0 g1 g2 g3 hs, rfl, rfl, fun h => by cases h⟩
theorem szSite_ok {r : List PV} (h : HasL t_Site r) : Measures Ph ext 166 r := by
  obtain ⟨p0, r1, rfl, g0, k1⟩ := HasL_cons h
  obtain ⟨p1, r2, rfl, g1, k2⟩ := HasL_cons k1
  obtain ⟨p2, r3, rfl, g2, k3⟩ := HasL_cons k2
  obtain ⟨p3, r4, rfl, g3, k4⟩ := HasL_cons k3
  obtain rfl := HasL_nil k4
  obtain ⟨c0, rfl⟩ := Has_str g0
  obtain ⟨c1, rfl⟩ := Has_int g1
  obtain ⟨c2, rfl⟩ := Has_lst g2
  obtain ⟨c3, rfl⟩ := Has_bool g3
  intro left h0 h1
  show callL Ph ext 166 [.agg [.pv (.str c0), .pv (.int .i64 c1), .pv (.lst c2), .pv (.bool c3)], vint .i64 left] = _
  have tot : szL [.str c0, .int .i64 c1, .lst c2, .bool c3] = c0.length + (sz (.lst c2)) := by simp only [szL_nil0, szL_cons0, sz_int0, sz_bool0, sz_str0, Nat.add_zero, Nat.zero_add, Nat.add_assoc]
  generalize szL [.str c0, .int .i64 c1, .lst c2, .bool c3] = T at tot ⊢
  have b0 : c0.length ≤ maxLen := g0
  unfold maxLen at b0
  obtain ⟨l0, q0⟩ : ∃ x : Int, x = left - c0.length := ⟨_, rfl⟩
  have e0 : IntKind.i64.wrap (left - (c0.length : Int)) = l0 := by rw [q0, IntKind.wrap_i64]; omega
  by_cases n0 : l0 < 0
  · rw [less_lt (by omega)]
    refine callL_fn (fn := f_laws_szSite) rfl ?_
    simp [f_laws_szSite, binStr, e0, n0]
  have e1 := szStringS_ok (ext := ext) (Has_rows g2).1 (strs g2) (left := l0) (by omega) (by omega)
  generalize hS1 : sz (.lst c2) = S1 at tot e1
  generalize q1 : less l0 S1 = l1 at e1
  by_cases n1 : l1 < 0
  · have n1' := less_lt' (by omega) q1 n1
    rw [less_lt (by omega)]
    refine callL_fn (fn := f_laws_szSite) rfl ?_
    simp [f_laws_szSite, binStr, e0, e1, n0, n1]
  obtain ⟨y1, z1⟩ := less_pos (by omega) q1 n1
  rw [less_ge' (n := T) (l := l1) (by omega) (by omega)]
  refine callL_fn (fn := f_laws_szSite) rfl ?_
  simp [f_laws_szSite, binStr, e0, e1, n0, n1]
theorem eqSite_ok {r : List PV} (h : HasL t_Site r) : callL Ph ext 174 [.agg (r.map .pv), .agg (r.map .pv)] = some (vbool true) := by
  obtain ⟨p0, r1, rfl, g0, k1⟩ := HasL_cons h
  obtain ⟨p1, r2, rfl, g1, k2⟩ := HasL_cons k1
  obtain ⟨p2, r3, rfl, g2, k3⟩ := HasL_cons k2
  obtain ⟨p3, r4, rfl, g3, k4⟩ := HasL_cons k3
  obtain rfl := HasL_nil k4
  obtain ⟨c0, rfl⟩ := Has_str g0
  obtain ⟨c1, rfl⟩ := Has_int g1
  obtain ⟨c2, rfl⟩ := Has_lst g2
  obtain ⟨c3, rfl⟩ := Has_bool g3
  show callL Ph ext 174 [.agg [.pv (.str c0), .pv (.int .i64 c1), .pv (.lst c2), .pv (.bool c3)], .agg [.pv (.str c0), .pv (.int .i64 c1), .pv (.lst c2), .pv (.bool c3)]] = _
  have e0 := eqStringS_ok (ext := ext) g2
  refine callL_fn (fn := f_laws_eqSite) rfl ?_
  simp [f_laws_eqSite, binStr, e0]
theorem toSiteS_ok {rows : List (List PV)} (h : Has (.lst t_SiteS) (.lst rows)) (hs : sz (.lst rows) ≤ 1048576) : callL Ph ext 137 [vlst rows] = some (.one (.own 4 rows)) := by
  obtain ⟨hl, hr⟩ := Has_rows h
  have hn : rows.length ≤ 1048576 := Nat.le_trans (Nat.le_add_right _ _) hs
  refine toS_ok (Φ := Ph) (ext := ext) (k := 137) (bytes := 56) (z := 4) (kx := 170) (zero := [(.str []), (.int .i64 0), (.lst []), (.bool false)]) (fl := false) rfl (fun r m => HasL_len (hr r m)) (by decide) rfl hl (by omega) (fun r m => ?_)
  exact toSite_copies (hr r m) (row_le m hs)
theorem szSiteS_ok {rows : List (List PV)} (h : Has (.lst t_SiteS) (.lst rows)) {left : Int} (h0 : 0 ≤ left) (h1 : left ≤ 1048576) : callL Ph ext 131 [vlst rows, vint .i64 left] = some (vint .i64 (less left (sz (.lst rows)))) := by
  obtain ⟨hl, hr⟩ := Has_rows h
  exact szS_ok (Φ := Ph) (ext := ext) (k := 131) (z := 4) (kx := 166) rfl (fun r m => HasL_len (hr r m)) hl (fun r m => szSite_ok (hr r m)) h0 h1
theorem eqSiteS_ok {rows : List (List PV)} (h : Has (.lst t_SiteS) (.lst rows)) : callL Ph ext 143 [vlst rows, vlst rows] = some (vbool true) := by
  obtain ⟨hl, hr⟩ := Has_rows h
  exact eqS_ok (Φ := Ph) (ext := ext) (k := 143) (z := 4) (kx := 174) rfl (fun r m => HasL_len (hr r m)) hl (fun r m => eqSite_ok (hr r m))
theorem toServerS_ok {rows : List (List PV)} (h : Has (.lst t_ServerS) (.lst rows)) (hs : sz (.lst rows) ≤ 1048576) : callL Ph ext 138 [vlst rows] = some (.one (.own 5 rows)) := by
  obtain ⟨hl, hr⟩ := Has_rows h
  have hn : rows.length ≤ 1048576 := Nat.le_trans (Nat.le_add_right _ _) hs
  refine toS_ok (Φ := Ph) (ext := ext) (k := 138) (bytes := 96) (z := 5) (kx := 17) (zero := [(.str []), (.lst []), (.int .i64 0), (.lst []), (.lst [])]) (fl := false) rfl (fun r m => HasL_len (hr r m)) (by decide) rfl hl (by omega) (fun r m => ?_)
  exact toServer_copies (hr r m) (row_le m hs)
theorem szServerS_ok {rows : List (List PV)} (h : Has (.lst t_ServerS) (.lst rows)) {left : Int} (h0 : 0 ≤ left) (h1 : left ≤ 1048576) : callL Ph ext 132 [vlst rows, vint .i64 left] = some (vint .i64 (less left (sz (.lst rows)))) := by
  obtain ⟨hl, hr⟩ := Has_rows h
  exact szS_ok (Φ := Ph) (ext := ext) (k := 132) (z := 5) (kx := 15) rfl (fun r m => HasL_len (hr r m)) hl (fun r m => szServer_ok (hr r m)) h0 h1
theorem eqServerS_ok {rows : List (List PV)} (h : Has (.lst t_ServerS) (.lst rows)) : callL Ph ext 144 [vlst rows, vlst rows] = some (vbool true) := by
  obtain ⟨hl, hr⟩ := Has_rows h
  exact eqS_ok (Φ := Ph) (ext := ext) (k := 144) (z := 5) (kx := 19) rfl (fun r m => HasL_len (hr r m)) hl (fun r m => eqServer_ok (hr r m))
theorem toWorld_ok {c0 : Int} {c1 : Bool} {c2 : Int} {c3 : List (List PV)} {c4 : List (List PV)} {c5 : Int} {c6 : List (List PV)} {c7 : List (List PV)} {c8 : List (List PV)} {c9 : List (List PV)} (h0 : Has (.int .i64) (.int .i64 c0)) (h1 : Has (.bool) (.bool c1)) (h2 : Has (.int .i64) (.int .i64 c2)) (h3 : Has (.lst t_BucketS) (.lst c3)) (h4 : Has (.lst t_PageS) (.lst c4)) (h5 : Has (.int .i64) (.int .i64 c5)) (h6 : Has (.lst t_LockS) (.lst c6)) (h7 : Has (.lst t_MailS) (.lst c7)) (h8 : Has (.lst t_SiteS) (.lst c8)) (h9 : Has (.lst t_ServerS) (.lst c9)) (hs : szL [.int .i64 c0, .bool c1, .int .i64 c2, .lst c3, .lst c4, .int .i64 c5, .lst c6, .lst c7, .lst c8, .lst c9] ≤ 1048576) : callL Ph ext 106 [.agg [.pv (.int .i64 c0), .pv (.bool c1), .pv (.int .i64 c2), .pv (.lst c3), .pv (.lst c4), .pv (.int .i64 c5), .pv (.lst c6), .pv (.lst c7), .pv (.lst c8), .pv (.lst c9)]] = some (.agg [.pv (.int .i64 c0), .pv (.bool c1), .pv (.int .i64 c2), .own 24 c3, .own 11 c4, .pv (.int .i64 c5), .own 4 c6, .own 3 c7, .own 4 c8, .own 5 c9]) := by
  have e0 := (toStorage_ok (ext := ext) h3 (Nat.le_trans (szL_sub [.int .i64 c0, .bool c1, .int .i64 c2, .lst c3, .lst c4, .int .i64 c5, .lst c6, .lst c7, .lst c8, .lst c9] 3 1) hs))
  have e1 := (toPageS_ok (ext := ext) h4 (Nat.le_trans (szL_at (i := 4) rfl) hs))
  have e2 := (toLockTable_ok (ext := ext) h6 (Nat.le_trans (szL_sub [.int .i64 c0, .bool c1, .int .i64 c2, .lst c3, .lst c4, .int .i64 c5, .lst c6, .lst c7, .lst c8, .lst c9] 6 1) hs))
  have e3 := (toChannel_ok (ext := ext) h7 (Nat.le_trans (szL_sub [.int .i64 c0, .bool c1, .int .i64 c2, .lst c3, .lst c4, .int .i64 c5, .lst c6, .lst c7, .lst c8, .lst c9] 7 1) hs))
  have e4 := (toSiteS_ok (ext := ext) h8 (Nat.le_trans (szL_at (i := 8) rfl) hs))
  have e5 := (toServerS_ok (ext := ext) h9 (Nat.le_trans (szL_at (i := 9) rfl) hs))
  refine callL_fn (fn := f_laws_toWorld) rfl ?_
  simp [f_laws_toWorld, binStr, e0, e1, e2, e3, e4, e5]
theorem toWorld_copies {r : List PV} (h : HasL t_World r) (hs : szL r ≤ 1048576) : Copies Ph ext 106 false r := by
  obtain ⟨p0, r1, rfl, g0, k1⟩ := HasL_cons h
  obtain ⟨p1, r2, rfl, g1, k2⟩ := HasL_cons k1
  obtain ⟨p2, r3, rfl, g2, k3⟩ := HasL_cons k2
  obtain ⟨p3, r4, rfl, g3, k4⟩ := HasL_cons k3
  obtain ⟨p4, r5, rfl, g4, k5⟩ := HasL_cons k4
  obtain ⟨p5, r6, rfl, g5, k6⟩ := HasL_cons k5
  obtain ⟨p6, r7, rfl, g6, k7⟩ := HasL_cons k6
  obtain ⟨p7, r8, rfl, g7, k8⟩ := HasL_cons k7
  obtain ⟨p8, r9, rfl, g8, k9⟩ := HasL_cons k8
  obtain ⟨p9, r10, rfl, g9, k10⟩ := HasL_cons k9
  obtain rfl := HasL_nil k10
  obtain ⟨c0, rfl⟩ := Has_int g0
  obtain ⟨c1, rfl⟩ := Has_bool g1
  obtain ⟨c2, rfl⟩ := Has_int g2
  obtain ⟨c3, rfl⟩ := Has_lst g3
  obtain ⟨c4, rfl⟩ := Has_lst g4
  obtain ⟨c5, rfl⟩ := Has_int g5
  obtain ⟨c6, rfl⟩ := Has_lst g6
  obtain ⟨c7, rfl⟩ := Has_lst g7
  obtain ⟨c8, rfl⟩ := Has_lst g8
  obtain ⟨c9, rfl⟩ := Has_lst g9
  exact ⟨_, toWorld_ok g0 g1 g2 g3 g4 g5 g6 g7 g8 g9 hs, rfl, rfl, fun h => by cases h⟩
theorem szWorld_ok {r : List PV} (h : HasL t_World r) : Measures Ph ext 104 r := by
  obtain ⟨p0, r1, rfl, g0, k1⟩ := HasL_cons h
  obtain ⟨p1, r2, rfl, g1, k2⟩ := HasL_cons k1
  obtain ⟨p2, r3, rfl, g2, k3⟩ := HasL_cons k2
  obtain ⟨p3, r4, rfl, g3, k4⟩ := HasL_cons k3
  obtain ⟨p4, r5, rfl, g4, k5⟩ := HasL_cons k4
  obtain ⟨p5, r6, rfl, g5, k6⟩ := HasL_cons k5
  obtain ⟨p6, r7, rfl, g6, k7⟩ := HasL_cons k6
  obtain ⟨p7, r8, rfl, g7, k8⟩ := HasL_cons k7
  obtain ⟨p8, r9, rfl, g8, k9⟩ := HasL_cons k8
  obtain ⟨p9, r10, rfl, g9, k10⟩ := HasL_cons k9
  obtain rfl := HasL_nil k10
  obtain ⟨c0, rfl⟩ := Has_int g0
  obtain ⟨c1, rfl⟩ := Has_bool g1
  obtain ⟨c2, rfl⟩ := Has_int g2
  obtain ⟨c3, rfl⟩ := Has_lst g3
  obtain ⟨c4, rfl⟩ := Has_lst g4
  obtain ⟨c5, rfl⟩ := Has_int g5
  obtain ⟨c6, rfl⟩ := Has_lst g6
  obtain ⟨c7, rfl⟩ := Has_lst g7
  obtain ⟨c8, rfl⟩ := Has_lst g8
  obtain ⟨c9, rfl⟩ := Has_lst g9
  intro left h0 h1
  show callL Ph ext 104 [.agg [.pv (.int .i64 c0), .pv (.bool c1), .pv (.int .i64 c2), .pv (.lst c3), .pv (.lst c4), .pv (.int .i64 c5), .pv (.lst c6), .pv (.lst c7), .pv (.lst c8), .pv (.lst c9)], vint .i64 left] = _
  have tot : szL [.int .i64 c0, .bool c1, .int .i64 c2, .lst c3, .lst c4, .int .i64 c5, .lst c6, .lst c7, .lst c8, .lst c9] = szL [.lst c3] + (sz (.lst c4) + (szL [.lst c6] + (szL [.lst c7] + (sz (.lst c8) + (sz (.lst c9)))))) := by simp only [szL_nil0, szL_cons0, sz_int0, sz_bool0, sz_str0, Nat.add_zero, Nat.zero_add, Nat.add_assoc]
  generalize szL [.int .i64 c0, .bool c1, .int .i64 c2, .lst c3, .lst c4, .int .i64 c5, .lst c6, .lst c7, .lst c8, .lst c9] = T at tot ⊢
  have e0 : callL Ph ext 127 [.agg [.pv (.lst c3)], vint .i64 left] = some (vint .i64 (less left (szL [.lst c3]))) := szStorage_ok (ext := ext) (r := [.lst c3]) (⟨g3, trivial⟩) left (by omega) (by omega)
  generalize hS0 : szL [.lst c3] = S0 at tot e0
  generalize q0 : less left S0 = l0 at e0
  by_cases n0 : l0 < 0
  · have n0' := less_lt' (by omega) q0 n0
    rw [less_lt (by omega)]
    refine callL_fn (fn := f_laws_szWorld) rfl ?_
    simp [f_laws_szWorld, binStr, e0, n0]
  obtain ⟨y0, z0⟩ := less_pos (by omega) q0 n0
  have e1 := szPageS_ok (ext := ext) g4 (left := l0) (by omega) (by omega)
  generalize hS1 : sz (.lst c4) = S1 at tot e1
  generalize q1 : less l0 S1 = l1 at e1
  by_cases n1 : l1 < 0
  · have n1' := less_lt' (by omega) q1 n1
    rw [less_lt (by omega)]
    refine callL_fn (fn := f_laws_szWorld) rfl ?_
    simp [f_laws_szWorld, binStr, e0, e1, n0, n1]
  obtain ⟨y1, z1⟩ := less_pos (by omega) q1 n1
  have e2 : callL Ph ext 129 [.agg [.pv (.lst c6)], vint .i64 l1] = some (vint .i64 (less l1 (szL [.lst c6]))) := szLockTable_ok (ext := ext) (r := [.lst c6]) (⟨g6, trivial⟩) l1 (by omega) (by omega)
  generalize hS2 : szL [.lst c6] = S2 at tot e2
  generalize q2 : less l1 S2 = l2 at e2
  by_cases n2 : l2 < 0
  · have n2' := less_lt' (by omega) q2 n2
    rw [less_lt (by omega)]
    refine callL_fn (fn := f_laws_szWorld) rfl ?_
    simp [f_laws_szWorld, binStr, e0, e1, e2, n0, n1, n2]
  obtain ⟨y2, z2⟩ := less_pos (by omega) q2 n2
  have e3 : callL Ph ext 130 [.agg [.pv (.lst c7)], vint .i64 l2] = some (vint .i64 (less l2 (szL [.lst c7]))) := szChannel_ok (ext := ext) (r := [.lst c7]) (⟨g7, trivial⟩) l2 (by omega) (by omega)
  generalize hS3 : szL [.lst c7] = S3 at tot e3
  generalize q3 : less l2 S3 = l3 at e3
  by_cases n3 : l3 < 0
  · have n3' := less_lt' (by omega) q3 n3
    rw [less_lt (by omega)]
    refine callL_fn (fn := f_laws_szWorld) rfl ?_
    simp [f_laws_szWorld, binStr, e0, e1, e2, e3, n0, n1, n2, n3]
  obtain ⟨y3, z3⟩ := less_pos (by omega) q3 n3
  have e4 := szSiteS_ok (ext := ext) g8 (left := l3) (by omega) (by omega)
  generalize hS4 : sz (.lst c8) = S4 at tot e4
  generalize q4 : less l3 S4 = l4 at e4
  by_cases n4 : l4 < 0
  · have n4' := less_lt' (by omega) q4 n4
    rw [less_lt (by omega)]
    refine callL_fn (fn := f_laws_szWorld) rfl ?_
    simp [f_laws_szWorld, binStr, e0, e1, e2, e3, e4, n0, n1, n2, n3, n4]
  obtain ⟨y4, z4⟩ := less_pos (by omega) q4 n4
  have e5 := szServerS_ok (ext := ext) g9 (left := l4) (by omega) (by omega)
  generalize hS5 : sz (.lst c9) = S5 at tot e5
  generalize q5 : less l4 S5 = l5 at e5
  by_cases n5 : l5 < 0
  · have n5' := less_lt' (by omega) q5 n5
    rw [less_lt (by omega)]
    refine callL_fn (fn := f_laws_szWorld) rfl ?_
    simp [f_laws_szWorld, binStr, e0, e1, e2, e3, e4, e5, n0, n1, n2, n3, n4, n5]
  obtain ⟨y5, z5⟩ := less_pos (by omega) q5 n5
  rw [less_ge' (n := T) (l := l5) (by omega) (by omega)]
  refine callL_fn (fn := f_laws_szWorld) rfl ?_
  simp [f_laws_szWorld, binStr, e0, e1, e2, e3, e4, e5, n0, n1, n2, n3, n4, n5]
theorem eqWorld_ok {r : List PV} (h : HasL t_World r) : callL Ph ext 108 [.agg (r.map .pv), .agg (r.map .pv)] = some (vbool true) := by
  obtain ⟨p0, r1, rfl, g0, k1⟩ := HasL_cons h
  obtain ⟨p1, r2, rfl, g1, k2⟩ := HasL_cons k1
  obtain ⟨p2, r3, rfl, g2, k3⟩ := HasL_cons k2
  obtain ⟨p3, r4, rfl, g3, k4⟩ := HasL_cons k3
  obtain ⟨p4, r5, rfl, g4, k5⟩ := HasL_cons k4
  obtain ⟨p5, r6, rfl, g5, k6⟩ := HasL_cons k5
  obtain ⟨p6, r7, rfl, g6, k7⟩ := HasL_cons k6
  obtain ⟨p7, r8, rfl, g7, k8⟩ := HasL_cons k7
  obtain ⟨p8, r9, rfl, g8, k9⟩ := HasL_cons k8
  obtain ⟨p9, r10, rfl, g9, k10⟩ := HasL_cons k9
  obtain rfl := HasL_nil k10
  obtain ⟨c0, rfl⟩ := Has_int g0
  obtain ⟨c1, rfl⟩ := Has_bool g1
  obtain ⟨c2, rfl⟩ := Has_int g2
  obtain ⟨c3, rfl⟩ := Has_lst g3
  obtain ⟨c4, rfl⟩ := Has_lst g4
  obtain ⟨c5, rfl⟩ := Has_int g5
  obtain ⟨c6, rfl⟩ := Has_lst g6
  obtain ⟨c7, rfl⟩ := Has_lst g7
  obtain ⟨c8, rfl⟩ := Has_lst g8
  obtain ⟨c9, rfl⟩ := Has_lst g9
  show callL Ph ext 108 [.agg [.pv (.int .i64 c0), .pv (.bool c1), .pv (.int .i64 c2), .pv (.lst c3), .pv (.lst c4), .pv (.int .i64 c5), .pv (.lst c6), .pv (.lst c7), .pv (.lst c8), .pv (.lst c9)], .agg [.pv (.int .i64 c0), .pv (.bool c1), .pv (.int .i64 c2), .pv (.lst c3), .pv (.lst c4), .pv (.int .i64 c5), .pv (.lst c6), .pv (.lst c7), .pv (.lst c8), .pv (.lst c9)]] = _
  have e0 : callL Ph ext 139 [.agg [.pv (.lst c3)], .agg [.pv (.lst c3)]] = some (vbool true) := eqStorage_ok (ext := ext) (r := [.lst c3]) (⟨g3, trivial⟩)
  have e1 := eqPageS_ok (ext := ext) g4
  have e2 : callL Ph ext 141 [.agg [.pv (.lst c6)], .agg [.pv (.lst c6)]] = some (vbool true) := eqLockTable_ok (ext := ext) (r := [.lst c6]) (⟨g6, trivial⟩)
  have e3 : callL Ph ext 142 [.agg [.pv (.lst c7)], .agg [.pv (.lst c7)]] = some (vbool true) := eqChannel_ok (ext := ext) (r := [.lst c7]) (⟨g7, trivial⟩)
  have e4 := eqSiteS_ok (ext := ext) g8
  have e5 := eqServerS_ok (ext := ext) g9
  refine callL_fn (fn := f_laws_eqWorld) rfl ?_
  simp [f_laws_eqWorld, binStr, e0, e1, e2, e3, e4, e5]
end
end Gi
