/- Of this proof. -/
import Derived.Test.YthklhahdgbbbhaaGreatRows
import Derived.JoinedOf
import Derived.KernelRfl
import Derived.Test.YthklhahdgbbbhaaGreatGtc
set_option linter.unusedSimpArgs false
set_option linter.unusedVariables false
namespace Go.Proofs.YthklhahdgbbbhaaGreat
open Go
set_option maxRecDepth 100000
theorem lz {a b : Bool} (h : a = true) (k : b = true) : (a && b) = true := by rw [h, k]; rfl
theorem Pd : laidOutB Tryz.prog = true := by kernel_rfl
theorem Pg : mapsRowed Tryz.prog = true := by kernel_rfl
theorem Pc : (Rows.fnExactAuditWorldRow.plainKeys == Tryz.prog.plainKeys) = true := by kernel_rfl
theorem OA : Tryz.prog.stopsHeard = true := by kernel_rfl
theorem Oz : Tryz.prog.mayEnter = true := by kernel_rfl
theorem Pe : (Rows.fnExactAuditWorldRow.lifted == Tryz.prog.liftsFinal) = true := by kernel_rfl
theorem Pf : (Tryz.prog.make == some Rows.fnExactAuditWorldRow.make) = true := by kernel_rfl
end Go.Proofs.YthklhahdgbbbhaaGreat
namespace Gi
open Go Go.RowKit
set_option maxRecDepth 4000
section
variable {ext : Nat → List V → Option V}
theorem Pt {rows : List (List PV)} (h : bR (.lst ir) (.lst rows)) : ∀ r ∈ rows, ∃ s : List UInt8, r = [.str s] ∧ s.length ≤ maxLen := by
 obtain ⟨_, hr⟩ := aD h
 intro r m
 obtain ⟨⟨c0, _⟩, rfl, g0, _⟩ := cf (hr r m)
 exact ⟨c0, rfl, g0⟩
theorem I1 : kh Ph ext 89 sC := de (ss := uh) rfl (b9 ⟨rfl, rfl, trivial⟩)
theorem IM : kS Ph ext 87 sC := dw (ss := uh) rfl (b9 ⟨rfl, rfl, trivial⟩)
theorem H7 : kg Ph ext 91 sC := dd (ss := uh) rfl (b9 ⟨rfl, rfl, trivial⟩)
theorem HM : kQ Ph ext 66 dx := jl rfl rfl rfl (by decide) (by decide) I1 (fun _ => rfl)
theorem HE : kP Ph ext 64 dx := j8 rfl rfl IM
theorem GL : kO Ph ext 69 dx := jf rfl rfl H7
theorem C4 : kh Ph ext 34 xL := de (ss := D7) rfl (b9 ⟨rfl, rfl, rfl, trivial⟩)
theorem CV : kS Ph ext 30 xL := dw (ss := D7) rfl (b9 ⟨rfl, rfl, rfl, trivial⟩)
theorem BA : kg Ph ext 38 xL := dd (ss := D7) rfl (b9 ⟨rfl, rfl, rfl, trivial⟩)
theorem Ai : kh Ph ext 35 n9 := de (ss := qQ) rfl (b9 ⟨⟨HM, rfl⟩, trivial⟩)
theorem Ab : kS Ph ext 31 n9 := dw (ss := qQ) rfl (b9 ⟨HE, trivial⟩)
theorem zI : kg Ph ext 39 n9 := dd (ss := qQ) rfl (b9 ⟨GL, trivial⟩)
theorem EH : kh Ph ext 7 sE := de (ss := xU) rfl (b9 ⟨⟨C4, fun _ => rfl⟩, ⟨Ai, nofun⟩, trivial⟩)
theorem EA : kS Ph ext 5 sE := dw (ss := xU) rfl (b9 ⟨CV, Ab, trivial⟩)
theorem Ed : kg Ph ext 9 sE := dd (ss := xU) rfl (b9 ⟨BA, zI, trivial⟩)
theorem O0 {c0 : Int} {c1 : Int} {c2 : List UInt8} {c3 : List (List PV)} (h0 : bR (.int .i64) (.int .i64 c0)) (h1 : bR (.int .i64) (.int .i64 c1)) (h2 : bR (.str) (.str c2)) (h3 : bR (.lst dx) (.lst c3)) (hs : gO [.int .i64 c0, .int .i64 c1, .str c2, .lst c3] ≤ 1048576) : aa Ph ext 7 [.agg [.pv (.int .i64 c0), .pv (.int .i64 c1), .pv (.str c2), .pv (.lst c3)]] = some (.agg [.pv (.int .i64 c0), .pv (.int .i64 c1), .pv (.str c2), .own 2 c3]) := EH [.int .i64 c0, .int .i64 c1, .str c2, .lst c3] ⟨h0, h1, h2, h3, trivial⟩ hs
theorem OW {r : List PV} (h : be sE r) : mh Ph ext 5 r := EA r h
theorem OP {r : List PV} (h : be sE r) : aa Ph ext 9 [.agg (r.map .pv), .agg (r.map .pv)] = some (aj true) := Ed r h
theorem HO : kh Ph ext 73 pP := de (ss := qO) rfl (b9 ⟨rfl, rfl, trivial⟩)
theorem HG : kS Ph ext 70 pP := dw (ss := qO) rfl (b9 ⟨rfl, rfl, trivial⟩)
theorem GQ : kg Ph ext 76 pP := dd (ss := qO) rfl (b9 ⟨rfl, rfl, trivial⟩)
theorem F9 : kQ Ph ext 42 iV := jl rfl rfl rfl (by decide) (by decide) HO (fun _ => rfl)
theorem FV : kP Ph ext 40 iV := j8 rfl rfl HG
theorem Fe : kO Ph ext 44 iV := jf rfl rfl GQ
theorem I2 : kh Ph ext 93 sD := de (ss := uj) rfl (b9 ⟨rfl, rfl, rfl, rfl, trivial⟩)
theorem IN : kS Ph ext 92 sD := dw (ss := uj) rfl (b9 ⟨rfl, rfl, rfl, rfl, trivial⟩)
theorem H8 : kg Ph ext 94 sD := dd (ss := uj) rfl (b9 ⟨rfl, rfl, rfl, rfl, trivial⟩)
theorem HN : kQ Ph ext 74 pO := jl rfl rfl rfl (by decide) (by decide) I2 (fun _ => rfl)
theorem HF : kP Ph ext 71 pO := j8 rfl rfl IN
theorem GO : kO Ph ext 77 pO := jf rfl rfl H8
theorem Le : kQ Ph ext 75 qH := F8 rfl (by decide)
theorem K7 : kP Ph ext 72 qH := Bd rfl rfl
theorem Km : kO Ph ext 78 qH := Fd rfl rfl
theorem Ga : kh Ph ext 43 nI := de (ss := oV) rfl (b9 ⟨⟨HN, rfl⟩, rfl, ⟨Le, rfl⟩, rfl, rfl, rfl, trivial⟩)
theorem FW : kS Ph ext 41 nI := dw (ss := oV) rfl (b9 ⟨HF, rfl, K7, rfl, rfl, rfl, trivial⟩)
theorem Ff : kg Ph ext 45 nI := dd (ss := oV) rfl (b9 ⟨GO, rfl, Km, rfl, rfl, rfl, trivial⟩)
theorem EI : kh Ph ext 12 sH := de (ss := xW) rfl (b9 ⟨rfl, rfl, rfl, rfl, ⟨F9, rfl⟩, ⟨Ga, nofun⟩, trivial⟩)
theorem EB : kS Ph ext 10 sH := dw (ss := xW) rfl (b9 ⟨rfl, rfl, rfl, rfl, FV, FW, trivial⟩)
theorem Ee : kg Ph ext 14 sH := dd (ss := xW) rfl (b9 ⟨rfl, rfl, rfl, rfl, Fe, Ff, trivial⟩)
theorem O1 {c0 : Int} {c1 : List UInt8} {c2 : List UInt8} {c3 : Int} {c4 : List (List PV)} {c5 : List (List PV)} {c6 : Int} {c7 : List (List PV)} {c8 : Int} {c9 : Bool} {c10 : Bool} (h0 : bR (.int .i64) (.int .i64 c0)) (h1 : bR (.str) (.str c1)) (h2 : bR (.str) (.str c2)) (h3 : bR (.int .i64) (.int .i64 c3)) (h4 : bR (.lst iV) (.lst c4)) (h5 : bR (.lst pO) (.lst c5)) (h6 : bR (.int .i64) (.int .i64 c6)) (h7 : bR (.lst qH) (.lst c7)) (h8 : bR (.int .i64) (.int .i64 c8)) (h9 : bR (.bool) (.bool c9)) (h10 : bR (.bool) (.bool c10)) (hs : gO [.int .i64 c0, .str c1, .str c2, .int .i64 c3, .lst c4, .lst c5, .int .i64 c6, .lst c7, .int .i64 c8, .bool c9, .bool c10] ≤ 1048576) : aa Ph ext 12 [.agg [.pv (.int .i64 c0), .pv (.str c1), .pv (.str c2), .pv (.int .i64 c3), .pv (.lst c4), .pv (.lst c5), .pv (.int .i64 c6), .pv (.lst c7), .pv (.int .i64 c8), .pv (.bool c9), .pv (.bool c10)]] = some (.agg [.pv (.int .i64 c0), .pv (.str c1), .pv (.str c2), .pv (.int .i64 c3), .own 2 c4, .own 4 c5, .pv (.int .i64 c6), .own 1 c7, .pv (.int .i64 c8), .pv (.bool c9), .pv (.bool c10)]) := EI [.int .i64 c0, .str c1, .str c2, .int .i64 c3, .lst c4, .lst c5, .int .i64 c6, .lst c7, .int .i64 c8, .bool c9, .bool c10] ⟨h0, h1, h2, h3, h4, h5, h6, h7, h8, h9, h10, trivial⟩ hs
theorem OX {r : List PV} (h : be sH r) : mh Ph ext 10 r := EB r h
theorem OQ {r : List PV} (h : be sH r) : aa Ph ext 14 [.agg (r.map .pv), .agg (r.map .pv)] = some (aj true) := Ee r h
theorem I3 : kQ Ph ext 53 fO := jl rfl rfl rfl (by decide) (by decide) EH nofun
theorem IP : kP Ph ext 52 fO := j8 rfl rfl EA
theorem H9 : kO Ph ext 55 fO := jf rfl rfl Ed
theorem F4 : kh Ph ext 80 oZ := de (ss := uf) rfl (b9 ⟨rfl, rfl, trivial⟩)
theorem E9 : kg Ph ext 82 oZ := dd (ss := uf) rfl (b9 ⟨rfl, rfl, trivial⟩)
theorem DT : kQ Ph ext 48 gc := jl rfl rfl rfl (by decide) (by decide) F4 (fun _ => rfl)
theorem DN : kP Ph ext 46 gc := Bd rfl rfl
theorem Df : kO Ph ext 50 gc := jf rfl rfl E9
theorem Ja : kh Ph ext 81 sJ := de (ss := um) rfl (b9 ⟨rfl, rfl, ⟨C4, fun _ => rfl⟩, rfl, rfl, trivial⟩)
theorem IX : kS Ph ext 79 sJ := dw (ss := um) rfl (b9 ⟨rfl, rfl, CV, rfl, rfl, trivial⟩)
theorem Ij : kg Ph ext 83 sJ := dd (ss := um) rfl (b9 ⟨rfl, rfl, BA, rfl, rfl, trivial⟩)
theorem Ak : kQ Ph ext 49 fP := jl rfl rfl rfl (by decide) (by decide) Ja (fun _ => rfl)
theorem Af : kP Ph ext 47 fP := j8 rfl rfl IX
theorem zK : kO Ph ext 51 fP := jf rfl rfl Ij
theorem sK : kh Ph ext 22 m6 := de (ss := uk) rfl (b9 ⟨rfl, ⟨I3, rfl⟩, rfl, trivial⟩)
theorem sx : kS Ph ext 20 m6 := dw (ss := uk) rfl (b9 ⟨rfl, IP, rfl, trivial⟩)
theorem rU : kg Ph ext 24 m6 := dd (ss := uk) rfl (b9 ⟨rfl, H9, rfl, trivial⟩)
theorem OM {c0 : List UInt8} {c1 : List (List PV)} {c2 : Int} (h0 : bR (.str) (.str c0)) (h1 : bR (.lst fO) (.lst c1)) (h2 : bR (.int .i64) (.int .i64 c2)) (hs : gO [.str c0, .lst c1, .int .i64 c2] ≤ 1048576) : aa Ph ext 22 [.agg [.pv (.str c0), .pv (.lst c1), .pv (.int .i64 c2)]] = some (.agg [.pv (.str c0), .own 4 c1, .pv (.int .i64 c2)]) := sK [.str c0, .lst c1, .int .i64 c2] ⟨h0, h1, h2, trivial⟩ hs
theorem OI {r : List PV} (h : be m6 r) : mh Ph ext 20 r := sx r h
theorem Oy {r : List PV} (h : be m6 r) : aa Ph ext 24 [.agg (r.map .pv), .agg (r.map .pv)] = some (aj true) := rU r h
theorem Aj : kh Ph ext 17 m4 := de (ss := qR) rfl (b9 ⟨⟨sK, nofun⟩, ⟨DT, rfl⟩, ⟨Ak, rfl⟩, trivial⟩)
theorem Ae : kS Ph ext 15 m4 := dw (ss := qR) rfl (b9 ⟨sx, DN, Af, trivial⟩)
theorem zJ : kg Ph ext 19 m4 := dd (ss := qR) rfl (b9 ⟨rU, Df, zK, trivial⟩)
theorem Og {c0 : List UInt8} {c1 : List (List PV)} {c2 : Int} {c3 : List (List PV)} {c4 : List (List PV)} (h0 : bR (.str) (.str c0)) (h1 : bR (.lst fO) (.lst c1)) (h2 : bR (.int .i64) (.int .i64 c2)) (h3 : bR (.lst gc) (.lst c3)) (h4 : bR (.lst fP) (.lst c4)) (hs : gO [.str c0, .lst c1, .int .i64 c2, .lst c3, .lst c4] ≤ 1048576) : aa Ph ext 17 [.agg [.pv (.str c0), .pv (.lst c1), .pv (.int .i64 c2), .pv (.lst c3), .pv (.lst c4)]] = some (.agg [.pv (.str c0), .own 4 c1, .pv (.int .i64 c2), .own 2 c3, .own 7 c4]) := Aj [.str c0, .lst c1, .int .i64 c2, .lst c3, .lst c4] ⟨h0, h1, h2, h3, h4, trivial⟩ hs
theorem Oe {r : List PV} (h : be m4 r) : mh Ph ext 15 r := Ae r h
theorem NZ {r : List PV} (h : be m4 r) : aa Ph ext 19 [.agg (r.map .pv), .agg (r.map .pv)] = some (aj true) := zJ r h
theorem HQ : kQ Ph ext 60 gM := jl rfl rfl rfl (by decide) (by decide) sK nofun
theorem HI : kP Ph ext 57 gM := j8 rfl rfl sx
theorem GU : kO Ph ext 63 gM := jf rfl rfl rU
theorem PD : kh Ph ext 85 OJ := de (ss := Kd) rfl (b9 ⟨rfl, rfl, ⟨C4, fun _ => rfl⟩, ⟨Ai, nofun⟩, rfl, trivial⟩)
theorem PB : kS Ph ext 84 OJ := dw (ss := Kd) rfl (b9 ⟨rfl, rfl, CV, Ab, rfl, trivial⟩)
theorem Py : kg Ph ext 86 OJ := dd (ss := Kd) rfl (b9 ⟨rfl, rfl, BA, zI, rfl, trivial⟩)
theorem C2 : kQ Ph ext 255 jb := F8 rfl (by decide)
theorem CS : kP Ph ext 251 jb := Bd rfl rfl
theorem By : kO Ph ext 259 jb := Fd rfl rfl
theorem DX : kh Ph ext 281 lW := de (ss := nk) rfl (b9 ⟨rfl, rfl, rfl, ⟨C2, rfl⟩, rfl, trivial⟩)
theorem DS : kS Ph ext 280 lW := dw (ss := nk) rfl (b9 ⟨rfl, rfl, rfl, CS, rfl, trivial⟩)
theorem Dk : kg Ph ext 282 lW := dd (ss := nk) rfl (b9 ⟨rfl, rfl, rfl, By, rfl, trivial⟩)
theorem HL : kh Ph ext 278 pN := de (ss := qN) rfl (b9 ⟨rfl, rfl, ⟨DX, nofun⟩, trivial⟩)
theorem HD : kS Ph ext 277 pN := dw (ss := qN) rfl (b9 ⟨rfl, rfl, DS, trivial⟩)
theorem GK : kg Ph ext 279 pN := dd (ss := qN) rfl (b9 ⟨rfl, rfl, Dk, trivial⟩)
theorem F6 : kQ Ph ext 273 gA := jl rfl rfl rfl (by decide) (by decide) HL nofun
theorem FS : kP Ph ext 271 gA := j8 rfl rfl HD
theorem Fb : kO Ph ext 275 gA := jf rfl rfl GK
theorem I0 : kh Ph ext 265 sA := de (ss := ug) rfl (b9 ⟨rfl, ⟨F6, rfl⟩, trivial⟩)
theorem IL : kS Ph ext 262 sA := dw (ss := ug) rfl (b9 ⟨rfl, FS, trivial⟩)
theorem H6 : kg Ph ext 268 sA := dd (ss := ug) rfl (b9 ⟨rfl, Fb, trivial⟩)
theorem HK : kQ Ph ext 253 dK := jl rfl rfl rfl (by decide) (by decide) I0 nofun
theorem HC : kP Ph ext 249 dK := j8 rfl rfl IL
theorem GJ : kO Ph ext 257 dK := jf rfl rfl H6
theorem DW : kh Ph ext 274 lV := de (ss := nj) rfl (b9 ⟨rfl, rfl, trivial⟩)
theorem DQ : kS Ph ext 272 lV := dw (ss := nj) rfl (b9 ⟨rfl, rfl, trivial⟩)
theorem Di : kg Ph ext 276 lV := dd (ss := nj) rfl (b9 ⟨rfl, rfl, trivial⟩)
theorem C3 : kQ Ph ext 266 jc := jl rfl rfl rfl (by decide) (by decide) DW (fun _ => rfl)
theorem CU : kP Ph ext 263 jc := j8 rfl rfl DQ
theorem Bz : kO Ph ext 269 jc := jf rfl rfl Di
theorem xO : kh Ph ext 231 iL := de (ss := jp) rfl (b9 ⟨rfl, rfl, rfl, rfl, trivial⟩)
theorem xK : kS Ph ext 227 iL := dw (ss := jp) rfl (b9 ⟨rfl, rfl, rfl, rfl, trivial⟩)
theorem wA : kg Ph ext 235 iL := dd (ss := jp) rfl (b9 ⟨rfl, rfl, rfl, rfl, trivial⟩)
theorem DU : kh Ph ext 232 lS := de (ss := nh) rfl (b9 ⟨⟨HK, rfl⟩, trivial⟩)
theorem DO : kS Ph ext 228 lS := dw (ss := nh) rfl (b9 ⟨HC, trivial⟩)
theorem Dg : kg Ph ext 236 lS := dd (ss := nh) rfl (b9 ⟨GJ, trivial⟩)
theorem DV : kh Ph ext 254 lU := de (ss := ni) rfl (b9 ⟨rfl, rfl, ⟨HQ, rfl⟩, ⟨C3, rfl⟩, trivial⟩)
theorem DP : kS Ph ext 250 lU := dw (ss := ni) rfl (b9 ⟨rfl, rfl, HI, CU, trivial⟩)
theorem Dh : kg Ph ext 258 lU := dd (ss := ni) rfl (b9 ⟨rfl, rfl, GU, Bz, trivial⟩)
theorem Ld : kh Ph ext 233 wj := de (ss := xT) rfl (b9 ⟨⟨DV, nofun⟩, ⟨C2, rfl⟩, rfl, trivial⟩)
theorem K6 : kS Ph ext 229 wj := dw (ss := xT) rfl (b9 ⟨DP, CS, rfl, trivial⟩)
theorem Kk : kg Ph ext 237 wj := dd (ss := xT) rfl (b9 ⟨Dh, By, rfl, trivial⟩)
theorem HP : kh Ph ext 267 pQ := de (ss := qP) rfl (b9 ⟨rfl, rfl, ⟨Ak, rfl⟩, trivial⟩)
theorem HH : kS Ph ext 264 pQ := dw (ss := qP) rfl (b9 ⟨rfl, rfl, Af, trivial⟩)
theorem GT : kg Ph ext 270 pQ := dd (ss := qP) rfl (b9 ⟨rfl, rfl, zK, trivial⟩)
theorem Lj : kh Ph ext 256 wm := de (ss := xY) rfl (b9 ⟨⟨HP, nofun⟩, rfl, rfl, trivial⟩)
theorem La : kS Ph ext 252 wm := dw (ss := xY) rfl (b9 ⟨HH, rfl, rfl, trivial⟩)
theorem Kt : kg Ph ext 260 wm := dd (ss := xY) rfl (b9 ⟨GT, rfl, rfl, trivial⟩)
theorem Gb : kh Ph ext 234 nJ := de (ss := oW) rfl (b9 ⟨⟨sK, nofun⟩, rfl, ⟨Lj, nofun⟩, trivial⟩)
theorem FX : kS Ph ext 230 nJ := dw (ss := oW) rfl (b9 ⟨sx, rfl, La, trivial⟩)
theorem Fg : kg Ph ext 238 nJ := dd (ss := oW) rfl (b9 ⟨rU, rfl, Kt, trivial⟩)
theorem Ah : kh Ph ext 201 mZ := de (ss := qM) rfl (b9 ⟨rfl, rfl, ⟨xO, fun _ => rfl⟩, ⟨DU, nofun⟩, ⟨Ld, nofun⟩, ⟨Gb, nofun⟩, rfl, rfl, trivial⟩)
theorem Aa : kS Ph ext 198 mZ := dw (ss := qM) rfl (b9 ⟨rfl, rfl, xK, DO, K6, FX, rfl, rfl, trivial⟩)
theorem zH : kg Ph ext 205 mZ := dd (ss := qM) rfl (b9 ⟨rfl, rfl, wA, Dg, Kk, Fg, rfl, rfl, trivial⟩)
theorem Of {c0 : List UInt8} {c1 : List UInt8} {c2 : List UInt8} {c3 : Int} {c4 : Int} {c5 : Int} {c6 : List (List PV)} {c7 : List UInt8} {c8 : Int} {c9 : List (List PV)} {c10 : List (List PV)} {c11 : List (List PV)} {c12 : Int} {c13 : List UInt8} {c14 : List (List PV)} {c15 : Int} {c16 : Int} {c17 : Int} {c18 : Int} {c19 : List (List PV)} {c20 : Int} {c21 : Int} {c22 : Int} {c23 : Bool} (h0 : bR (.str) (.str c0)) (h1 : bR (.str) (.str c1)) (h2 : bR (.str) (.str c2)) (h3 : bR (.int .i64) (.int .i64 c3)) (h4 : bR (.int .i64) (.int .i64 c4)) (h5 : bR (.int .i64) (.int .i64 c5)) (h6 : bR (.lst dK) (.lst c6)) (h7 : bR (.str) (.str c7)) (h8 : bR (.int .i64) (.int .i64 c8)) (h9 : bR (.lst gM) (.lst c9)) (h10 : bR (.lst jc) (.lst c10)) (h11 : bR (.lst jb) (.lst c11)) (h12 : bR (.int .i64) (.int .i64 c12)) (h13 : bR (.str) (.str c13)) (h14 : bR (.lst fO) (.lst c14)) (h15 : bR (.int .i64) (.int .i64 c15)) (h16 : bR (.int .i64) (.int .i64 c16)) (h17 : bR (.int .i64) (.int .i64 c17)) (h18 : bR (.int .i64) (.int .i64 c18)) (h19 : bR (.lst fP) (.lst c19)) (h20 : bR (.int .i64) (.int .i64 c20)) (h21 : bR (.int .i64) (.int .i64 c21)) (h22 : bR (.int .i64) (.int .i64 c22)) (h23 : bR (.bool) (.bool c23)) (hs : gO [.str c0, .str c1, .str c2, .int .i64 c3, .int .i64 c4, .int .i64 c5, .lst c6, .str c7, .int .i64 c8, .lst c9, .lst c10, .lst c11, .int .i64 c12, .str c13, .lst c14, .int .i64 c15, .int .i64 c16, .int .i64 c17, .int .i64 c18, .lst c19, .int .i64 c20, .int .i64 c21, .int .i64 c22, .bool c23] ≤ 1048576) : aa Ph ext 201 [.agg [.pv (.str c0), .pv (.str c1), .pv (.str c2), .pv (.int .i64 c3), .pv (.int .i64 c4), .pv (.int .i64 c5), .pv (.lst c6), .pv (.str c7), .pv (.int .i64 c8), .pv (.lst c9), .pv (.lst c10), .pv (.lst c11), .pv (.int .i64 c12), .pv (.str c13), .pv (.lst c14), .pv (.int .i64 c15), .pv (.int .i64 c16), .pv (.int .i64 c17), .pv (.int .i64 c18), .pv (.lst c19), .pv (.int .i64 c20), .pv (.int .i64 c21), .pv (.int .i64 c22), .pv (.bool c23)]] = some (.agg [.pv (.str c0), .pv (.str c1), .pv (.str c2), .pv (.int .i64 c3), .pv (.int .i64 c4), .pv (.int .i64 c5), .own 2 c6, .pv (.str c7), .pv (.int .i64 c8), .own 3 c9, .own 2 c10, .own 1 c11, .pv (.int .i64 c12), .pv (.str c13), .own 4 c14, .pv (.int .i64 c15), .pv (.int .i64 c16), .pv (.int .i64 c17), .pv (.int .i64 c18), .own 7 c19, .pv (.int .i64 c20), .pv (.int .i64 c21), .pv (.int .i64 c22), .pv (.bool c23)]) := Ah [.str c0, .str c1, .str c2, .int .i64 c3, .int .i64 c4, .int .i64 c5, .lst c6, .str c7, .int .i64 c8, .lst c9, .lst c10, .lst c11, .int .i64 c12, .str c13, .lst c14, .int .i64 c15, .int .i64 c16, .int .i64 c17, .int .i64 c18, .lst c19, .int .i64 c20, .int .i64 c21, .int .i64 c22, .bool c23] ⟨h0, h1, h2, h3, h4, h5, h6, h7, h8, h9, h10, h11, h12, h13, h14, h15, h16, h17, h18, h19, h20, h21, h22, h23, trivial⟩ hs
theorem Oc {r : List PV} (h : be mZ r) : mh Ph ext 198 r := Aa r h
theorem NY {r : List PV} (h : be mZ r) : aa Ph ext 205 [.agg (r.map .pv), .agg (r.map .pv)] = some (aj true) := zH r h
theorem F5 : kQ Ph ext 167 dm := jl rfl rfl rfl (by decide) (by decide) Ah nofun
theorem FP : kP Ph ext 163 dm := j8 rfl rfl Aa
theorem Fa : kO Ph ext 171 dm := jf rfl rfl zH
theorem I6 : kQ Ph ext 134 uz := jl rfl rfl rfl (by decide) (by decide) EI nofun
theorem IS : kP Ph ext 128 uz := j8 rfl rfl EB
theorem If : kO Ph ext 140 uz := jf rfl rfl Ee
theorem Lf : kh Ph ext 202 wk := de (ss := xV) rfl (b9 ⟨rfl, rfl, rfl, rfl, trivial⟩)
theorem K8 : kS Ph ext 199 wk := dw (ss := xV) rfl (b9 ⟨rfl, rfl, rfl, rfl, trivial⟩)
theorem Ko : kg Ph ext 206 wk := dd (ss := xV) rfl (b9 ⟨rfl, rfl, rfl, rfl, trivial⟩)
theorem I4 : kQ Ph ext 168 sF := jl rfl rfl rfl (by decide) (by decide) Lf (fun _ => rfl)
theorem IQ : kP Ph ext 164 sF := j8 rfl rfl K8
theorem Ic : kO Ph ext 172 sF := jf rfl rfl Ko
theorem Lg : kh Ph ext 203 zA := de (ss := E4) rfl (b9 ⟨rfl, rfl, rfl, trivial⟩)
theorem Kp : kg Ph ext 207 zA := dd (ss := E4) rfl (b9 ⟨rfl, rfl, rfl, trivial⟩)
theorem I5 : kQ Ph ext 169 sG := jl rfl rfl rfl (by decide) (by decide) Lg (fun _ => rfl)
theorem IR : kP Ph ext 165 sG := Bd rfl rfl
theorem Ie : kO Ph ext 173 sG := jf rfl rfl Kp
theorem Gg : kQ Ph ext 204 ir := F8 rfl (by decide)
theorem F2 : kP Ph ext 200 ir := fun _ h _ a b => F1 (aD h).1 (Pt h) a b
theorem Fj : kO Ph ext 208 ir := Fd rfl rfl
theorem Li : kh Ph ext 170 wl := de (ss := xX) rfl (b9 ⟨rfl, rfl, ⟨Gg, rfl⟩, rfl, trivial⟩)
theorem K9 : kS Ph ext 166 wl := dw (ss := xX) rfl (b9 ⟨rfl, rfl, F2, rfl, trivial⟩)
theorem Kr : kg Ph ext 174 wl := dd (ss := xX) rfl (b9 ⟨rfl, rfl, Fj, rfl, trivial⟩)
theorem I7 : kQ Ph ext 137 j9 := jl rfl rfl rfl (by decide) (by decide) Li nofun
theorem IT : kP Ph ext 131 j9 := j8 rfl rfl K9
theorem Ig : kO Ph ext 143 j9 := jf rfl rfl Kr
theorem Ge : kQ Ph ext 138 jR := jl rfl rfl rfl (by decide) (by decide) Aj nofun
theorem FZ : kP Ph ext 132 jR := j8 rfl rfl Ae
theorem Fh : kO Ph ext 144 jR := jf rfl rfl zJ
theorem Gf : kh Ph ext 133 uA := de (ss := oX) rfl (b9 ⟨⟨F5, rfl⟩, trivial⟩)
theorem F0 : kS Ph ext 127 uA := dw (ss := oX) rfl (b9 ⟨FP, trivial⟩)
theorem Fi : kg Ph ext 139 uA := dd (ss := oX) rfl (b9 ⟨Fa, trivial⟩)
theorem C5 : kh Ph ext 135 qg := de (ss := lY) rfl (b9 ⟨⟨I4, rfl⟩, trivial⟩)
theorem CY : kS Ph ext 129 qg := dw (ss := lY) rfl (b9 ⟨IQ, trivial⟩)
theorem BC : kg Ph ext 141 qg := dd (ss := lY) rfl (b9 ⟨Ic, trivial⟩)
theorem F7 : kh Ph ext 136 uy := de (ss := oU) rfl (b9 ⟨⟨I5, rfl⟩, trivial⟩)
theorem FT : kS Ph ext 130 uy := dw (ss := oU) rfl (b9 ⟨IR, trivial⟩)
theorem Fc : kg Ph ext 142 uy := dd (ss := oU) rfl (b9 ⟨Ie, trivial⟩)
theorem I9 : kh Ph ext 106 sI := de (ss := ul) rfl (b9 ⟨rfl, rfl, rfl, ⟨Gf, nofun⟩, ⟨I6, rfl⟩, rfl, ⟨C5, nofun⟩, ⟨F7, nofun⟩, ⟨I7, rfl⟩, ⟨Ge, rfl⟩, trivial⟩)
theorem IW : kS Ph ext 104 sI := dw (ss := ul) rfl (b9 ⟨rfl, rfl, rfl, F0, IS, rfl, CY, FT, IT, FZ, trivial⟩)
theorem Ii : kg Ph ext 108 sI := dd (ss := ul) rfl (b9 ⟨rfl, rfl, rfl, Fi, If, rfl, BC, Fc, Ig, Fh, trivial⟩)
theorem I8 {c0 : Int} {c1 : Bool} {c2 : Int} {c3 : List (List PV)} {c4 : List (List PV)} {c5 : Int} {c6 : List (List PV)} {c7 : List (List PV)} {c8 : List (List PV)} {c9 : List (List PV)} (h0 : bR (.int .i64) (.int .i64 c0)) (h1 : bR (.bool) (.bool c1)) (h2 : bR (.int .i64) (.int .i64 c2)) (h3 : bR (.lst dm) (.lst c3)) (h4 : bR (.lst uz) (.lst c4)) (h5 : bR (.int .i64) (.int .i64 c5)) (h6 : bR (.lst sF) (.lst c6)) (h7 : bR (.lst sG) (.lst c7)) (h8 : bR (.lst j9) (.lst c8)) (h9 : bR (.lst jR) (.lst c9)) (hs : gO [.int .i64 c0, .bool c1, .int .i64 c2, .lst c3, .lst c4, .int .i64 c5, .lst c6, .lst c7, .lst c8, .lst c9] ≤ 1048576) : aa Ph ext 106 [.agg [.pv (.int .i64 c0), .pv (.bool c1), .pv (.int .i64 c2), .pv (.lst c3), .pv (.lst c4), .pv (.int .i64 c5), .pv (.lst c6), .pv (.lst c7), .pv (.lst c8), .pv (.lst c9)]] = some (.agg [.pv (.int .i64 c0), .pv (.bool c1), .pv (.int .i64 c2), .own 24 c3, .own 11 c4, .pv (.int .i64 c5), .own 4 c6, .own 3 c7, .own 4 c8, .own 5 c9]) := I9 [.int .i64 c0, .bool c1, .int .i64 c2, .lst c3, .lst c4, .int .i64 c5, .lst c6, .lst c7, .lst c8, .lst c9] ⟨h0, h1, h2, h3, h4, h5, h6, h7, h8, h9, trivial⟩ hs
theorem IV {r : List PV} (h : be sI r) : mh Ph ext 104 r := IW r h
theorem Ih {r : List PV} (h : be sI r) : aa Ph ext 108 [.agg (r.map .pv), .agg (r.map .pv)] = some (aj true) := Ii r h
end
end Gi
namespace Gi
open Go Go.RowKit
attribute [local simp] bW eM aq am bg bt cF dN Opd.ev put V.cells plain bz hJ isInt isStr isBool bin bf aS aR un asList L.view aB V.view viewL done bC aC aT cj comp bq bZ a8 V.flat L.flat dX dJ bS putAt thaw thawL freezeVs freezeLs freezeL V.mut L.mut bm aZ
def pE (a b : Int) (s : List UInt8) : Bool := (decide (1 ≤ a) && decide (a ≤ 3)) && (decide (-1000000000000 ≤ b) && decide (b ≤ 1000000000000)) && (!(a == 2) || b == 0) && p7 s && (!(a == 1) || s == [])
set_option maxHeartbeats 2000000 in
theorem vd {a b : Int} {s : List UInt8} (hl : s.length ≤ maxLen) : aa Ph al 67 [.agg [.pv (.int .i64 a), .pv (.int .i64 b), .pv (.str s)]] = some (aj (pE a b s)) := by
 have e1 := dz a 1 3
 have e2 := dz b (-1000000000000) 1000000000000
 have e3 := xi hl
 have n1 : (b != 0) = !(b == 0) := rfl
 unfold pE
 generalize (decide (1 ≤ a) && decide (a ≤ 3)) = A at e1 ⊢
 generalize (decide (-1000000000000 ≤ b) && decide (b ≤ 1000000000000)) = B at e2 ⊢
 generalize p7 s = E at e3 ⊢
 generalize hC : (a == 2) = C
 generalize hD : (b == 0) = D at n1
 generalize hF : (a == 1) = F
 generalize hG : (s == []) = G
 refine aH (fn := kG) rfl ?_
 cases A
 ·simp [kG, e1]
 cases B
 ·simp [kG, e1, e2]
 cases E
 ·simp [kG, e1, e2, e3]
 cases C <;> cases D <;> cases F <;> cases G <;> simp [kG, e1, e2, e3, hC, hF, hG, n1]
set_option maxHeartbeats 2000000 in
theorem vj {a b : Int} {s : List UInt8} (hl : s.length ≤ maxLen) : aa Ph al 65 [.agg [.pv (.int .i64 a), .pv (.int .i64 b), .pv (.str s)]] = some (aj (pE a b s)) := by
 have e1 := fv a 1 3
 have e2 := fv b (-1000000000000) 1000000000000
 have e3 := CO hl
 have n1 : (a != 2) = !(a == 2) := rfl
 have n2 : (a != 1) = !(a == 1) := rfl
 unfold pE
 generalize (decide (1 ≤ a) && decide (a ≤ 3)) = A at e1 ⊢
 generalize (decide (-1000000000000 ≤ b) && decide (b ≤ 1000000000000)) = B at e2 ⊢
 generalize p7 s = E at e3 ⊢
 generalize hC : (a == 2) = C at n1
 generalize hD : (b == 0) = D
 generalize hF : (a == 1) = F at n2
 generalize hG : (s == []) = G
 refine aH (fn := kI) rfl ?_
 cases A
 ·simp [kI, e1]
 cases B
 ·simp [kI, e1, e2]
 cases C <;> cases D <;> cases E <;> first | (simp [kI, e1, e2, e3, n1, hD]; done) | (cases F <;> cases G <;> simp [kI, e1, e2, e3, n1, n2, hD, hG])
def bN (p : List PV → Bool) : List (List PV) → Nat → Int
 | [], _ => -1
 | r :: rs, k => cond (p r) (k : Int) (bN p rs (k + 1))
theorem lZ (p : List PV → Bool) : ∀ (rs : List (List PV)) (k : Nat), bN p rs k = -1 ∨ ∃ j, j < rs.length ∧ bN p rs k = ((k + j : Nat) : Int)
 | [], k => .inl rfl
 | r :: rs, k => by
  unfold bN
  cases p r with
  | true => exact .inr ⟨0, by simp, by simp⟩
  | false =>
   simp only [cond_false]
   rcases lZ p rs (k + 1) with h | ⟨j, h1, h2⟩
   ·exact .inl h
   ·exact .inr ⟨j + 1, by simp; omega, by rw [h2]; congr 1; omega⟩
theorem mR {p : List PV → Bool} {rs : List (List PV)} (h : ¬ bN p rs 0 < 0) : ∃ j, ∃ hj : j < rs.length, bN p rs 0 = (j : Int) := by
 rcases lZ p rs 0 with h1 | ⟨j, h1, h2⟩
 ·omega
 ·exact ⟨j, h1, by rw [h2]; simp⟩
section
variable {Φ : Nat → Option AFn} {ext : Nat → List V → Option V}
def vS (z : Nat) : ACode := (.seq (.region [⟨(some 9), (.bin .lss (.tmp 8) (.tmp 7)), none⟩]) (.seq (.cond (.tmp 9) .skip (.exit 0)) (.seq (.block 1 (.seq (.region [⟨(some 10), (.mv (.tmp 8)), none⟩, ⟨(some 5), (.mv (.tmp 10)), none⟩]) (.seq (.region [⟨(some 11), (.mv (.tmp 1)), none⟩, ⟨(some 12), (.mv (.tmp 0)), none⟩, ⟨(some 13), (.mv (.tmp 5)), none⟩, ⟨(some 14), (.indexA z (.tmp 12) (.tmp 13)), none⟩, ⟨(some 15), (.load true z (.tmp 14)), none⟩, ⟨(some 16), (.callV (.tmp 11) [(.tmp 15)]), none⟩]) (.cond (.tmp 16) (.seq (.region [⟨(some 17), (.mv (.tmp 5)), none⟩, ⟨(some 4), (.mv (.tmp 17)), none⟩]) .ret) .skip)))) (.region [⟨(some 18), (.bin .add (.tmp 8) (.pv (.int .i64 1))), none⟩, ⟨(some 8), (.mv (.tmp 18)), none⟩]))))
def PT (z : Nat) : AFn := ⟨19, [(.tmp 4)], (.seq (.region [⟨(some 4), (.mv (.pv (.int .i64 0))), none⟩]) (.seq (.seq (.region [⟨(some 6), (.mv (.tmp 0)), none⟩, ⟨(some 7), (.len (.tmp 6)), none⟩, ⟨(some 8), (.mv (.pv (.int .i64 0))), none⟩]) (.block 0 (.loop (vS z)))) (.seq (.region [⟨(some 4), (.mv (.pv (.int .i64 (-1)))), none⟩]) .ret)))⟩
theorem Nx {z : Nat} {rows : List (List PV)} {kc : Nat} {caps : List (List PV)} {p : List PV → Bool} (hl : rows.length ≤ maxLen) (hz : ∀ r ∈ rows, r.length = z) (hp : ∀ r ∈ rows, aa Φ ext kc (.agg (r.map .pv) :: caps.map qL) = some (aj (p r))) :
 ∀ (m k : Nat) (i : Int), i = k → k + m = rows.length → ∀ (x2 x3 x4 x5 x6 x9 x10 x11 x12 x13 x14 x15 x16 x17 x18 : V) (h : List AObj), jm (ah (aq (aa Φ ext) ah (vS z)) ⟨(bJ rows :: .one (.fn kc caps) :: x2 :: x3 :: x4 :: x5 :: x6 :: ae .i64 rows.length :: ae .i64 i :: x9 :: x10 :: x11 :: x12 :: x13 :: x14 :: x15 :: x16 :: x17 :: x18 :: []), h⟩) fun e σ' =>
  σ'.h = h ∧ σ'.t.length = 19 ∧ ((e = .exit 0 ∧ bN p (rows.drop k) k = -1) ∨ (e = .ret ∧ σ'.t[4]? = some (ae .i64 (bN p (rows.drop k) k)))) := by
 generalize hF : aq (aa Φ ext) ah (vS z) = F
 intro m
 induction m with
 | zero =>
  intro k i hi hk x2 x3 x4 x5 x6 x9 x10 x11 x12 x13 x14 x15 x16 x17 x18 h
  subst hi
  have hk' : k = rows.length := by omega
  subst hk'
  rw [aG hF]
  simp [vS, bN, bD]
 | succ m ih =>
  intro k i hi hk x2 x3 x4 x5 x6 x9 x10 x11 x12 x13 x14 x15 x16 x17 x18 h
  subst hi
  have hlt : k < rows.length := by omega
  have hw := ag (k := k) (by unfold maxLen at hl; omega)
  have hrz : (rows[k]).length = z := hz _ (List.getElem_mem hlt)
  have hc := hp _ (List.getElem_mem hlt)
  have hcut : hJ true z 0 ((rows[k]).map L.pv) = some (.agg ((rows[k]).map .pv)) := by
   simp [hJ, hrz, List.take_of_length_le (show ((rows[k]).map L.pv).length ≤ z by simp [hrz])]
  have key := ih (k + 1) ((k : Int) + 1) (by omega) (by omega)
  clear ih
  rw [List.drop_eq_getElem_cons hlt]
  simp only [bN]
  rw [aG hF]
  cases hq : p rows[k] with
  | true =>
   rw [hq] at hc
   simp [vS, -hJ, hlt, hrz, hcut, od, hc, hw, bD]
  | false =>
   rw [hq] at hc
   simp [vS, -hJ, hlt, hrz, hcut, od, hc, hw]
   exact key _ _ _ _ _ _ _ _ _ _ _ _ _ _ _ _
theorem vT {k z : Nat} {rows : List (List PV)} {kc : Nat} {caps : List (List PV)} {p : List PV → Bool} (hk : Φ k = some (PT z)) (hl : rows.length ≤ maxLen) (hz : ∀ r ∈ rows, r.length = z) (hp : ∀ r ∈ rows, aa Φ ext kc (.agg (r.map .pv) :: caps.map qL) = some (aj (p r))) :
 aa Φ ext k [bJ rows, .one (.fn kc caps)] = some (ae .i64 (bN p rows 0)) := by
 refine aH hk ?_
 obtain ⟨e, ⟨t', h'⟩, q1, q2, q5, q3⟩ := (Nx (Φ := Φ) (ext := ext) hl hz hp rows.length 0 0 rfl (by omega) (.tup []) (.tup []) (ae .i64 0) (.tup []) (bJ rows) (.tup []) (.tup []) (.tup []) (.tup []) (.tup []) (.tup []) (.tup []) (.tup []) (.tup []) (.tup []) []).get
 simp only [List.drop_zero] at q3
 simp at q5
 generalize hF : aq (aa Φ ext) ah (vS z) = F at q1
 rcases q3 with ⟨rfl, q4⟩ | ⟨rfl, q4⟩
 ·rw [q4]
  simp [PT, hF, q1, q5]
 ·obtain ⟨_, q7⟩ := List.getElem?_eq_some_iff.1 q4
  simp [PT, hF, q1, q5, q7]
end
def Ln (s t : List UInt8) : List PV → Bool
 | .str a :: .str b :: _ => a == s && b == t
 | _ => false
theorem zF {r : List PV} (h : be dm r) : ∃ a b rest, r = .str a :: .str b :: rest ∧ rest.length = 22 := by
 obtain ⟨p0, r1, rfl, g0, k1⟩ := iQ h
 obtain ⟨p1, r2, rfl, g1, k2⟩ := iQ k1
 obtain ⟨c0, rfl⟩ := rH g0
 obtain ⟨c1, rfl⟩ := rH g1
 have := iw k2
 exact ⟨c0, c1, r2, rfl, by simpa using this⟩
theorem uL {r : List PV} (h : be dm r) (s t : List UInt8) : aa Ph al 210 (.agg (r.map .pv) :: [[.str s], [.str t]].map qL) = some (aj (Ln s t r)) := by
 obtain ⟨a, b, rest, rfl, hl⟩ := zF h
 refine aH (fn := kV) rfl ?_
 simp only [Ln]
 cases h1 : (a == s) <;> cases h2 : (b == t) <;> simp [kV, qL, h1, h2]
theorem lO {rows : List (List PV)} (h : bR (.lst dm) (.lst rows)) (s t : List UInt8) : aa Ph al 175 [.agg [.pv (.lst rows)], eX s, eX t] = some (ae .i64 (bN (Ln s t) rows 0)) := by
 obtain ⟨hl, hr⟩ := aD h
 have e1 : aa Ph al 209 [bJ rows, .one (.fn 210 [[.str s], [.str t]])] = some (ae .i64 (bN (Ln s t) rows 0)) :=
  vT (z := 24) rfl hl (fun r m => iw (hr r m)) (fun r m => uL (hr r m) s t)
 refine aH (fn := mq) rfl ?_
 simp [mq, kT, o9, e1]
end Gi
