/- Of this proof. -/
import Derived.KernelRfl
import Derived.Test.YtlohbkffhpnfgaaGreatGpr
import Derived.Test.YtlohbkffhpnfgaaGreatGka
set_option linter.unusedSimpArgs false
set_option linter.unusedVariables false
namespace Gi
open Go Go.RowKit
mutual
def P7 : PTy → Bool
 | .lst ts => decide (ts.length ≤ 64) && Jh ts
 | _ => true
def Jh : List PTy → Bool
 | [] => true
 | t :: ts => P7 t && Jh ts
end
mutual
theorem Oh (mT : Int → List UInt8) : ∀ (p : PV) (t : PTy) (k : Int), nb t p → P7 t = true → (jv mT p k).2 ≤ k + 1 + 64 * (sz p : Int)
 | .int κ n, t, k, h, hn => by simp only [jv, sz]; omega
 | .bool b, t, k, h, hn => by simp only [jv, sz]; omega
 | .str s, t, k, h, hn => by simp only [jv, sz]; omega
 | .lst rows, t, k, h, hn => by
  cases t with
  | lst ts =>
   simp only [P7, Bool.and_eq_true, decide_eq_true_eq] at hn
   have := FP mT rows ts k (aK h).2 hn.1 hn.2
   rw [jF]
   simp only [jv]
   omega
  | int κ => simp [nb] at h
  | bool => simp [nb] at h
  | str => simp [nb] at h
theorem Kd (mT : Int → List UInt8) : ∀ (ps : List PV) (ts : List PTy) (k : Int), a9 ts ps → Jh ts = true → (nu mT ps k).2 ≤ k + ps.length + 64 * (eF ps : Int)
 | [], ts, k, h, hn => by simp only [nu, eF, List.length_nil]; omega
 | p :: ps, [], k, h, hn => by simp [a9] at h
 | p :: ps, t :: ts, k, h, hn => by
  simp only [Jh, Bool.and_eq_true] at hn
  have h1 : nb t p ∧ a9 ts ps := by simpa only [a9] using h
  have a := Oh mT p t k h1.1 hn.1
  have b := Kd mT ps ts (jv mT p k).2 h1.2 hn.2
  simp only [nu, eF, List.length_cons]
  omega
theorem FP (mT : Int → List UInt8) : ∀ (rows : List (List PV)) (ts : List PTy) (k : Int), (∀ r ∈ rows, a9 ts r) → ts.length ≤ 64 → Jh ts = true → (bP mT rows k).2 ≤ k + 64 * ((rows.length : Int) + (cz rows : Int))
 | [], ts, k, h, hl, hn => by simp only [bP, cz, List.length_nil]; omega
 | r :: rows, ts, k, h, hl, hn => by
  have hr := h r (by simp)
  have a := Kd mT r ts k hr hn
  have b := FP mT rows ts (nu mT r k).2 (fun r m => h r (by simp [m])) hl hn
  have := iW hr
  simp only [bP, cz, List.length_cons]
  omega
end
theorem sB (mT : Int → List UInt8) : ∀ (ps : List PV) (ts : List PTy) (k : Int), a9 ts ps → Jh ts = true → (eP mT ps k).2 ≤ k + 64 * (eF ps : Int)
 | [], ts, k, h, hn => by simp only [eP, eF]; omega
 | p :: ps, [], k, h, hn => by simp [a9] at h
 | p :: ps, t :: ts, k, h, hn => by
  simp only [Jh, Bool.and_eq_true] at hn
  have h1 : nb t p ∧ a9 ts ps := by simpa only [a9] using h
  cases p with
  | lst rows =>
   cases t with
   | lst us =>
    have hn1 := hn.1
    simp only [P7, Bool.and_eq_true, decide_eq_true_eq] at hn1
    have a := FP mT rows us k (aK h1.1).2 hn1.1 hn1.2
    have b := sB mT ps ts (bP mT rows k).2 h1.2 hn.2
    simp only [eP, eF, jF]
    omega
   | int κ => simp [nb] at h1
   | bool => simp [nb] at h1
   | str => simp [nb] at h1
  | int κ n => have b := sB mT ps ts k h1.2 hn.2; simp only [eP, eF]; omega
  | bool c => have b := sB mT ps ts k h1.2 hn.2; simp only [eP, eF]; omega
  | str s => have b := sB mT ps ts k h1.2 hn.2; simp only [eP, eF]; omega
theorem Ot {ts : List PTy} {ps : List PV} (h : a9 ts ps) : (gu ts ps).map di = ps.map .pv := by
 refine fq (P := fun ts ps => (gu ts ps).map di = ps.map .pv) rfl ?_ ?_ ts ps h
 ·intro us rows ts ps _ _ ih
  cases rows <;> simp only [gu, uk, List.map_cons, di, ih]
 ·intro t p ts ps h1 ht hp _ ih
  simp only [gu, vN ht h1, List.map_cons, di, ih]
theorem LM {ts : List PTy} {ps : List PV} (h : a9 ts ps) (hh : List AObj) : oZ hh (.agg (gu ts ps)) = (.agg (iz hh.length ts ps), hh ++ gi ts ps) := by
 have key : ∀ (ts : List PTy) (ps : List PV), a9 ts ps → ∀ hh : List AObj, ∃ ds, thawL hh (gu ts ps) = (iz hh.length ts ps, hh ++ ds) ∧ ds.map AObj.zone = gi ts ps := by
  refine fq ?_ ?_ ?_
  ·intro hh; exact ⟨[], by simp [gu, thawL, iz], rfl⟩
  ·intro us rows ts ps _ _ ih hh
   cases rows with
   | nil =>
    obtain ⟨ds, e1, e2⟩ := ih (hh ++ [.arr us.length []])
    refine ⟨.arr us.length [] :: ds, ?_, by simp only [List.map_cons, e2, AObj.zone, gi]⟩
    simp only [gu, uk, thawL, e1, iz, List.length_append, List.length_singleton, List.append_assoc, List.cons_append, List.nil_append]
   | cons r rows =>
    obtain ⟨ds, e1, e2⟩ := ih (hh ++ [.darr us.length (r :: rows)])
    refine ⟨.darr us.length (r :: rows) :: ds, ?_, by simp only [List.map_cons, e2, AObj.zone, gi]⟩
    simp only [gu, uk, thawL, e1, iz, List.length_append, List.length_singleton, List.append_assoc, List.cons_append, List.nil_append]
  ·intro t p ts ps h1 ht hp _ ih hh
   obtain ⟨ds, e1, e2⟩ := ih hh
   refine ⟨ds, ?_, by rw [e2, gq ht]⟩
   simp only [gu, vN ht h1]
   rw [kK ht]
   simp only [thawL, e1]
 obtain ⟨ds, e1, _⟩ := key ts ps h hh
 obtain ⟨ds', f1, f2⟩ := key ts ps h []
 simp only [oZ, thaw, e1, f1, List.nil_append, f2]
end Gi
namespace Gi
open Go Go.RowKit
set_option maxHeartbeats 8000000
set_option maxRecDepth 8000
attribute [local simp] bt fe ai ag aw aH bf bW Opd.ev put V.cells plain bm f4 isInt isStr isBool bin bC un asList L.view am V.view viewL aR au bw bO comp aJ br ah V.flat L.flat dF di bz putAt freezeVs freezeLs freezeL V.mut L.mut lent AObj.unz L.unsub py sE jx ro kA wd PV.bare PV.flat jp cS thaw thawL AObj.zone gU tc DW f6 oX Mm PU Mn MS.ts gm f5 gh eH gg
def ln (z : Nat) : List (List PV) → L
 | [] => .pv (.lst [])
 | r :: rs => .down z (r :: rs)
def oz (z : Nat) (rows rows' : List (List PV)) : List (Bool × List L) := match rows with
 | [] => []
 | _ :: _ => [(false, [.down z rows'])]
theorem EF (z : Nat) (c : List (List PV)) : (c = [] ∧ nd z c = .nil ∧ ln z c = .pv (.lst []) ∧ (∀ r, oz z c r = []) ∧ D7 z c = .nil) ∨ (c ≠ [] ∧ nd z c = .down z c ∧ ln z c = .down z c ∧ (∀ r, oz z c r = [(false, [.down z r])]) ∧ D7 z c = .own z c) := by
 cases c with
 | nil => exact .inl ⟨rfl, rfl, rfl, fun _ => rfl, rfl⟩
 | cons r rs => exact .inr ⟨by simp, rfl, rfl, fun _ => rfl, rfl⟩
def qs (c3 c4 c6 c7 c8 c9 : List (List PV)) (k : Int) : List (List (List PV) × Int) :=
 let q3 := bP al c3 k
 let q4 := bP al c4 q3.2
 let q6 := bP al c6 q4.2
 let q7 := bP al c7 q6.2
 let q8 := bP al c8 q7.2
 let q9 := bP al c9 q8.2
 [q3, q4, q6, q7, q8, q9]
theorem Ao (k : Int) : ae Ph aF (426 + jn) [.agg [.pv (.lst [])], aa .i64 k] = some (.tup [(false, [.pv (.int .i64 k)])]) := by
 have c := (rt (ext := aF)).1 k
 refine qP (fn := ko) rfl rfl rfl ?_
 simp [ko, c]
theorem QR {c0 c2 c5 : Int} {on : Bool} {c3 c4 c6 c7 c8 c9 : List (List PV)} (h : a9 eK [.int .i64 c0, .bool on, .int .i64 c2, .lst c3, .lst c4, .int .i64 c5, .lst c6, .lst c7, .lst c8, .lst c9]) {k : Int} (k0 : 0 ≤ k) (hk : (bP al c9 (bP al c8 (bP al c7 (bP al c6 (bP al c4 (bP al c3 k).2).2).2).2).2).2 ≤ tt) :
 ae Ph aF (420 + jn) [.agg [.pv (.int .i64 c0), .pv (.bool on), .pv (.int .i64 c2), ln 24 c3, .down 11 c4, .pv (.int .i64 c5), .down 4 c6, .down 3 c7, ln 4 c8, ln 5 c9], aa .i64 k] = some (.tup ((false, [.pv (.int .i64 (bP al c9 (bP al c8 (bP al c7 (bP al c6 (bP al c4 (bP al c3 k).2).2).2).2).2).2)]) :: (oz 24 c3 (bP al c3 k).1 ++ ((false, [.down 11 (bP al c4 (bP al c3 k).2).1]) :: (false, [.down 4 (bP al c6 (bP al c4 (bP al c3 k).2).2).1]) :: (false, [.down 3 (bP al c7 (bP al c6 (bP al c4 (bP al c3 k).2).2).2).1]) :: (oz 4 c8 (bP al c8 (bP al c7 (bP al c6 (bP al c4 (bP al c3 k).2).2).2).2).1 ++ oz 5 c9 (bP al c9 (bP al c8 (bP al c7 (bP al c6 (bP al c4 (bP al c3 k).2).2).2).2).2).1))))) := by
 simp only [eK, a9] at h
 obtain ⟨_, _, _, g3, g4, _, g6, g7, g8, g9, _⟩ := h
 have l3 := mZ (mT := al) c3 k
 have l4 := mZ (mT := al) c4 (bP al c3 k).2
 have l6 := mZ (mT := al) c6 (bP al c4 (bP al c3 k).2).2
 have l7 := mZ (mT := al) c7 (bP al c6 (bP al c4 (bP al c3 k).2).2).2
 have l8 := mZ (mT := al) c8 (bP al c7 (bP al c6 (bP al c4 (bP al c3 k).2).2).2).2
 have l9 := mZ (mT := al) c9 (bP al c8 (bP al c7 (bP al c6 (bP al c4 (bP al c3 k).2).2).2).2).2
 have s3 : ae Ph aF (426 + jn) [.agg [ln 24 c3], aa .i64 k] = some (.tup ((false, [.pv (.int .i64 (bP al c3 k).2)]) :: oz 24 c3 (bP al c3 k).1)) := by
  cases c3 with
  | nil => exact Ao k
  | cons r rs => exact rz (ext := aF) [.lst (r :: rs)] ⟨g3, trivial⟩ k k0 (by show (bP al (r :: rs) k).2 ≤ tt; omega)
 have s4 : ae Ph aF (427 + jn) [.one (.down 11 c4), aa .i64 (bP al c3 k).2] = some (.tup [(false, [.pv (.int .i64 (bP al c4 (bP al c3 k).2).2)]), (false, [.down 11 (bP al c4 (bP al c3 k).2).1])]) := (wl (ext := aF)).2 c4 g4 _ (by omega) (by omega)
 have s6 : ae Ph aF (428 + jn) [.agg [.down 4 c6], aa .i64 (bP al c4 (bP al c3 k).2).2] = some (.tup [(false, [.pv (.int .i64 (bP al c6 (bP al c4 (bP al c3 k).2).2).2)]), (false, [.down 4 (bP al c6 (bP al c4 (bP al c3 k).2).2).1])]) := pR (ext := aF) [.lst c6] ⟨g6, trivial⟩ _ (by omega) (by show (bP al c6 _).2 ≤ tt; omega)
 have s7 : ae Ph aF (429 + jn) [.agg [.down 3 c7], aa .i64 (bP al c6 (bP al c4 (bP al c3 k).2).2).2] = some (.tup [(false, [.pv (.int .i64 (bP al c7 (bP al c6 (bP al c4 (bP al c3 k).2).2).2).2)]), (false, [.down 3 (bP al c7 (bP al c6 (bP al c4 (bP al c3 k).2).2).2).1])]) := ru (ext := aF) [.lst c7] ⟨g7, trivial⟩ _ (by omega) (by show (bP al c7 _).2 ≤ tt; omega)
 have s8 : ae Ph aF (430 + jn) [.one (ln 4 c8), aa .i64 (bP al c7 (bP al c6 (bP al c4 (bP al c3 k).2).2).2).2] = some (.tup ((false, [.pv (.int .i64 (bP al c8 (bP al c7 (bP al c6 (bP al c4 (bP al c3 k).2).2).2).2).2)]) :: oz 4 c8 (bP al c8 (bP al c7 (bP al c6 (bP al c4 (bP al c3 k).2).2).2).2).1)) := by
  cases c8 with
  | nil => exact (qt (ext := aF)).1 _
  | cons r rs => exact (qt (ext := aF)).2 (r :: rs) g8 _ (by omega) (by omega)
 have s9 : ae Ph aF (431 + jn) [.one (ln 5 c9), aa .i64 (bP al c8 (bP al c7 (bP al c6 (bP al c4 (bP al c3 k).2).2).2).2).2] = some (.tup ((false, [.pv (.int .i64 (bP al c9 (bP al c8 (bP al c7 (bP al c6 (bP al c4 (bP al c3 k).2).2).2).2).2).2)]) :: oz 5 c9 (bP al c9 (bP al c8 (bP al c7 (bP al c6 (bP al c4 (bP al c3 k).2).2).2).2).2).1)) := by
  cases c9 with
  | nil => exact (om (ext := aF)).1 _
  | cons r rs => exact (om (ext := aF)).2 (r :: rs) g9 _ (by omega) (by omega)
 clear hk k0 g3 g4 g6 g7 g8 g9 l3 l4 l6 l7 l8 l9
 generalize bP al c3 k = q3 at s3 s4 s6 s7 s8 s9 ⊢
 generalize bP al c4 q3.2 = q4 at s4 s6 s7 s8 s9 ⊢
 generalize bP al c6 q4.2 = q6 at s6 s7 s8 s9 ⊢
 generalize bP al c7 q6.2 = q7 at s7 s8 s9 ⊢
 generalize bP al c8 q7.2 = q8 at s8 s9 ⊢
 generalize bP al c9 q8.2 = q9 at s9 ⊢
 rcases EF 24 c3 with ⟨_, _, u3, v3, _⟩ | ⟨_, _, u3, v3, _⟩ <;> rcases EF 4 c8 with ⟨_, _, u8, v8, _⟩ | ⟨_, _, u8, v8, _⟩ <;> rcases EF 5 c9 with ⟨_, _, u9, v9, _⟩ | ⟨_, _, u9, v9, _⟩ <;> simp only [u3, v3, u8, v8, u9, v9] at s3 s8 s9 ⊢ <;> (refine qP (fn := lZ) rfl rfl rfl ?_; simp [lZ, s3, s4, s6, s7, s8, s9])
end Gi
namespace Gi
open Go Go.RowKit
set_option maxHeartbeats 4000000
set_option maxRecDepth 4000
attribute [local simp] bt sJ bf bW dV fU dU fT fZ fY uF uO uG uP uH uQ uI uR uJ uS uK uT uL uU uM uV uN uW V.cells plain bm f4 isInt isStr isBool bin cT jJ cU jK fV un asList L.view am V.view viewL aR au cX cd bO comp aJ br dv cq bH bF bG bN bi cu aW bJ aP aX bL cy bK bI bM V.flat L.flat dF di bz putAt thaw thawL thawT V.ow fX dX dY cV fW cW dW freezeVs freezeLs freezeL V.mut L.mut aI fi iV aL bd aD dh bD bh bR L.ren aT dG cf dK bS bB wp_seq wp_block bE ed cY ce cZ wp_skip wp_exit wp_ret cK cJ cP cL df dg de cj aV L.notArr aO aM aN dZ bn storeD ba fK bq cB be ny L.mov L.closed V.closed PV.bare PV.flat
def rg (n a b : Int) : Bool := !(dE n a) && !(dE b n)
theorem aY (n a b : Int) : ae Ph aF 61 [aa .i64 n, aa .i64 a, aa .i64 b] = some (ar (rg n a b)) := by
 refine ab (fn := nE) rfl ?_
 simp +contextual (maxSteps := 9999999) [nE, rg]
theorem bp (n a b : Int) : ae Ph aF 58 [aa .i64 n, aa .i64 a, aa .i64 b] = some (ar (rg n a b)) := by
 refine ab (fn := qV) rfl ?_
 simp +contextual (maxSteps := 9999999) [qV, rg]
def Pu (a b : Int) : Int := if dE a b then -1 else if dE b a then 1 else 0
theorem sQ (a b : Int) : ae Ph aF 362 [aa .i64 a, aa .i64 b] = some (aa .i64 (Pu a b)) := by
 refine ab (fn := kg) rfl ?_
 simp +contextual (maxSteps := 9999999) [kg, Pu]
theorem CN (a b : Bool) : ae Ph aF 359 [ar a, ar b] = some (aa .i64 (if a = true then -1 else if b = true then 1 else 0)) := by
 refine ab (fn := pj) rfl ?_
 simp +contextual (maxSteps := 9999999) [pj]
def IK (sl : Bool) (s : List UInt8) (k : Nat) : Bool := match s[k]? with
 | some b => (dE b.toNat 97 || dE 122 b.toNat) && !(sl && (b.toNat : Int) == 47)
 | none => false
def px (s : List UInt8) (m : Int) (sl : Bool) : Bool := !(fE s.length (IK sl s)) && rg s.length 1 m
abbrev ct (s : List UInt8) : Bool := px s 8 false
theorem rl {s : List UInt8} (h : s.length ≤ maxLen) (m : Int) (sl : Bool) : ae Ph aF 213 [dM s, aa .i64 m, ar sl] = some (ar (px s m sl)) := by
 refine ab (fn := pe) rfl ?_
 simp +contextual (maxSteps := 9999999) [pe]
 refine aA aQ Cl.fin [.t,.t,.t,.f,.f,.f,.f,.t,.f,.f,.f,.f,.f,.f,.f,.f,.f,.f,.f,.f,.f,.f,.f,.f,.f,.f,.f,.f,.f,.f,.f,.f,.f,.f,.f,.f,.f,.f] (fun k => [(7, aa .i64 k)]) s.length (IK sl s) rfl (by simp) (fun k hk _ => ?_) (fun _ hp => ?_)
 ·simp +contextual (maxSteps := 9999999) [jS, IK, px, hk, aE h hk, aU hk]
 ·simp +contextual (maxSteps := 9999999) [jS, px, hp, aY]
theorem bg {s : List UInt8} (h : s.length ≤ maxLen) : ae Ph aF 178 [dM s] = some (ar (ct s)) := by
 refine ab (fn := pa) rfl ?_
 simp [pa, rl h]
theorem bZ {s : List UInt8} (h : s.length ≤ maxLen) : ae Ph aF 177 [dM s] = some (ar (ct s)) := by
 refine ab (fn := pf) rfl ?_
 simp +contextual (maxSteps := 9999999) [pf]
 refine aA aQ Cl.fin [.t,.f,.f,.t,.f,.f,.f,.f,.f,.f,.f,.f,.f,.f,.f,.f,.f,.f,.f,.f,.f,.f,.f] (fun k => [(3, aa .i64 k)]) s.length (IK false s) rfl (by simp) (fun k hk _ => ?_) (fun _ hp => ?_)
 ·simp +contextual (maxSteps := 9999999) [jT, IK, ct, px, hk, aE h hk, aU hk]
 ·simp +contextual (maxSteps := 9999999) [jT, ct, px, hp, bp]
def MI (s : List UInt8) (k : Nat) : Bool := match s[k]? with
 | some b => (dE b.toNat 97 || dE 122 b.toNat) && (dE b.toNat 48 || dE 57 b.toNat)
 | none => false
def rn (s : List UInt8) : Bool := !(fE s.length (MI s)) && !(dE 12 s.length)
theorem v6 {s : List UInt8} (h : s.length ≤ maxLen) : ae Ph aF 90 [dM s] = some (ar (rn s)) := by
 refine ab (fn := lY) rfl ?_
 simp +contextual (maxSteps := 9999999) [lY]
 refine aA aQ Cl.fin [.t,.f,.f,.t,.f,.f,.f,.f,.f,.f,.f,.f,.f,.f,.f,.f,.f,.f,.f,.f,.f,.f,.f,.f,.f,.f,.f,.f,.f,.f,.f,.f,.f,.f,.f,.f] (fun k => [(3, aa .i64 k)]) s.length (MI s) rfl (by simp) (fun k hk _ => ?_) (fun _ hp => ?_)
 ·simp +contextual (maxSteps := 9999999) [hY, MI, rn, hk, aE h hk, aU hk]
 ·simp +contextual (maxSteps := 9999999) [hY, rn, hp]
theorem CO {s : List UInt8} (h : s.length ≤ maxLen) : ae Ph aF 88 [dM s] = some (ar (rn s)) := by
 refine ab (fn := pk) rfl ?_
 simp +contextual (maxSteps := 9999999) [pk]
 refine aA aQ Cl.fin [.t,.f,.f,.t,.f,.f,.f,.f,.f,.f,.f,.f,.f,.f,.f,.f,.f,.f,.f,.f,.f,.f,.f,.f,.f,.f,.f,.f,.f,.f,.f,.f,.f,.f,.f] (fun k => [(3, aa .i64 k)]) s.length (MI s) rfl (by simp) (fun k hk _ => ?_) (fun _ hp => ?_)
 ·simp +contextual (maxSteps := 9999999) [jW, MI, rn, hk, aE h hk, aU hk]
 ·simp +contextual (maxSteps := 9999999) [jW, rn, hp]
def pO (a : XKey) : Bool := rg a.kind 1 3 && rg a.n (-1000000000000) 1000000000000 && (!(a.kind == 2) || a.n == 0) && rn a.text && (!(a.kind == 1) || a.text == [])
theorem mo {a : XKey} (h : a.Ok maxLen) : ae Ph aF 67 [a.v] = some (ar (pO a)) := by
 refine ab (fn := qg) rfl ?_
 simp +contextual (maxSteps := 9999999) [qg, aY, v6 h.2.2, pO] <;> grind
theorem mq {a : XKey} (h : a.Ok maxLen) : ae Ph aF 65 [a.v] = some (ar (pO a)) := by
 refine ab (fn := qh) rfl ?_
 simp +contextual (maxSteps := 9999999) [qh, bp, CO h.2.2, pO] <;> grind
theorem D8 (a b : List UInt8) : ae Ph aF 363 [dM a, dM b] = some (aa .i64 (Lib.compareBytes a b)) := KX rfl rfl
theorem oU : ∀ (a b : List UInt8), Lib.compareBytes a b = if Op.bytesLess a b = true then -1 else if Op.bytesLess b a = true then 1 else 0
 | [], [] => rfl
 | [], _ :: _ => rfl
 | _ :: _, [] => rfl
 | a :: xz, b :: bs => by
  have ih := oU xz bs
  simp only [Lib.compareBytes, Op.bytesLess, ih]
  by_cases h1 : a < b
  ·simp [h1]
  ·by_cases h2 : b < a
   ·have h3 : ¬ a = b := fun h => by subst h; exact absurd h2 (UInt8.lt_irrefl _)
    simp [h1, h2, h3]
   ·obtain rfl : a = b := UInt8.le_antisymm (UInt8.not_lt.1 h2) (UInt8.not_lt.1 h1)
    simp [UInt8.lt_irrefl]
def K3 (a b : XKey) : Int := if pO a = false ∨ pO b = false then 0 else if a.kind ≠ b.kind then Pu a.kind b.kind else if a.n ≠ b.n then Pu a.n b.n else Lib.compareBytes a.text b.text
theorem m8 {a b : XKey} (ha : a.Ok maxLen) (hb : b.Ok maxLen) : ae Ph aF 355 [a.v, b.v] = some (aa .i64 (K3 a b)) := by
 refine ab (fn := j7) rfl ?_
 simp +contextual (maxSteps := 9999999) [j7, mo, sQ, D8, ha, hb, K3]
 grind [Pu, dE]
theorem na {a b : XKey} (ha : a.Ok maxLen) (hb : b.Ok maxLen) : ae Ph aF 351 [a.v, b.v] = some (aa .i64 (K3 a b)) := by
 refine ab (fn := ku) rfl ?_
 simp +contextual (maxSteps := 9999999) [ku, mq, CN, ha, hb, K3, oU]
 grind [Pu, dE]
def KQ (fs : List XField) (k : Nat) : Bool := match fs[k]?, fs[k - 1]? with
 | some x, some y => !(ct x.name) || (!(rg x.n 0 1000000000) || (dE 0 k && !(Op.bytesLess y.name x.name)))
 | _, _ => false
def m9 (fs : List XField) : Bool := !(fE fs.length (KQ fs)) && !(dE 6 fs.length)
theorem pL {r : XRecord} (h : r.Ok maxLen) : ae Ph aF 246 [r.v] = some (ar (m9 r.fs)) := by
 refine ab (fn := mJ) rfl ?_
 simp +contextual (maxSteps := 9999999) [mJ]
 refine aA aQ Cl.fin [.f,.t,.f,.f,.f,.f,.t,.t,.t,.f,.f,.f,.f,.f,.f,.f,.f,.f,.f,.f,.f,.f,.f,.f,.f,.f,.f,.f,.f,.f,.f,.f,.f,.f,.f,.f,.f,.f,.f,.f,.f,.f,.f,.f] (fun k => [(8, aa .i64 k)]) r.fs.length (KQ r.fs) rfl (by simp) (fun k hk _ => ?_) (fun _ hp => ?_)
 ·obtain ⟨q1, q2⟩ := sV h.1 hk
  simp +contextual (maxSteps := 9999999) [iL, KQ, m9, hk, q1, q2, aE h.1 hk, aU hk, XField.e.eq_1 r.fs[k], XField.e.eq_1 r.fs[k - 1], bg (h.2 _ (List.getElem_mem hk)).1, aY]
 ·simp +contextual (maxSteps := 9999999) [iL, m9, hp]
theorem pV {r : XRecord} (h : r.Ok maxLen) : ae Ph aF 243 [r.v] = some (ar (m9 r.fs)) := by
 refine ab (fn := mS) rfl ?_
 simp +contextual (maxSteps := 9999999) [mS]
 refine aA aQ Cl.fin [.f,.t,.f,.t,.f,.f,.f,.f,.f,.f,.f,.f,.f,.f,.f,.f,.f,.f,.f,.f,.f,.f,.f,.f,.f,.f,.f,.f,.f,.f,.f,.f,.f,.f,.f,.f,.f,.f,.f,.f,.f,.f,.f,.f,.f,.f,.f,.f,.f,.f,.f,.f,.f] (fun k => [(3, aa .i64 k)]) r.fs.length (KQ r.fs) rfl (by simp) (fun k hk _ => ?_) (fun _ hp => ?_)
 ·obtain ⟨q1, q2⟩ := sV h.1 hk
  simp +contextual (maxSteps := 9999999) [iP, KQ, m9, hk, q1, q2, aE h.1 hk, aU hk, XField.e.eq_1 r.fs[k], XField.e.eq_1 r.fs[k - 1], bZ (h.2 _ (List.getElem_mem hk)).1, bp]
 ·simp +contextual (maxSteps := 9999999) [iP, m9, hp]
def gv {α : Type} (p : α → Bool) (xs : List α) : Int := match xs.findIdx? p with
 | some i => (i : Int)
 | none => -1
def iJ {α : Type} (p : α → Bool) (xs : List α) (k : Nat) : Bool := match xs[k]? with
 | some x => p x
 | none => false
theorem xV {α : Type} {p : α → Bool} {xs : List α} {k : Nat} (hk : k < xs.length) (hj : ∀ j, j < k → iJ p xs j = false) (h : p xs[k] = true) : gv p xs = (k : Int) := by
 have : xs.findIdx? p = some k := by
  rw [List.findIdx?_eq_some_iff_getElem]
  refine ⟨hk, h, fun j hjk => ?_⟩
  have h1 : j < xs.length := by omega
  have := hj j hjk
  simpa [iJ, h1] using this
 simp [gv, this]
theorem B2 {α : Type} {p : α → Bool} {xs : List α} (hj : ∀ j, j < xs.length → iJ p xs j = false) : gv p xs = -1 := by
 have : xs.findIdx? p = none := by
  rw [List.findIdx?_eq_none_iff]
  intro x hx
  obtain ⟨j, h1, rfl⟩ := List.mem_iff_getElem.1 hx
  simpa [iJ, h1] using hj j h1
 simp [gv, this]
theorem N6 {α : Type} (p : α → Bool) (xs : List α) : gv p xs = -1 ∨ ∃ j, ∃ hj : j < xs.length, gv p xs = (j : Int) ∧ p xs[j] = true := by
 unfold gv
 cases h : xs.findIdx? p with
 | none => exact .inl rfl
 | some i =>
  rw [List.findIdx?_eq_some_iff_getElem] at h
  obtain ⟨h1, h2, _⟩ := h
  exact .inr ⟨i, h1, rfl, h2⟩
def Qt (z : Nat) : ACode := (.seq (.region [⟨(some 9), (.bin .lss (.tmp 8) (.tmp 7)), none⟩]) (.seq (.cond (.tmp 9) .skip (.exit 0)) (.seq (.block 1 (.seq (.region [⟨(some 10), (.mv (.tmp 8)), none⟩, ⟨(some 5), (.mv (.tmp 10)), none⟩]) (.seq (.region [⟨(some 11), (.mv (.tmp 1)), none⟩, ⟨(some 12), (.mv (.tmp 0)), none⟩, ⟨(some 13), (.mv (.tmp 5)), none⟩, ⟨(some 14), (.indexA z (.tmp 12) (.tmp 13)), none⟩, ⟨(some 15), (.load true z (.tmp 14)), none⟩, ⟨(some 16), (.callV (.tmp 11) [(.tmp 15)]), none⟩]) (.cond (.tmp 16) (.seq (.region [⟨(some 17), (.mv (.tmp 5)), none⟩, ⟨(some 4), (.mv (.tmp 17)), none⟩]) .ret) .skip)))) (.region [⟨(some 18), (.bin .add (.tmp 8) (.pv (.int .i64 1))), none⟩, ⟨(some 8), (.mv (.tmp 18)), none⟩]))))
def QA (z : Nat) : AFn := ⟨19, [(.tmp 4)], (.seq (.region [⟨(some 4), (.mv (.pv (.int .i64 0))), none⟩]) (.seq (.seq (.region [⟨(some 6), (.mv (.tmp 0)), none⟩, ⟨(some 7), (.len (.tmp 6)), none⟩, ⟨(some 8), (.mv (.pv (.int .i64 0))), none⟩]) (.block 0 (.loop (Qt z)))) (.seq (.region [⟨(some 4), (.mv (.pv (.int .i64 (-1)))), none⟩]) .ret)))⟩
theorem FI {α : Type} {e : α → List PV} {p : α → Bool} {xs : List α} {k z kc : Nat} {caps : List (List PV)} (hk : Ph k = some (QA z)) (hl : xs.length ≤ maxLen) (hz : ∀ x, (e x).length = z) (hp : ∀ x ∈ xs, ae Ph aF kc (.agg ((e x).map .pv) :: caps.map GV) = some (ar (p x))) : ae Ph aF k [bu (xs.map e), .one (.fn kc caps)] = some (aa .i64 (gv p xs)) := by
 refine ab hk ?_
 simp +contextual (maxSteps := 9999999) [QA]
 refine aA aQ Cl.fin [.t,.t,.f,.f,.f,.f,.f,.t,.t,.f,.f,.f,.f,.f,.f,.f,.f,.f,.f] (fun k => [(8, aa .i64 k)]) xs.length (iJ p xs) rfl (by simp) (fun k hk hj => ?_) (fun hj _ => ?_)
 ·have hc := hp _ (List.getElem_mem hk)
  have ht : List.take z ((e xs[k]).map L.pv) = (e xs[k]).map L.pv := List.take_of_length_le (by simp [hz])
  have hf := xV hk hj
  simp +contextual (maxSteps := 9999999) [Qt, iJ, hk, hz, ht, hc, hf, aE hl hk, aU hk, oL]
 ·simp +contextual (maxSteps := 9999999) [Qt, B2 hj]
def ID (s t : List UInt8) (x : XBucket) : Bool := x.site == s && x.top == t
theorem og {bs : List XBucket} (h : bs.length ≤ maxLen) (s t : List UInt8) : ae Ph aF 175 [.agg [.pv (.lst (bs.map XBucket.e))], dM s, dM t] = some (aa .i64 (gv (ID s t) bs)) := by
 have e1 := FI (e := XBucket.e) (p := ID s t) (xs := bs) (k := 209) (z := 24) (kc := 210) (caps := [[.str s], [.str t]]) rfl h (fun _ => rfl) (fun x _ => by
  refine ab (fn := jy) rfl ?_
  simp +contextual (maxSteps := 9999999) [jy, XBucket.e.eq_1, GV, ID])
 refine ab (fn := kO) rfl ?_
 simp +contextual (maxSteps := 9999999) [kO, lI, qA, e1]
theorem oB {bs : List XBucket} (h : bs.length ≤ maxLen) (s t : List UInt8) : ae Ph aF 145 [.agg [.pv (.lst (bs.map XBucket.e))], dM s, dM t] = some (aa .i64 (gv (ID s t) bs)) := by
 refine ab (fn := kZ) rfl ?_
 simp +contextual (maxSteps := 9999999) [kZ]
 refine aA aQ Cl.fin [.f,.t,.t,.t,.f,.f,.f,.t,.f,.f,.f,.f,.f,.f,.f,.f,.f,.f,.f,.f,.f,.f,.f,.f,.f,.f,.f,.f,.f,.f,.f,.f,.f,.f] (fun k => [(7, aa .i64 k)]) bs.length (iJ (ID s t) bs) rfl (by simp) (fun k hk hj => ?_) (fun hj _ => ?_)
 ·have hf := xV hk hj
  simp +contextual (maxSteps := 9999999) [gy, iJ, ID, hk, hf, aE h hk, aU hk, XBucket.e.eq_1 bs[k]]
 ·simp +contextual (maxSteps := 9999999) [gy, B2 hj]
set_option maxHeartbeats 8000000
def ME (xs : List XItem) (k : Nat) : Bool := match xs[k]?, xs[k - 1]? with
 | some x, some y => !(pO x.key) || (!(m9 x.rcd.fs) || (dE 0 k && !(dE (K3 y.key x.key) 0)))
 | _, _ => false
def lm (s : XStore) : Bool := !(fE s.items.length (ME s.items)) && (ct s.name && (!(dE 16 s.items.length) && rg s.auto 0 1000000))
theorem mY {s : XStore} (h : s.Ok maxLen) : ae Ph aF 354 [s.v] = some (ar (lm s)) := by
 refine ab (fn := nG) rfl ?_
 simp +contextual (maxSteps := 9999999) [nG]
 refine aA aQ Cl.fin [.f,.t,.f,.f,.f,.f,.t,.t,.t,.f,.f,.f,.f,.f,.f,.f,.f,.f,.f,.f,.f,.f,.f,.f,.f,.f,.f,.f,.f,.f,.f,.f,.f,.f,.f,.f,.f,.f,.f,.f,.f,.f,.f,.f,.f,.f,.f,.f,.f,.f,.f,.f,.f,.f,.f] (fun k => [(8, aa .i64 k)]) s.items.length (ME s.items) rfl (by simp) (fun k hk _ => ?_) (fun _ hp => ?_)
 ·obtain ⟨q1, q2⟩ := sV h.2.1.1 hk
  obtain ⟨h1, h2⟩ := h.2.1.2 _ (List.getElem_mem hk)
  have h3 := (h.2.1.2 _ (List.getElem_mem q2)).1
  have e1 := pL h2
  have e2 := m8 h3 h1
  simp +contextual (maxSteps := 9999999) [jj, ME, lm, hk, q1, q2, aE h.2.1.1 hk, aU hk, XItem.e.eq_1 s.items[k], XItem.e.eq_1 s.items[k - 1], mo h1, e1, e2]
 ·simp +contextual (maxSteps := 9999999) [jj, lm, hp, bg h.1, aY]
theorem m4 {s : XStore} (h : s.Ok maxLen) : ae Ph aF 350 [s.v] = some (ar (lm s)) := by
 refine ab (fn := nL) rfl ?_
 simp +contextual (maxSteps := 9999999) [nL]
 refine aA aQ Cl.fin [.f,.t,.f,.t,.f,.f,.f,.f,.f,.f,.f,.f,.f,.f,.f,.f,.f,.f,.f,.f,.f,.f,.f,.f,.f,.f,.f,.f,.f,.f,.f,.f,.f,.f,.f,.f,.f,.f,.f,.f,.f,.f,.f,.f,.f,.f,.f,.f,.f,.f,.f,.f,.f,.f,.f,.f,.f,.f,.f,.f,.f,.f,.f,.f] (fun k => [(3, aa .i64 k)]) s.items.length (ME s.items) rfl (by simp) (fun k hk _ => ?_) (fun _ hp => ?_)
 ·obtain ⟨q1, q2⟩ := sV h.2.1.1 hk
  obtain ⟨h1, h2⟩ := h.2.1.2 _ (List.getElem_mem hk)
  have h3 := (h.2.1.2 _ (List.getElem_mem q2)).1
  have e1 := pV h2
  have e2 := na h3 h1
  simp +contextual (maxSteps := 9999999) [jk, ME, lm, hk, q1, q2, aE h.2.1.1 hk, aU hk, XItem.e.eq_1 s.items[k], XItem.e.eq_1 s.items[k - 1], mq h1, e1, e2]
 ·simp +contextual (maxSteps := 9999999) [jk, lm, hp, bZ h.1, bp]
structure XRange where
 hasLow : Bool
 hasHigh : Bool
 low : XKey
 high : XKey
abbrev XRange.v (r : XRange) : V := .agg [.pv (.bool r.hasLow), .pv (.bool r.hasHigh), .pv (.int .i64 r.low.kind), .pv (.int .i64 r.low.n), .pv (.str r.low.text), .pv (.int .i64 r.high.kind), .pv (.int .i64 r.high.n), .pv (.str r.high.text)]
def XRange.Ok (r : XRange) : Prop := r.low.Ok maxLen ∧ r.high.Ok maxLen
def Oc (n : List UInt8) (x : XStore) : Bool := x.name == n
theorem vV {d : XDatabase} (h : d.stores.length ≤ maxLen) (n : List UInt8) : ae Ph aF 404 [d.v, dM n] = some (aa .i64 (gv (Oc n) d.stores)) := by
 have e1 := FI (e := XStore.e) (p := Oc n) (xs := d.stores) (k := 410) (z := 3) (kc := 411) (caps := [[.str n]]) rfl h (fun _ => rfl) (fun x _ => by
  refine ab (fn := j8) rfl ?_
  simp +contextual (maxSteps := 9999999) [j8, XStore.e.eq_1, GV, Oc])
 refine ab (fn := lN) rfl ?_
 simp +contextual (maxSteps := 9999999) [lN, lI, qA, e1]
theorem wy {d : XDatabase} (h : d.stores.length ≤ maxLen) (n : List UInt8) : ae Ph aF 400 [d.v, dM n] = some (aa .i64 (gv (Oc n) d.stores)) := by
 refine ab (fn := ma) rfl ?_
 simp +contextual (maxSteps := 9999999) [ma]
 refine aA aQ Cl.fin [.f,.t,.t,.f,.f,.t,.f,.f,.f,.f,.f,.f,.f,.f,.f,.f,.f,.f,.f,.f,.f,.f] (fun k => [(5, aa .i64 k)]) d.stores.length (iJ (Oc n) d.stores) rfl (by simp) (fun k hk hj => ?_) (fun hj _ => ?_)
 ·have hf := xV hk hj
  simp +contextual (maxSteps := 9999999) [ib, iJ, Oc, hk, hf, aE h hk, aU hk, XStore.e.eq_1 d.stores[k]]
 ·simp +contextual (maxSteps := 9999999) [ib, B2 hj]
def isF (n : List UInt8) (x : XField) : Bool := x.name == n
def oO (fs : List XField) (n : List UInt8) : Int × Bool := match fs.find? (isF n) with
 | some x => (x.n, true)
 | none => (0, false)
theorem O9 {fs : List XField} {n : List UInt8} {k : Nat} (hk : k < fs.length) (hj : ∀ j, j < k → iJ (isF n) fs j = false) (h : isF n fs[k] = true) : oO fs n = (fs[k].n, true) := by
 have : fs.find? (isF n) = some fs[k] := by
  rw [List.find?_eq_some_iff_getElem]
  refine ⟨h, k, hk, rfl, fun j hjk => ?_⟩
  have h1 : j < fs.length := by omega
  have := hj j hjk
  simpa [iJ, h1] using this
 simp [oO, this]
theorem O8 {fs : List XField} {n : List UInt8} (hj : ∀ j, j < fs.length → iJ (isF n) fs j = false) : oO fs n = (0, false) := by
 have : fs.find? (isF n) = none := by
  rw [List.find?_eq_none]
  intro x hx
  obtain ⟨j, h1, rfl⟩ := List.mem_iff_getElem.1 hx
  have := hj j h1
  simpa [iJ, h1] using this
 simp [oO, this]
abbrev P3 (x : Int × Bool) : V := .tup [(false, [.pv (.int .i64 x.1)]), (false, [.pv (.bool x.2)])]
theorem Am {r : XRecord} (h : r.fs.length ≤ maxLen) (n : List UInt8) : ae Ph aF 217 [r.v, dM n] = some (aa .i64 (gv (isF n) r.fs)) := by
 have e1 := FI (e := XField.e) (p := isF n) (xs := r.fs) (k := 240) (z := 2) (kc := 241) (caps := [[.str n]]) rfl h (fun _ => rfl) (fun x _ => by
  refine ab (fn := lX) rfl ?_
  simp +contextual (maxSteps := 9999999) [lX, XField.e.eq_1, GV, isF])
 refine ab (fn := nJ) rfl ?_
 simp +contextual (maxSteps := 9999999) [nJ, lI, qA, e1]
theorem gT {r : XRecord} (h : r.fs.length ≤ maxLen) (n : List UInt8) : ae Ph aF 186 [r.v, dM n] = some (P3 (oO r.fs n)) := by
 refine ab (fn := mR) rfl ?_
 simp +contextual (maxSteps := 9999999) [mR]
 refine aA aQ Cl.fin [.f,.t,.t,.f,.f,.f,.t,.f,.f,.f,.f,.f,.f,.f,.f,.f,.f,.f,.f,.f,.f,.f,.f,.f,.f,.f,.f,.f] (fun k => [(6, aa .i64 k)]) r.fs.length (iJ (isF n) r.fs) rfl (by simp) (fun k hk hj => ?_) (fun hj _ => ?_)
 ·have hf := O9 hk hj
  simp +contextual (maxSteps := 9999999) [iN, iJ, isF, hk, hf, aE h hk, aU hk, XField.e.eq_1 r.fs[k]]
 ·simp +contextual (maxSteps := 9999999) [iN, O8 hj]
theorem Lt (fs : List XField) (n : List UInt8) : (gv (isF n) fs = -1 ∧ oO fs n = (0, false)) ∨ ∃ j, ∃ hj : j < fs.length, gv (isF n) fs = (j : Int) ∧ oO fs n = (fs[j].n, true) := by
 unfold gv oO
 cases h : fs.findIdx? (isF n) with
 | none =>
  have : fs.find? (isF n) = none := by rw [List.findIdx?_eq_none_iff] at h; rw [List.find?_eq_none]; exact fun x hx => by simp [h x hx]
  simp [this]
 | some i =>
  rw [List.findIdx?_eq_some_iff_getElem] at h
  obtain ⟨h1, h2, h3⟩ := h
  have : fs.find? (isF n) = some fs[i] := by
   rw [List.find?_eq_some_iff_getElem]
   exact ⟨h2, i, h1, rfl, fun j hj => by simpa using h3 j hj⟩
  exact .inr ⟨i, h1, rfl, by simp [this]⟩
theorem gS {r : XRecord} (h : r.fs.length ≤ maxLen) (n : List UInt8) : ae Ph aF 190 [r.v, dM n] = some (P3 (oO r.fs n)) := by
 have e1 := Am h n
 rcases Lt r.fs n with ⟨h1, h2⟩ | ⟨j, hj, h1, h2⟩ <;> rw [h1] at e1 <;> rw [h2]
 all_goals refine ab (fn := jX) rfl ?_
 ·simp +contextual (maxSteps := 9999999) [jX, e1, dE]
 ·simp +contextual (maxSteps := 9999999) [jX, e1, dE, hj, XField.e.eq_1 r.fs[j]]
end Gi
