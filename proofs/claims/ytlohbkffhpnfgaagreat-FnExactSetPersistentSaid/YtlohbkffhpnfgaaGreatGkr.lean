/- Of this proof. -/
import Derived.Test.YtlohbkffhpnfgaaGreatGkd
import Derived.Test.YtlohbkffhpnfgaaGreatGka
set_option linter.unusedSimpArgs false
set_option linter.unusedVariables false
namespace Gi
open Go Go.RowKit
set_option maxHeartbeats 4000000
def Mg : Nat → Nat → List UInt8
 | 0, _ => []
 | f + 1, n => if n < 128 then [UInt8.ofNat n] else UInt8.ofNat (n % 128 + 128) :: Mg f (n / 128)
def p8 (n : Nat) : List UInt8 := Mg 6 n
theorem KA : ∀ (f n : Nat), (Mg f n).length ≤ f
 | 0, n => by simp [Mg]
 | f + 1, n => by
  have := KA f (n / 128)
  unfold Mg
  split <;> simp <;> omega
theorem qy (n : Nat) : (p8 n).length ≤ 6 := KA 6 n
theorem EU {n : Nat} (h : n < 128) : (p8 n).length = 1 := by simp [p8, Mg, h]
def GE (s : List UInt8) : List UInt8 := p8 s.length ++ s
def Pr (x : Nat) : List UInt8 := [UInt8.ofNat (x / 1099511627776), UInt8.ofNat (x / 4294967296), UInt8.ofNat (x / 16777216), UInt8.ofNat (x / 65536), UInt8.ofNat (x / 256), UInt8.ofNat x]
def kN (k : XKey) : List UInt8 := if pO k = true then UInt8.ofNat k.kind.toNat :: ((if k.kind = 2 then [] else Pr (k.n + 1000000000000).toNat) ++ k.text) else []
theorem CE {n a b : Int} : rg n a b = true ↔ a ≤ n ∧ n ≤ b := by simp [rg, dE]
theorem yh {k : XKey} (h : pO k = true) : 1 ≤ k.kind ∧ k.kind ≤ 3 ∧ -1000000000000 ≤ k.n ∧ k.n ≤ 1000000000000 ∧ (k.kind = 2 → k.n = 0) ∧ k.text.length ≤ 12 := by
 unfold pO rn at h
 simp only [Bool.and_eq_true, CE, Bool.or_eq_true, Bool.not_eq_true', beq_eq_false_iff_ne, beq_iff_eq] at h
 obtain ⟨⟨⟨⟨⟨h1, h2⟩, h3, h4⟩, h5⟩, _, h6⟩, _⟩ := h
 have := of_decide_eq_false h6
 exact ⟨h1, h2, h3, h4, fun q => h5.resolve_left (fun z => z q), by omega⟩
theorem Bf (k : XKey) : (kN k).length ≤ 19 := by
 unfold kN
 split
 ·rename_i h
  have := (yh h).2.2.2.2.2
  split <;> simp [Pr] <;> omega
 ·simp
def NZ (f : XField) : List UInt8 := GE f.name ++ p8 f.n.toNat
def gY (l : List XField) : List UInt8 := l.flatMap NZ
def qF (r : XRecord) : List UInt8 := if m9 r.fs = true then p8 r.fs.length ++ gY r.fs else []
def QB (f : XField) : Prop := f.name.length ≤ 8 ∧ 0 ≤ f.n ∧ f.n ≤ 1000000000000
theorem I9 {s : List UInt8} (h : ct s = true) : 1 ≤ s.length ∧ s.length ≤ 8 := by
 simp only [ct, px, Bool.and_eq_true, CE] at h
 omega
theorem yq {r : XRecord} (h : m9 r.fs = true) : r.fs.length ≤ 6 ∧ ∀ f ∈ r.fs, QB f := by
 simp only [m9, Bool.and_eq_true, Bool.not_eq_true'] at h
 have hl := of_decide_eq_false h.2
 refine ⟨by omega, fun f m => ?_⟩
 obtain ⟨j, hj, rfl⟩ := List.mem_iff_getElem.1 m
 have := Mw h.1 hj
 simp only [KQ, hj, show j - 1 < r.fs.length by omega, List.getElem?_eq_getElem, Bool.or_eq_false_iff, Bool.not_eq_false', CE] at this
 have q := I9 this.1
 exact ⟨q.2, this.2.1.1, by omega⟩
theorem su : ∀ (l : List XField), (∀ f ∈ l, QB f) → (gY l).length ≤ 15 * l.length
 | [], h => by simp [gY]
 | f :: l, h => by
  have ih := su l (fun g m => h g (by simp [m]))
  have h1 := (h f (by simp)).1
  have h2 := EU (n := f.name.length) (by omega)
  have h3 := qy f.n.toNat
  simp only [gY, List.flatMap_cons, NZ, GE, List.length_append, List.length_cons] at ih ⊢
  omega
theorem Bg (r : XRecord) : (qF r).length ≤ 91 := by
 unfold qF
 split
 ·rename_i h
  obtain ⟨h1, h2⟩ := yq h
  have := su r.fs h2
  have := EU (n := r.fs.length) (by omega)
  simp only [List.length_append]
  omega
 ·simp
structure Raw where
 kind : Nat
 a : List UInt8
 b : List UInt8
 c : List UInt8
 d : List UInt8
structure XOp where
 kind : Int
 store : List UInt8
 key : XKey
 rcd : XRecord
 field : List UInt8
def XOp.e (x : XOp) : List PV := [.int .i64 x.kind, .str x.store, .int .i64 x.key.kind, .int .i64 x.key.n, .str x.key.text, .lst (x.rcd.fs.map XField.e), .str x.field]
abbrev XOp.v (x : XOp) : V := .agg [.pv (.int .i64 x.kind), .pv (.str x.store), .pv (.int .i64 x.key.kind), .pv (.int .i64 x.key.n), .pv (.str x.key.text), .pv (.lst (x.rcd.fs.map XField.e)), .pv (.str x.field)]
def XOp.Ok (B : Nat) (x : XOp) : Prop := oQ x.kind ∧ x.store.length ≤ B ∧ x.key.Ok B ∧ x.rcd.Ok B ∧ x.field.length ≤ B
end Gi
namespace Gi
open Go Go.RowKit
set_option maxHeartbeats 8000000
set_option maxRecDepth 4000
attribute [local simp] bt ag aw aH bf bW Opd.ev put V.cells plain bm f4 isInt isStr isBool bin bC nD nC un asList L.view am V.view viewL aR au bw bO comp aJ br dv cq bH bF bG bN bi cu aW bJ aP aX bL cy bK bI bM V.flat L.flat dF di bz putAt thaw thawL thawT freezeVs freezeLs freezeL V.mut L.mut aI aT dG cf dK bS bB wp_seq wp_block nw wp_cond wp_skip wp_exit wp_ret cK cJ cP cL df dg de cj aV L.notArr aO aM aN dL bn storeD ba fK bq cB be ny L.mov L.closed V.closed PV.bare PV.flat
theorem bo {s : List UInt8} : (ak s).length = s.length := by simp [ak]
structure Flat (z : Nat) (R : List (List PV)) : Prop where
 flat : lf R = true
 wid : (R.all fun r => r.length == z) = true
 len : R.length ≤ 1048576
theorem lh {R : List (List PV)} (h : Flat 1 R) : ae Ph aF 261 [bu R] = some (.one (.down 1 R)) := by
 have hf := h.flat
 have hw := h.wid
 have m := eI (m := R.length) (z := 1) (by have := h.len; omega) (by omega)
 rw [Nat.mul_one] at m
 refine ab (fn := lR) rfl ?_
 simp [lR, hf, hw, m]
theorem wB {R : List (List PV)} (h : Flat 4 R) : ae Ph aF 489 [bu R] = some (.one (.down 4 R)) := by
 have hf := h.flat
 have hw := h.wid
 have m := eI (m := R.length) (z := 40) (by have := h.len; omega) (by omega)
 refine ab (fn := mf) rfl ?_
 simp [mf, hf, hw, m]
theorem uf {B : Nat} (hB : B ≤ 1048576) {x : XRecord} (h : x.Ok B) : ae Ph aF 242 [.agg [.pv (.lst (x.fs.map XField.e))]] = some (.agg [.down 2 (x.fs.map XField.e)]) := by
 have h_fs := h
 have F0 : Flat 2 (x.fs.map XField.e) := ⟨dC (e := XField.e) (fun _ => rfl) _, du (e := XField.e) (z := 2) (fun _ => rfl) _, by rw [List.length_map]; have := h_fs.1; omega⟩
 have hf0 := F0.flat
 have hw0 := F0.wid
 have m0 := eI (m := (x.fs.map XField.e).length) (z := 24) (by have := F0.len; omega) (by omega)
 generalize (x.fs.map XField.e) = R0 at F0 hf0 hw0 m0 ⊢
 refine ab (fn := kX) rfl ?_
 simp [kX, hf0, hw0, m0]
theorem CP {B : Nat} (hB : B ≤ 1048576) {x : XRecord} (h : x.Ok B) : ae Ph aF 239 [.agg [.pv (.lst (x.fs.map XField.e))]] = some (.agg [.down 2 (x.fs.map XField.e)]) := by
 have h_fs := h
 have F0 : Flat 2 (x.fs.map XField.e) := ⟨dC (e := XField.e) (fun _ => rfl) _, du (e := XField.e) (z := 2) (fun _ => rfl) _, by rw [List.length_map]; have := h_fs.1; omega⟩
 have hf0 := F0.flat
 have hw0 := F0.wid
 have m0 := eI (m := (x.fs.map XField.e).length) (z := 24) (by have := F0.len; omega) (by omega)
 generalize (x.fs.map XField.e) = R0 at F0 hf0 hw0 m0 ⊢
 refine ab (fn := pm) rfl ?_
 simp [pm, hf0, hw0, m0]
theorem pM {B : Nat} (hB : B ≤ 1048576) {x : XItem} (h : x.Ok B) : ae Ph aF 218 [.agg [.pv (.int .i64 x.key.kind), .pv (.int .i64 x.key.n), .pv (.str x.key.text), .pv (.lst (x.rcd.fs.map XField.e))]] = some (.agg [.pv (.int .i64 x.key.kind), .pv (.int .i64 x.key.n), .pv (.str x.key.text), .down 2 (x.rcd.fs.map XField.e)]) := by
 obtain ⟨h_key, h_rcd⟩ := h
 have c0 := uf hB h_rcd
 refine ab (fn := mN) rfl ?_
 simp [mN, c0]
theorem rV {B : Nat} (hB : B ≤ 1048576) {x : XItem} (h : x.Ok B) : ae Ph aF 214 [.agg [.pv (.int .i64 x.key.kind), .pv (.int .i64 x.key.n), .pv (.str x.key.text), .pv (.lst (x.rcd.fs.map XField.e))]] = some (.agg [.pv (.int .i64 x.key.kind), .pv (.int .i64 x.key.n), .pv (.str x.key.text), .down 2 (x.rcd.fs.map XField.e)]) := by
 obtain ⟨h_key, h_rcd⟩ := h
 have c0 := CP hB h_rcd
 refine ab (fn := pp) rfl ?_
 simp [pp, c0]
theorem sS {B : Nat} (hB : B ≤ 1048576) {x : XMachine} (h : x.Ok B) : ae Ph aF 493 [.agg [.pv (.lst (x.script.map XInstr.e)), .pv (.int .i64 x.pc), .pv (.lst (x.regs.map sM)), .pv (.int .i64 x.steps), .pv (.bool x.done), .pv (.bool x.wait)]] = some (.agg [.down 4 (x.script.map XInstr.e), .pv (.int .i64 x.pc), .down 1 (x.regs.map sM), .pv (.int .i64 x.steps), .pv (.bool x.done), .pv (.bool x.wait)]) := by
 obtain ⟨h_script, h_pc, h_regs, h_steps⟩ := h
 have F0 : Flat 4 (x.script.map XInstr.e) := ⟨dC (e := XInstr.e) (fun _ => rfl) _, du (e := XInstr.e) (z := 4) (fun _ => rfl) _, by rw [List.length_map]; have := h_script.1; omega⟩
 have hf0 := F0.flat
 have hw0 := F0.wid
 have m0 := eI (m := (x.script.map XInstr.e).length) (z := 40) (by have := F0.len; omega) (by omega)
 generalize (x.script.map XInstr.e) = R0 at F0 hf0 hw0 m0 ⊢
 have F1 : Flat 1 (x.regs.map sM) := ⟨dC (e := sM) (fun _ => rfl) _, du (e := sM) (z := 1) (fun _ => rfl) _, by rw [List.length_map]; have := h_regs.1; omega⟩
 have hf1 := F1.flat
 have hw1 := F1.wid
 have m1 := eI (m := (x.regs.map sM).length) (z := 8) (by have := F1.len; omega) (by omega)
 generalize (x.regs.map sM) = R1 at F1 hf1 hw1 m1 ⊢
 refine ab (fn := ki) rfl ?_
 simp [ki, hf0, hw0, m0, hf1, hw1, m1]
theorem Au {B : Nat} (hB : B ≤ 1048576) {x : XMachine} (h : x.Ok B) : ae Ph aF 477 [.agg [.pv (.lst (x.script.map XInstr.e)), .pv (.int .i64 x.pc), .pv (.lst (x.regs.map sM)), .pv (.int .i64 x.steps), .pv (.bool x.done), .pv (.bool x.wait)]] = some (.agg [.down 4 (x.script.map XInstr.e), .pv (.int .i64 x.pc), .down 1 (x.regs.map sM), .pv (.int .i64 x.steps), .pv (.bool x.done), .pv (.bool x.wait)]) := by
 obtain ⟨h_script, h_pc, h_regs, h_steps⟩ := h
 have c0 := wB (R := (x.script.map XInstr.e)) ⟨dC (fun _ => rfl) _, du (z := 4) (fun _ => rfl) _, by rw [List.length_map]; have := h_script.1; omega⟩
 have F0 : Flat 1 (x.regs.map sM) := ⟨dC (e := sM) (fun _ => rfl) _, du (e := sM) (z := 1) (fun _ => rfl) _, by rw [List.length_map]; have := h_regs.1; omega⟩
 have hf0 := F0.flat
 have hw0 := F0.wid
 have m0 := eI (m := (x.regs.map sM).length) (z := 8) (by have := F0.len; omega) (by omega)
 generalize (x.regs.map sM) = R0 at F0 hf0 hw0 m0 ⊢
 refine ab (fn := nO) rfl ?_
 simp [nO, c0, hf0, hw0, m0]
theorem ye {B : Nat} (hB : B ≤ 1048576) {x : XPage} (h : x.Ok B) : ae Ph aF 479 [.agg [.pv (.int .i64 x.id), .pv (.str x.site), .pv (.str x.top), .pv (.int .i64 x.version), .pv (.lst (x.loaded.map XLoaded.e)), .pv (.lst (x.machine.script.map XInstr.e)), .pv (.int .i64 x.machine.pc), .pv (.lst (x.machine.regs.map sM)), .pv (.int .i64 x.machine.steps), .pv (.bool x.machine.done), .pv (.bool x.machine.wait)]] = some (.agg [.pv (.int .i64 x.id), .pv (.str x.site), .pv (.str x.top), .pv (.int .i64 x.version), .down 2 (x.loaded.map XLoaded.e), .down 4 (x.machine.script.map XInstr.e), .pv (.int .i64 x.machine.pc), .down 1 (x.machine.regs.map sM), .pv (.int .i64 x.machine.steps), .pv (.bool x.machine.done), .pv (.bool x.machine.wait)]) := by
 obtain ⟨h_id, h_site, h_top, h_version, h_loaded, h_machine⟩ := h
 have c0 := sS hB h_machine
 have F0 : Flat 2 (x.loaded.map XLoaded.e) := ⟨dC (e := XLoaded.e) (fun _ => rfl) _, du (e := XLoaded.e) (z := 2) (fun _ => rfl) _, by rw [List.length_map]; have := h_loaded.1; omega⟩
 have hf0 := F0.flat
 have hw0 := F0.wid
 have m0 := eI (m := (x.loaded.map XLoaded.e).length) (z := 24) (by have := F0.len; omega) (by omega)
 generalize (x.loaded.map XLoaded.e) = R0 at F0 hf0 hw0 m0 ⊢
 refine ab (fn := mO) rfl ?_
 simp [mO, c0, hf0, hw0, m0]
theorem Ay {B : Nat} (hB : B ≤ 1048576) {x : XPage} (h : x.Ok B) : ae Ph aF 451 [.agg [.pv (.int .i64 x.id), .pv (.str x.site), .pv (.str x.top), .pv (.int .i64 x.version), .pv (.lst (x.loaded.map XLoaded.e)), .pv (.lst (x.machine.script.map XInstr.e)), .pv (.int .i64 x.machine.pc), .pv (.lst (x.machine.regs.map sM)), .pv (.int .i64 x.machine.steps), .pv (.bool x.machine.done), .pv (.bool x.machine.wait)]] = some (.agg [.pv (.int .i64 x.id), .pv (.str x.site), .pv (.str x.top), .pv (.int .i64 x.version), .down 2 (x.loaded.map XLoaded.e), .down 4 (x.machine.script.map XInstr.e), .pv (.int .i64 x.machine.pc), .down 1 (x.machine.regs.map sM), .pv (.int .i64 x.machine.steps), .pv (.bool x.machine.done), .pv (.bool x.machine.wait)]) := by
 obtain ⟨h_id, h_site, h_top, h_version, h_loaded, h_machine⟩ := h
 have c0 := Au hB h_machine
 have F0 : Flat 2 (x.loaded.map XLoaded.e) := ⟨dC (e := XLoaded.e) (fun _ => rfl) _, du (e := XLoaded.e) (z := 2) (fun _ => rfl) _, by rw [List.length_map]; have := h_loaded.1; omega⟩
 have hf0 := F0.flat
 have hw0 := F0.wid
 have m0 := eI (m := (x.loaded.map XLoaded.e).length) (z := 24) (by have := F0.len; omega) (by omega)
 generalize (x.loaded.map XLoaded.e) = R0 at F0 hf0 hw0 m0 ⊢
 refine ab (fn := nS) rfl ?_
 simp [nS, c0, hf0, hw0, m0]
def fI (b0 b1 : AObj) (y0 : L) (y2 : L) (rows : List (List PV)) : Nat → List AObj
 | 0 => [b0, b1, .box [y0, .nil, y2]]
 | k + 1 => [b0, b1, .box [y0, .arr 3, y2], .darr 4 (rows.take (k + 1))]
theorem li {B : Nat} (hB : B ≤ 1048576) {x : XStore} (h : x.Ok B) : ae Ph aF 191 [.agg [.pv (.str x.name), .pv (.lst (x.items.map XItem.e)), .pv (.int .i64 x.auto)]] = some (.agg [.pv (.str x.name), nd 4 (x.items.map XItem.e), .pv (.int .i64 x.auto)]) := by
 obtain ⟨h_name, h_items, h_auto⟩ := h
 have e1 : ∀ k (hk : k < x.items.length), _ := fun k hk => pM hB (h_items.2 _ (List.getElem_mem hk))
 have hl : x.items.length ≤ 1048576 := Nat.le_trans h_items.1 hB
 refine ab (fn := lV) rfl ?_
 simp [lV]
 refine cI aQ Cl.fin x.items.length [.f,.f,.t,.t,.f,.f,.f,.f,.f,.f,.f,.f,.t,.t,.t,.f,.f,.f,.f,.f,.f,.f,.f,.f,.f,.f,.f] (fun k => [(14, aa .i64 k)]) (fI (.box [.pv (.str x.name), .pv (.lst (x.items.map XItem.e)), .pv (.int .i64 x.auto)]) (.box [.pv (.str []), .nil, .pv (.int .i64 0)]) (.pv (.str x.name)) (.pv (.int .i64 x.auto)) (x.items.map XItem.e)) rfl ?_ ?_ ?_
 ·exact Kn.q [0, 1, 2] (by simp [fI, aO, aM, aN, dL, bn, aL, bd, aD, dh, bD, bh, bR, L.ren, aP])
 ·intro k hk
  have ek := e1 k hk
  have hx := XItem.e.eq_1 x.items[k]
  have ht := bT (e := XItem.e) hk
  rw [hx] at ht
  cases k with
  | zero =>
   simp only [fI, ht]
   simp [eS, hk, hx, ek, bU]
   exact Kn.q [0, 1, 2, 6]
  | succ k =>
   obtain ⟨i1, i2, i3, i4, i5, i6⟩ := mz (n := x.items.length) (by unfold maxLen; omega) hk
   have b1 : min (k + 1) x.items.length = k + 1 := by omega
   have m1 := eI (m := k + 1 + 1) (z := 56) (by omega) (by omega)
   simp only [fI, ht]
   generalize hT : List.take (k + 1) _ = T
   have hTl : T.length = k + 1 := by rw [← hT]; simp; omega
   simp [eS, hk, hx, ek, i1, i2, i3, i4, i5, i6, hTl, m1]
   exact Kn.q [0, 1, 2, 7]
 ·cases hq : x.items with
  | nil => simp [eS, fI, nd]
  | cons q qs =>
   have hT : (x.items.map XItem.e).take (qs.length + 1) = x.items.map XItem.e := List.take_of_length_le (by rw [hq]; simp)
   rw [hq] at hT
   simp only [List.length_cons, fI, hT]
   simp [eS, nd]
def iv (b0 b1 : AObj) (y0 : L) (y2 : L) (rows : List (List PV)) : Nat → List AObj
 | 0 => [b0, b1, .box [y0, .nil, y2]]
 | k + 1 => [b0, b1, .box [y0, .arr 3, y2], .darr 4 (rows.take (k + 1))]
theorem oC {B : Nat} (hB : B ≤ 1048576) {x : XStore} (h : x.Ok B) : ae Ph aF 187 [.agg [.pv (.str x.name), .pv (.lst (x.items.map XItem.e)), .pv (.int .i64 x.auto)]] = some (.agg [.pv (.str x.name), nd 4 (x.items.map XItem.e), .pv (.int .i64 x.auto)]) := by
 obtain ⟨h_name, h_items, h_auto⟩ := h
 have e1 : ∀ k (hk : k < x.items.length), _ := fun k hk => rV hB (h_items.2 _ (List.getElem_mem hk))
 have hl : x.items.length ≤ 1048576 := Nat.le_trans h_items.1 hB
 refine ab (fn := pn) rfl ?_
 simp [pn]
 refine cI aQ Cl.fin x.items.length [.f,.t,.t,.t,.t,.f,.f,.f,.f,.f,.f,.f,.f,.f,.f,.f,.f,.f,.f,.f,.f,.f,.f,.f,.f,.f,.f,.f,.f] (fun k => [(4, aa .i64 k)]) (iv (.box [.pv (.str x.name), .pv (.lst (x.items.map XItem.e)), .pv (.int .i64 x.auto)]) (.box [.pv (.str []), .nil, .pv (.int .i64 0)]) (.pv (.str x.name)) (.pv (.int .i64 x.auto)) (x.items.map XItem.e)) rfl ?_ ?_ ?_
 ·exact Kn.q [0, 1, 2] (by simp [iv, aO, aM, aN, dL, bn, aL, bd, aD, dh, bD, bh, bR, L.ren, aP])
 ·intro k hk
  have ek := e1 k hk
  have hx := XItem.e.eq_1 x.items[k]
  have ht := bT (e := XItem.e) hk
  rw [hx] at ht
  cases k with
  | zero =>
   simp only [iv, ht]
   simp [f7, hk, hx, ek, bU]
   exact Kn.q [0, 1, 2, 5]
  | succ k =>
   obtain ⟨i1, i2, i3, i4, i5, i6⟩ := mz (n := x.items.length) (by unfold maxLen; omega) hk
   have b1 : min (k + 1) x.items.length = k + 1 := by omega
   have m1 := eI (m := k + 1 + 1) (z := 56) (by omega) (by omega)
   simp only [iv, ht]
   generalize hT : List.take (k + 1) _ = T
   have hTl : T.length = k + 1 := by rw [← hT]; simp; omega
   simp [f7, hk, hx, ek, i1, i2, i3, i4, i5, i6, hTl, m1]
   exact Kn.q [0, 1, 2, 6]
 ·cases hq : x.items with
  | nil => simp [f7, iv, nd]
  | cons q qs =>
   have hT : (x.items.map XItem.e).take (qs.length + 1) = x.items.map XItem.e := List.take_of_length_le (by rw [hq]; simp)
   rw [hq] at hT
   simp only [List.length_cons, iv, hT]
   simp [f7, nd]
def eE (b0 b1 : AObj) (nm : List UInt8) (ver : Int) (U rows : List (List PV)) : Nat → List AObj
 | 0 => [b0, b1, .box [.pv (.str nm), .pv (.int .i64 ver), .nil, .arr 3], .darr 2 U]
 | k + 1 => [b0, b1, .box [.pv (.str nm), .pv (.int .i64 ver), .arr 4, .arr 3], .darr 2 U, .darr 3 (rows.take (k + 1))]
theorem rh {B : Nat} (hB : B ≤ 1048576) {x : XDatabase} (h : x.Ok B) : ae Ph aF 498 [.agg [.pv (.str x.name), .pv (.int .i64 x.version), .pv (.lst (x.stores.map XStore.e)), .pv (.lst (x.unique.map XIndexDef.e))]] = some (.agg [.pv (.str x.name), .pv (.int .i64 x.version), nd 3 (x.stores.map XStore.e), .down 2 (x.unique.map XIndexDef.e)]) := by
 obtain ⟨h_name, h_version, h_stores, h_unique⟩ := h
 have F0 : Flat 2 (x.unique.map XIndexDef.e) := ⟨dC (e := XIndexDef.e) (fun _ => rfl) _, du (e := XIndexDef.e) (z := 2) (fun _ => rfl) _, by rw [List.length_map]; have := h_unique.1; omega⟩
 have hf0 := F0.flat
 have hw0 := F0.wid
 have m0 := eI (m := (x.unique.map XIndexDef.e).length) (z := 32) (by have := F0.len; omega) (by omega)
 generalize (x.unique.map XIndexDef.e) = R0 at F0 hf0 hw0 m0 ⊢
 have e1 : ∀ k (hk : k < x.stores.length), _ := fun k hk => li hB (h_stores.2 _ (List.getElem_mem hk))
 have hl : x.stores.length ≤ 1048576 := Nat.le_trans h_stores.1 hB
 refine ab (fn := jC) rfl ?_
 simp [jC, hf0, hw0, m0]
 refine cI aQ Cl.fin x.stores.length [.f,.f,.t,.t,.f,.f,.f,.f,.f,.f,.f,.f,.f,.f,.f,.f,.t,.t,.t,.f,.f,.f,.f,.f,.f,.f,.f,.f,.f,.f,.f] (fun k => [(18, aa .i64 k)]) (eE (.box [.pv (.str x.name), .pv (.int .i64 x.version), .pv (.lst (x.stores.map XStore.e)), .pv (.lst R0)]) (.box [.pv (.str []), .pv (.int .i64 0), .nil, .nil]) x.name x.version R0 (x.stores.map XStore.e)) rfl ?_ ?_ ?_
 ·exact Kn.q [0, 1, 2, 3] (by simp [eE, aO, aM, aN, dL, bn, aL, bd, aD, dh, bD, bh, bR, L.ren, aP])
 ·intro k hk
  have ek := e1 k hk
  have hx := XStore.e.eq_1 x.stores[k]
  have ht := bT (e := XStore.e) hk
  rw [hx] at ht
  have N0 := ez 4 (x.stores[k].items.map XItem.e)
  generalize nd 4 (x.stores[k].items.map XItem.e) = n0 at N0 ek
  cases k with
  | zero =>
   simp only [eE, ht]
   rcases N0 with ⟨q0, rfl⟩ | ⟨q0, rfl⟩
   ·simp only [q0] at ek
    simp [cC, hk, hx, ek, bU, q0]
    exact Kn.q [0, 1, 2, 3, 6]
   ·simp [cC, hk, hx, ek, bU]
    exact Kn.q [0, 1, 2, 3, 7]
  | succ k =>
   obtain ⟨i1, i2, i3, i4, i5, i6⟩ := mz (n := x.stores.length) (by unfold maxLen; omega) hk
   have b1 : min (k + 1) x.stores.length = k + 1 := by omega
   have m1 := eI (m := k + 1 + 1) (z := 48) (by omega) (by omega)
   simp only [eE, ht]
   generalize hT : List.take (k + 1) _ = T
   have hTl : T.length = k + 1 := by rw [← hT]; simp; omega
   rcases N0 with ⟨q0, rfl⟩ | ⟨q0, rfl⟩
   ·simp only [q0] at ek
    simp [cC, hk, hx, ek, i1, i2, i3, i4, i5, i6, hTl, m1, q0]
    exact Kn.q [0, 1, 2, 3, 7]
   ·simp [cC, hk, hx, ek, i1, i2, i3, i4, i5, i6, hTl, m1]
    exact Kn.q [0, 1, 2, 3, 8]
 ·cases hq : x.stores with
  | nil => simp [cC, eE, nd]
  | cons q qs =>
   have hT : (x.stores.map XStore.e).take (qs.length + 1) = x.stores.map XStore.e := List.take_of_length_le (by rw [hq]; simp)
   rw [hq] at hT
   simp only [List.length_cons, eE, hT]
   simp [cC, nd]
def iw (b0 b1 : AObj) (nm : List UInt8) (ver : Int) (U rows : List (List PV)) : Nat → List AObj
 | 0 => [b0, b1, .box [.pv (.str nm), .pv (.int .i64 ver), .nil, .arr 3], .darr 2 U]
 | k + 1 => [b0, b1, .box [.pv (.str nm), .pv (.int .i64 ver), .arr 4, .arr 3], .darr 2 U, .darr 3 (rows.take (k + 1))]
theorem CQ {B : Nat} (hB : B ≤ 1048576) {x : XDatabase} (h : x.Ok B) : ae Ph aF 496 [.agg [.pv (.str x.name), .pv (.int .i64 x.version), .pv (.lst (x.stores.map XStore.e)), .pv (.lst (x.unique.map XIndexDef.e))]] = some (.agg [.pv (.str x.name), .pv (.int .i64 x.version), nd 3 (x.stores.map XStore.e), .down 2 (x.unique.map XIndexDef.e)]) := by
 obtain ⟨h_name, h_version, h_stores, h_unique⟩ := h
 have F0 : Flat 2 (x.unique.map XIndexDef.e) := ⟨dC (e := XIndexDef.e) (fun _ => rfl) _, du (e := XIndexDef.e) (z := 2) (fun _ => rfl) _, by rw [List.length_map]; have := h_unique.1; omega⟩
 have hf0 := F0.flat
 have hw0 := F0.wid
 have m0 := eI (m := (x.unique.map XIndexDef.e).length) (z := 32) (by have := F0.len; omega) (by omega)
 generalize (x.unique.map XIndexDef.e) = R0 at F0 hf0 hw0 m0 ⊢
 have e1 : ∀ k (hk : k < x.stores.length), _ := fun k hk => oC hB (h_stores.2 _ (List.getElem_mem hk))
 have hl : x.stores.length ≤ 1048576 := Nat.le_trans h_stores.1 hB
 refine ab (fn := pt) rfl ?_
 simp [pt, hf0, hw0, m0]
 refine cI aQ Cl.fin x.stores.length [.f,.t,.t,.t,.t,.f,.f,.f,.f,.f,.f,.f,.f,.f,.f,.f,.f,.f,.f,.f,.f,.f,.f,.f,.f,.f,.f,.f,.f,.f,.f,.f,.f] (fun k => [(4, aa .i64 k)]) (iw (.box [.pv (.str x.name), .pv (.int .i64 x.version), .pv (.lst (x.stores.map XStore.e)), .pv (.lst R0)]) (.box [.pv (.str []), .pv (.int .i64 0), .nil, .nil]) x.name x.version R0 (x.stores.map XStore.e)) rfl ?_ ?_ ?_
 ·exact Kn.q [0, 1, 2, 3] (by simp [iw, aO, aM, aN, dL, bn, aL, bd, aD, dh, bD, bh, bR, L.ren, aP])
 ·intro k hk
  have ek := e1 k hk
  have hx := XStore.e.eq_1 x.stores[k]
  have ht := bT (e := XStore.e) hk
  rw [hx] at ht
  have N0 := ez 4 (x.stores[k].items.map XItem.e)
  generalize nd 4 (x.stores[k].items.map XItem.e) = n0 at N0 ek
  cases k with
  | zero =>
   simp only [iw, ht]
   rcases N0 with ⟨q0, rfl⟩ | ⟨q0, rfl⟩
   ·simp only [q0] at ek
    simp [eG, hk, hx, ek, bU, q0]
    exact Kn.q [0, 1, 2, 3, 5]
   ·simp [eG, hk, hx, ek, bU]
    exact Kn.q [0, 1, 2, 3, 6]
  | succ k =>
   obtain ⟨i1, i2, i3, i4, i5, i6⟩ := mz (n := x.stores.length) (by unfold maxLen; omega) hk
   have b1 : min (k + 1) x.stores.length = k + 1 := by omega
   have m1 := eI (m := k + 1 + 1) (z := 48) (by omega) (by omega)
   simp only [iw, ht]
   generalize hT : List.take (k + 1) _ = T
   have hTl : T.length = k + 1 := by rw [← hT]; simp; omega
   rcases N0 with ⟨q0, rfl⟩ | ⟨q0, rfl⟩
   ·simp only [q0] at ek
    simp [eG, hk, hx, ek, i1, i2, i3, i4, i5, i6, hTl, m1, q0]
    exact Kn.q [0, 1, 2, 3, 6]
   ·simp [eG, hk, hx, ek, i1, i2, i3, i4, i5, i6, hTl, m1]
    exact Kn.q [0, 1, 2, 3, 7]
 ·cases hq : x.stores with
  | nil => simp [eG, iw, nd]
  | cons q qs =>
   have hT : (x.stores.map XStore.e).take (qs.length + 1) = x.stores.map XStore.e := List.take_of_length_le (by rw [hq]; simp)
   rw [hq] at hT
   simp only [List.length_cons, iw, hT]
   simp [eG, nd]
end Gi
namespace Gi
open Go Go.RowKit
set_option maxHeartbeats 8000000
set_option maxRecDepth 4000
attribute [local simp] bt sJ bf bW dV fU dU fT fZ fY uF uO uG uP uH uQ uI uR uJ uS uK uT uL uU uM uV uN uW V.cells plain bm f4 isInt isStr isBool bin cT jJ cU jK fV un asList L.view am V.view viewL aR au cX cd bO comp aJ br dv cq bH bF bG bN bi cu aW bJ aP aX bL cy bK bI bM V.flat L.flat dF di bz putAt thaw thawL thawT V.ow fX dX dY cV fW cW dW freezeVs freezeLs freezeL V.mut L.mut aI fi iV aL bd aD dh bD bh bR L.ren aT dG cf dK bS bB wp_seq wp_block bE ed cY ce cZ wp_skip wp_exit wp_ret cK cJ cP cL df dg de cj aV L.notArr aO aM aN dZ bn storeD ba fK bq cB be ny L.mov L.closed V.closed PV.bare PV.flat
theorem NJ {call : Nat → List V → Option V} {Q : Ex → St → Prop} {ks : List Fr} (hc : kH call) (hQ : Cl Q) {c : ACode} {t : List V} {h : List AObj} {α : Type} (m : List Mk) (U : α → List (Nat × V)) (H : α → List AObj) (next : α → Option α) (μ : α → Nat) (I : α → Prop) (a0 : α) (i0 : I a0) (hz : (c.zOk && kz ks) = true) (kn : Kn ⟨fh (cM m t) (U a0), H a0⟩ ⟨t, h⟩)
 (st : ∀ a b, I a → next a = some b → μ b < μ a ∧ I b ∧ wp call (fun e τ => e = .normal ∧ Kn ⟨fh (cM m t) (U b), H b⟩ τ) [] (ai call aq c ⟨fh (cM m t) (U a), H a⟩))
 (en : ∀ a, I a → next a = none → wp call Q (.sq ly :: ks) (ai call aq c ⟨fh (cM m t) (U a), H a⟩)) : wp call Q ks (ai call aq (.loop c) ⟨t, h⟩) := by
 have key : ∀ n a, μ a ≤ n → I a → wp call Q ks (ai call aq (.loop c) ⟨fh (cM m t) (U a), H a⟩) := by
  intro n
  induction n with
  | zero =>
   intro a hn ia
   cases q : next a with
   | none => exact pQ (en a ia q)
   | some b => have := (st a b ia q).1; omega
  | succ n ih =>
   intro a hn ia
   cases q : next a with
   | none => exact pQ (en a ia q)
   | some b =>
    obtain ⟨h1, h2, h3⟩ := st a b ia q
    exact yk hc hQ hz h3 (ih b (by omega) h2)
 have hz' : kz (.sq (.loop c) :: ks) = true := by simpa only [kz, ACode.zOk] using hz
 exact GA hc hQ ⟨fh (cM m t) (U a0), H a0⟩ hz' kn (key _ a0 (Nat.le_refl _) i0)
theorem Gy {n : Nat} (h : n < 256) : IntKind.u8.wrap (n : Int) = (n : Int) ∧ (UInt8.ofNat n).toNat = n := by
 refine ⟨?_, by simp; omega⟩
 simp [IntKind.wrap, IntKind.signed, IntKind.bits]
 omega
theorem OX {n : Nat} (h : n < 4611686018427387904) : IntKind.i64.wrap ((BitVec.ofInt IntKind.i64.bits (n : Int) &&& BitVec.ofInt IntKind.i64.bits 127).toNat : Int) = ((n % 128 : Nat) : Int) := by
 have e1 : (BitVec.ofInt IntKind.i64.bits (n : Int)).toNat = n := by
  show (BitVec.ofInt 64 (n : Int)).toNat = n
  simp [BitVec.toNat_ofInt]; omega
 have e2 : (BitVec.ofInt IntKind.i64.bits 127).toNat = 127 := by decide
 rw [BitVec.toNat_and, e1, e2, show (127 : Nat) = 2 ^ 7 - 1 from rfl, Nat.and_two_pow_sub_one_eq_mod]
 rw [IntKind.wrap_i64]; omega
theorem PX {n : Nat} (h : n < 128) : IntKind.i64.wrap ((BitVec.ofInt IntKind.i64.bits (n : Int) ||| BitVec.ofInt IntKind.i64.bits 128).toNat : Int) = ((n + 128 : Nat) : Int) := by
 have e1 : (BitVec.ofInt IntKind.i64.bits (n : Int)).toNat = n := by
  show (BitVec.ofInt 64 (n : Int)).toNat = n
  simp [BitVec.toNat_ofInt]; omega
 have e2 : (BitVec.ofInt IntKind.i64.bits 128).toNat = 128 := by decide
 have e3 := Nat.two_pow_add_eq_or_of_lt (i := 7) (b := n) (by omega) 1
 rw [BitVec.toNat_or, e1, e2, Nat.or_comm, show (128 : Nat) = 2 ^ 7 * 1 from rfl, ← e3]
 rw [IntKind.wrap_i64]; omega
theorem jo (s : List UInt8) (x : UInt8) : ak (s ++ [x]) = ak s ++ [[.int .u8 x.toNat]] := by simp [ak]
def yF (a : Nat × Nat × List UInt8) : Option (Nat × Nat × List UInt8) := if a.2.1 < 128 then none else match a.1 with
 | 0 => none
 | f + 1 => some (f, a.2.1 / 128, a.2.2 ++ [UInt8.ofNat (a.2.1 % 128 + 128)])
def P2 (b T : List UInt8) (a : Nat × Nat × List UInt8) : Prop := a.2.1 < 128 ^ (a.1 + 1) ∧ a.2.2 ++ Mg (a.1 + 1) a.2.1 = T ∧ a.2.2.length + a.1 ≤ b.length + 5 ∧ a.2.1 ≤ 1000000000000
theorem Iy {b T : List UInt8} {f m : Nat} {o : List UInt8} {a' : Nat × Nat × List UInt8} (ia : P2 b T (f, m, o)) (h : yF (f, m, o) = some a') : 128 ≤ m ∧ P2 b T a' ∧ (a' : Nat × Nat × List UInt8) = (f - 1, m / 128, o ++ [UInt8.ofNat (m % 128 + 128)]) := by
 obtain ⟨h1, h2, h3, h4⟩ := ia
 unfold yF at h
 simp only at h h1 h2 h3 h4
 split at h
 ·cases h
 ·rename_i hm
  cases f with
  | zero => cases h
  | succ f =>
   cases h
   refine ⟨by omega, ⟨?_, ?_, by simp; omega, by simp only; omega⟩, rfl⟩
   ·show m / 128 < 128 ^ (f + 1)
    rw [Nat.div_lt_iff_lt_mul (by decide), ← Nat.pow_succ]; exact h1
   ·rw [← h2]
    show (o ++ [UInt8.ofNat (m % 128 + 128)]) ++ Mg (f + 1) (m / 128) = o ++ Mg (f + 1 + 1) m
    rw [show Mg (f + 1 + 1) m = UInt8.ofNat (m % 128 + 128) :: Mg (f + 1) (m / 128) by rw [Mg, if_neg hm]]
    simp
theorem KB {b T : List UInt8} {f m : Nat} {o : List UInt8} (ia : P2 b T (f, m, o)) (h : yF (f, m, o) = none) : m < 128 ∧ o ++ [UInt8.ofNat m] = T := by
 obtain ⟨h1, h2, _⟩ := ia
 unfold yF at h
 simp only at h h1 h2
 split at h
 ·rename_i hm
  exact ⟨hm, by rw [← h2, Mg, if_pos hm]⟩
 ·rename_i hm
  cases f with
  | zero => simp at h1; omega
  | succ f => cases h
theorem iF {b : List UInt8} (hb : b.length ≤ 1048000) {n : Nat} (hn : n ≤ 1000000000000) : ae Ph aF 247 [bu (ak b), aa .i64 (n : Int)] = some (.one (.own 1 (ak (b ++ p8 n)))) := by
 have e1 : rg (n : Int) 0 1000000000000 = true := CE.2 ⟨by omega, by omega⟩
 have e2 := aY (n : Int) 0 1000000000000
 rw [e1] at e2
 have e3 := lh (R := ak b) ⟨n7 b, iy b, by rw [bo]; omega⟩
 refine ab (fn := iY) rfl ?_
 simp (maxSteps := 9999999) [iY, e2, e3]
 refine NJ aQ Cl.fin [.f,.t,.f,.f,.f,.t,.f,.f,.f,.f,.f,.f,.f,.f,.f,.f,.f,.f,.f,.f,.f,.f,.f,.f,.f,.f,.f,.f] (fun a => [(1, aa .i64 (a.2.1 : Nat)), (5, .one (.arr 0))]) (fun a => [.arr 1 (ak a.2.2)]) yF (fun a => a.2.1) (P2 b (b ++ p8 n)) (5, n, b) ⟨by show n < 128 ^ 6; omega, rfl, by simp, hn⟩ rfl (by simp) (fun a a' ia ha => ?_) (fun a ia ha => ?_)
 ·obtain ⟨f, m, o⟩ := a
  obtain ⟨hm, hi, rfl⟩ := Iy ia ha
  obtain ⟨_, _, hl, hmx⟩ := ia
  simp only at hl hmx
  have hlt : dE (m : Int) 128 = false := wg (by omega)
  have hlt2 : dE 127 (m : Int) = true := lG (by omega)
  have q := Gy (n := m % 128 + 128) (by omega)
  have m1 : o.length ≤ 140737488355327 ∧ o.length ≤ 9223372036854775806 := by omega
  have m2 := eI (m := o.length + 1) (z := 1) (by omega) (by omega)
  have r1 : (m : Int).tmod 128 = (m : Int) % 128 := Int.tmod_eq_emod_of_nonneg (by omega)
  have r2 : (m : Int).tdiv 128 = (m : Int) / 128 := Int.tdiv_eq_ediv_of_nonneg (by omega)
  have r3 : IntKind.i64.wrap ((m : Int) % 128 + 128) = (m : Int) % 128 + 128 := by rw [IntKind.wrap_i64]; omega
  have r4 : IntKind.i64.wrap ((m : Int) / 128) = (m : Int) / 128 := by rw [IntKind.wrap_i64]; omega
  have r5 : IntKind.u8.wrap ((m : Int) % 128 + 128) = (m : Int) % 128 + 128 := by have := q.1; simpa using this
  have r6 : ((m : Int) % 128 + 128) % 256 = (m : Int) % 128 + 128 := by omega
  refine ⟨by show m / 128 < m; omega, hi, ?_⟩
  simp (maxSteps := 9999999) [fC, hlt, hlt2, r1, r2, r3, r4, r5, m1, m2, jo, bo, -fi]
  exact Kn.of [2] (by decide) (by simp [jo, r5, r6]) (by simp [r4])
 ·obtain ⟨f, m, o⟩ := a
  obtain ⟨hm, hi⟩ := KB ia ha
  obtain ⟨_, _, hl, hmx⟩ := ia
  simp only at hl hmx
  have hlt : dE (m : Int) 128 = true := lG (by omega)
  have hlt2 : dE 127 (m : Int) = false := wg (by omega)
  have q := Gy (n := m) (by omega)
  have m1 : o.length ≤ 140737488355327 ∧ o.length ≤ 9223372036854775806 := by omega
  have m2 := eI (m := o.length + 1) (z := 1) (by omega) (by omega)
  rw [← hi]
  simp (maxSteps := 9999999) [fC, hlt, hlt2, q, m1, m2, jo, bo]
end Gi
