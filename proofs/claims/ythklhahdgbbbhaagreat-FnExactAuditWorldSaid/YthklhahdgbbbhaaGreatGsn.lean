/- Of this proof. -/
import Derived.Test.YthklhahdgbbbhaaGreatGsm
namespace Gi
open Go
def JR : L → Bool
 | .pv _ => true
 | .nil => true
 | _ => false
def AOp.zOk : AOp → Bool
 | .alloc z => z.all JR
 | .build z _ => z.all JR
 | _ => true
def ACode.zOk : ACode → Bool
 | .region ops => ops.all fun o => o.op.zOk
 | .seq a b => a.zOk && b.zOk
 | .cond _ a b => a.zOk && b.zOk
 | .block _ c => c.zOk
 | .loop c => c.zOk
 | _ => true
def nS (call : Nat → List V → Option V) : Prop := ∀ k xz r, call k xz = some r → r.clean = true
section
variable {f : List Nat} {h h' : List AObj} {σ τ : St} {call : Nat → List V → Option V}
theorem FF : ∀ {ls : List L}, ls.all JR = true → br f ls ls
 | [], _ => trivial
 | l :: ls, hc => by
  simp only [List.all_cons, Bool.and_eq_true] at hc
  refine ⟨.inr ?_, FF hc.2⟩
  cases l with
  | pv p => rfl
  | nil => rfl
  | _ => exact absurd hc.1 (by simp [JR])
theorem KS {l l' : L} (e : l.ren f = some l') : plain l' = plain l := by
 cases l with
 | ptr o i j => obtain ⟨o', _, rfl⟩ := kM e; rfl
 | arr o => obtain ⟨o', _, rfl⟩ := jF e; rfl
 | mp o => obtain ⟨o', _, rfl⟩ := sk e; rfl
 | _ => simp only [L.ren] at e; cases e; rfl
theorem br.plain : ∀ {ls ls' : List L}, br f ls ls' → ls.all Gi.plain = true → ls'.all Gi.plain = true
 | [], [], _, _ => rfl
 | l :: ls, l' :: ls', r, e => by
  simp only [List.all_cons, Bool.and_eq_true] at e ⊢
  refine ⟨?_, br.plain r.2 e.2⟩
  rcases r.1 with q | q
  ·subst q; exact absurd e.1 (by simp [Gi.plain])
  ·rw [KS q]; exact e.1
 | [], _ :: _, e, _ => e.elim
 | _ :: _, [], e, _ => e.elim
theorem ca.plain {v v' : V} (r : ca f v v') (e : v.cells.all Gi.plain = true) : br f v.cells v'.cells ∧ v'.cells.all Gi.plain = true := by
 cases v with
 | one l =>
  rcases r with q | ⟨l', rfl, r⟩
  ·subst q; exact absurd e (by simp [V.cells, Gi.plain])
  ·have : br f [l] [l'] := ⟨.inr r, trivial⟩
   exact ⟨this, this.plain e⟩
 | agg ls => obtain ⟨ls', rfl, r⟩ := r; exact ⟨r, r.plain e⟩
 | tup xs => exact absurd e (by simp [V.cells, Gi.plain])
theorem ca.viewL (k : HRel f h h') {v v' : V} {ps : List PV} (r : ca f v v') (e : Gi.viewL h v.cells = some ps) : iA f v.cells v'.cells ∧ Gi.viewL h' v'.cells = some ps := by
 cases v with
 | one l =>
  rcases r with rfl | ⟨l', rfl, r1⟩
  ·cases e
  ·obtain ⟨a1, a2, _⟩ := (show br f [l] [l'] from ⟨.inr r1, trivial⟩).view k e
   exact ⟨a1, a2⟩
 | agg ls =>
  obtain ⟨ls', rfl, r1⟩ := r
  obtain ⟨a1, a2, _⟩ := r1.view k e
  exact ⟨a1, a2⟩
 | tup xs => cases e
theorem iA.length {ls ls' : List L} (r : iA f ls ls') : ls.length = ls'.length := r.rel.length
theorem iA.notArr (k : HRel f h h') {o o' : Nat} (ho : f[o]? = some o') : ∀ {ls ls' : List L}, iA f ls ls' → ls.all (L.notArr o) = true → ls'.all (L.notArr o') = true
 | [], [], _, _ => rfl
 | l :: ls, l' :: ls', r, e => by
  simp only [List.all_cons, Bool.and_eq_true] at e ⊢
  refine ⟨?_, iA.notArr k ho r.2 e.2⟩
  have r1 := r.1
  cases l with
  | arr p =>
   obtain ⟨p', h1, rfl⟩ := jF r1
   have e1 := e.1
   simp only [L.notArr, Bool.not_eq_true', beq_eq_false_iff_ne] at e1 ⊢
   intro q
   subst q
   exact e1 (k.inj h1 ho)
  | ptr p i j => obtain ⟨p', h1, rfl⟩ := kM r1; rfl
  | mp p => obtain ⟨p', h1, rfl⟩ := sk r1; rfl
  | _ => simp only [L.ren] at r1; cases r1; rfl
 | [], _ :: _, e, _ => e.elim
 | _ :: _, [], e, _ => e.elim
theorem oT (s : Cln f σ τ) {d n : Int} {o : Option Opd} (e : bA σ d o = some n) : bA τ d o = some n := by
 cases o with
 | none => exact e
 | some x =>
  simp only [bA] at e ⊢
  split at e
  ·rename_i k m h1
   cases e
   rw [(s.ev x).isInt h1]
  ·cases e
theorem Ei (s : Cln f σ τ) : ∀ {ps : List (Nat × Nat × Opd)} {cs cs' ds : List L}, br f cs cs' → bB cs (ps.map fun x => (x.1, x.2.1, x.2.2.ev σ)) = some ds → ∃ ds', bB cs' (ps.map fun x => (x.1, x.2.1, x.2.2.ev τ)) = some ds' ∧ br f ds ds'
 | [], cs, cs', ds, r, e => by simp only [List.map_nil, bB] at e ⊢; cases e; exact ⟨_, rfl, r⟩
 | (off, n, x) :: ps, cs, cs', ds, r, e => by
  simp only [List.map_cons, bB] at e ⊢
  split at e
  ·rename_i h1
   obtain ⟨a1, a2⟩ := (s.ev x).plain h1.2.2
   rw [if_pos ⟨a1.length ▸ h1.1, by rw [← r.length]; exact h1.2.1, a2⟩]
   exact Ei s (r.putAt off a1) e
  ·cases e
theorem vp : ∀ {ls ls' : List L} {e : List PV}, br f ls ls' → bw ls = some e → bw ls' = some e
 | [], [], e, _, h => h
 | l :: ls, l' :: ls', e, r, h => by
  cases l with
  | pv p =>
   simp only [bw] at h
   split at h
   ·rename_i ps h1
    have r1 := r.1
    rcases r1 with q | q
    ·cases q
    ·simp only [L.ren] at q
     cases q
     simp only [bw, vp r.2 h1]
     exact h
   ·cases h
  | _ => cases h
 | [], _ :: _, _, r, _ => r.elim
 | _ :: _, [], _, r, _ => r.elim
theorem Ey (s : Cln f σ τ) : ∀ (ps : List Opd) {es : List (List PV)}, cd (ps.map (Opd.ev σ)) = some es → cd (ps.map (Opd.ev τ)) = some es
 | [], es, h => h
 | x :: ps, es, h => by
  simp only [List.map_cons, cd] at h ⊢
  split at h
  ·rename_i e es' h1 h2
   cases h
   have r := s.ev x
   have hx : bw (x.ev τ).cells = some e := by
    cases hv : x.ev σ with
    | one l =>
     rw [hv] at h1 r
     rcases r with q | ⟨l', h3, r⟩
     ·subst q; cases h1
     ·rw [h3]
      exact vp (show br f [l] [l'] from ⟨.inr r, trivial⟩) h1
    | agg ls =>
     rw [hv] at h1 r
     obtain ⟨ls', h3, r⟩ := r
     rw [h3]
     exact vp r h1
    | tup xs => rw [hv] at h1; cases h1
   rw [hx, Ey s ps h2]
  ·cases h
theorem Es (s : Cln f σ τ) {a : Opd} (hq : bG σ.h (a.ev σ) = true) : bG τ.h (a.ev τ) = true := by
 have r := s.ev a
 unfold bG at hq
 split at hq
 ·rename_i o i j h1
  rw [h1] at r
  rcases r with q | ⟨l', h2, r⟩
  ·cases q
  obtain ⟨o', h3, rfl⟩ := kM r
  rw [h2]
  obtain ⟨ob, ob', h4, h5, h6⟩ := s.heap.get h3
  rw [h4] at hq
  simp only [bG, h5]
  cases ob with
  | box cs => obtain ⟨cs', rfl, _⟩ := h6; rfl
  | fbox ps => rw [cr h6 (by simp) (by simp)]
  | _ => cases hq
 ·rename_i e' j' h1
  rw [h1] at r
  rcases r with q | ⟨l', h2, r⟩
  ·cases q
  ·simp only [L.ren] at r
   cases r
   rw [h2]; rfl
 ·cases hq
theorem tz (s : Cln f σ τ) {g : Bool} {n : Nat} {a : Opd} {v : V} (e : bz σ.h g n (a.ev σ) = some v) : ∃ v', cF call τ (.load g n a) = some v' ∧ ca f v v' := by
 simp only [cF]
 unfold bz at e ⊢
 have r := s.ev a
 split at e
 ·rename_i o i j h1
  rw [h1] at r
  rcases r with q | ⟨l', h2, r⟩
  ·cases q
  obtain ⟨o', h3, rfl⟩ := kM r
  rw [h2]
  obtain ⟨ob, ob', h4, h5, h6⟩ := s.heap.get h3
  simp only [h4] at e
  simp only [h5]
  cases ob with
  | box cs =>
   obtain ⟨cs', rfl, h6⟩ := h6
   simp only at e ⊢
   split at e
   ·rename_i hi
    rw [if_pos hi]
    exact ue h6 e
   ·cases e
  | arr z es =>
   rw [cr h6 (by simp) (by simp)]
   simp only at e ⊢
   split at e
   ·rename_i e0 he
    exact ue (tU e0) e
   ·cases e
  | froz z es =>
   rw [cr h6 (by simp) (by simp)]
   simp only at e ⊢
   split at e
   ·rename_i e0 he
    exact ue (tU e0) e
   ·cases e
  | fbox ps =>
   rw [cr h6 (by simp) (by simp)]
   simp only at e ⊢
   split at e
   ·rename_i hi
    rw [if_pos hi]
    exact ue (tU ps) e
   ·cases e
  | _ => cases e
 ·rename_i e0 j h1
  rw [h1] at r
  rcases r with q | ⟨l', h2, r⟩
  ·cases q
  simp only [L.ren] at r
  cases r
  rw [h2]
  exact ue (tU e0) e
 ·cases e
theorem Jn (s : Cln f σ τ) (hc : nS call) {op : AOp} {v : V} (hz : op.zOk = true) (e : cF call σ op = some v) : ∃ v', cF call τ op = some v' ∧ ca f v v' := by
 cases op with
 | mv x => simp only [cF] at e ⊢; cases e; exact ⟨_, rfl, s.ev x⟩
 | pick c a b =>
  simp only [cF] at e ⊢
  split at e
  ·rename_i t h1
   rw [(s.ev c).isBool h1]
   cases e
   refine ⟨_, rfl, ?_⟩
   cases t
   ·exact s.ev b
   ·exact s.ev a
  ·cases e
 | load g n a => exact tz s e
 | build zero parts =>
  simp only [cF] at e ⊢
  split at e
  ·rename_i cs h1
   cases e
   obtain ⟨ds', h2, h3⟩ := Ei s (FF hz) h1
   rw [h2]
   exact ⟨_, rfl, _, rfl, h3⟩
  ·cases e
 | bin op x y =>
  simp only [cF] at e ⊢
  obtain ⟨p, q, r, h1, h2, rfl⟩ := Ot e
  have r1 := s.ev x
  have r2 := s.ev y
  rw [h1] at r1 e
  rw [h2] at r2 e
  rw [lw r1, lw r2]
  exact ⟨_, e, ca.pv r⟩
 | eqB neg x y =>
  simp only [cF] at e ⊢
  split at e
  ·rename_i a b h1 h2
   cases e
   rw [(s.ev x).isBool h1, (s.ev y).isBool h2]
   exact ⟨_, rfl, ca.pv _⟩
  ·cases e
 | un op x =>
  simp only [cF] at e ⊢
  obtain ⟨p, r, h1, rfl⟩ := Pw e
  have r1 := s.ev x
  rw [h1] at r1 e
  rw [lw r1]
  exact ⟨_, e, ca.pv r⟩
 | conv k x =>
  simp only [cF] at e ⊢
  split at e
  ·rename_i k' n h1
   cases e
   rw [(s.ev x).isInt h1]
   exact ⟨_, rfl, ca.pv _⟩
  ·cases e
 | b2s x =>
  simp only [cF] at e ⊢
  split at e
  ·rename_i es h1
   rw [((s.ev x).asList s.heap h1).1]
   simp only
   split at e
   ·rename_i t h2
    cases e
    exact ⟨_, rfl, ca.pv _⟩
   ·cases e
  ·cases e
 | slcS x lo hi =>
  simp only [cF] at e ⊢
  split at e
  ·rename_i t h1
   rw [(s.ev x).isStr h1]
   simp only
   split at e
   ·rename_i l r h2 h3
    rw [oT s h2, oT s h3]
    simp only
    split at e
    ·rename_i h4
     cases e
     rw [if_pos h4]
     exact ⟨_, rfl, ca.pv _⟩
    ·cases e
   ·cases e
  ·cases e
 | fieldA x off =>
  simp only [cF] at e ⊢
  have r := s.ev x
  split at e
  ·rename_i o i j h1
   rw [h1] at r
   rcases r with q | ⟨l', h2, r⟩
   ·cases q
   obtain ⟨o', h3, rfl⟩ := kM r
   rw [h2]
   cases e
   exact ⟨_, rfl, .inr ⟨_, rfl, by simp only [L.ren, h3]⟩⟩
  ·rename_i e0 j h1
   rw [h1] at r
   rcases r with q | ⟨l', h2, r⟩
   ·cases q
   simp only [L.ren] at r
   cases r
   rw [h2]
   cases e
   exact ⟨_, rfl, .inr ⟨_, rfl, rfl⟩⟩
  ·cases e
 | field x g off n =>
  simp only [cF] at e ⊢
  have r := s.ev x
  split at e
  ·rename_i ls h1
   rw [h1] at r
   obtain ⟨ls', h2, r⟩ := r
   rw [h2]
   exact ue r e
  ·cases e
 | indexA z x i =>
  simp only [cF] at e ⊢
  split at e
  ·rename_i k n h1
   rw [(s.ev i).isInt h1]
   simp only
   split at e
   ·rename_i hn
    rw [if_pos hn]
    have r := s.ev x
    unfold bm at e ⊢
    split at e
    ·rename_i o h2
     rw [h2] at r
     rcases r with q | ⟨l', h3, r⟩
     ·cases q
     obtain ⟨o', h4, rfl⟩ := jF r
     rw [h3]
     obtain ⟨ob, ob', h5, h6, h7⟩ := s.heap.get h4
     simp only [h5] at e
     simp only [h6]
     cases ob with
     | arr z' es =>
      rw [cr h7 (by simp) (by simp)]
      simp only at e ⊢
      split at e
      ·rename_i h8
       cases e
       rw [if_pos h8]
       exact ⟨_, rfl, .inr ⟨_, rfl, by simp only [L.ren, h4]⟩⟩
      ·cases e
     | froz z' es =>
      rw [cr h7 (by simp) (by simp)]
      simp only at e ⊢
      split at e
      ·rename_i h8
       cases e
       rw [if_pos h8]
       exact ⟨_, rfl, .inr ⟨_, rfl, by simp only [L.ren, h4]⟩⟩
      ·cases e
     | _ => cases e
    ·rename_i es h2
     rw [h2] at r
     rw [lw r]
     simp only
     split at e
     ·rename_i e0 h3
      split at e
      ·rename_i h4
       cases e
       rw [if_pos h4]
       exact ⟨_, rfl, .inr ⟨_, rfl, rfl⟩⟩
      ·cases e
     ·cases e
    ·cases e
   ·cases e
  ·cases e
 | indexS x i =>
  simp only [cF] at e ⊢
  split at e
  ·rename_i t k n h1 h2
   rw [(s.ev x).isStr h1, (s.ev i).isInt h2]
   simp only
   split at e
   ·rename_i hn
    rw [if_pos hn]
    split at e
    ·rename_i b h3
     cases e
     exact ⟨_, rfl, ca.pv _⟩
    ·cases e
   ·cases e
  ·cases e
 | extract x i =>
  simp only [cF] at e ⊢
  have r := s.ev x
  split at e
  ·rename_i vs h1
   rw [h1] at r
   obtain ⟨ys, h2, r⟩ := r
   rw [h2]
   simp only
   have key : ∀ {xs ys : List (Bool × List L)} {i : Nat} {x : Bool × List L}, co f xs ys → xs[i]? = some x → ∃ y, ys[i]? = some y ∧ x.1 = y.1 ∧ br f x.2 y.2 := fun {xs} => by
    induction xs with
    | nil => intro ys i x _ h; simp at h
    | cons a xs ih =>
     intro ys i x r h
     cases ys with
     | nil => exact r.elim
     | cons b ys =>
      cases i with
      | zero => simp at h; subst h; exact ⟨b, rfl, r.1, r.2.1⟩
      | succ i => simpa using ih (i := i) r.2.2 (by simpa using h)
   split at e
   ·rename_i ls h3
    cases e
    obtain ⟨⟨b, ls'⟩, h4, h5, h6⟩ := key r h3
    simp only at h5 h6
    subst h5
    rw [h4]
    exact ⟨_, rfl, _, rfl, h6⟩
   ·rename_i l h3
    cases e
    obtain ⟨⟨b, ls'⟩, h4, h5, h6⟩ := key r h3
    simp only at h5 h6
    subst h5
    cases ls' with
    | nil => exact h6.elim
    | cons l' ls' =>
     cases ls' with
     | nil => rw [h4]; exact ⟨_, rfl, ca.one h6.1⟩
     | cons _ _ => exact h6.2.elim
   ·cases e
  ·cases e
 | len x =>
  simp only [cF] at e ⊢
  split at e
  ·rename_i es h1
   cases e
   rw [((s.ev x).asList s.heap h1).1]
   exact ⟨_, rfl, ca.pv _⟩
  ·cases e
 | lenS x =>
  simp only [cF] at e ⊢
  split at e
  ·rename_i t h1
   cases e
   rw [(s.ev x).isStr h1]
   exact ⟨_, rfl, ca.pv _⟩
  ·cases e
 | call k args fl fz =>
  simp only [cF] at e ⊢
  split at e
  ·rename_i h0
   rw [if_pos h0]
   split at e
   ·rename_i h1
    split at e
    ·rename_i xz h2
     obtain ⟨a1, a2, a3⟩ := (bL.ev s args).view s.heap h2
     rw [← a3, if_pos h1, a2]
     simp only
     split at e
     ·rename_i r h3
      split at e
      ·cases e
      ·rename_i h4
       cases e
       rw [if_neg h4]
       exact ⟨_, rfl, CE (hc _ _ _ h3)⟩
     ·cases e
    ·cases e
   ·cases e
  ·cases e
 | mm isMax x y =>
  simp only [cF] at e ⊢
  split at e
  ·rename_i k a k' b h1 h2
   rw [(s.ev x).isInt h1, (s.ev y).isInt h2]
   simp only
   split at e
   ·rename_i hk
    cases e
    rw [if_pos hk]
    exact ⟨_, rfl, ca.pv _⟩
   ·cases e
  ·cases e
 | callV x args =>
  simp only [cF] at e ⊢
  have r := s.ev x
  split at e
  ·rename_i k caps h1
   rw [h1] at r
   rcases r with q | ⟨l', h2, r⟩
   ·cases q
   simp only [L.ren] at r
   cases r
   rw [h2]
   simp only
   split at e
   ·rename_i xz h3
    rw [((bL.ev s args).view s.heap h3).2.1]
    simp only
    split at e
    ·rename_i r h4
     split at e
     ·rename_i h5
      cases e
      rw [if_pos h5]
      exact ⟨_, rfl, CE (hc _ _ _ h4)⟩
     ·cases e
    ·cases e
   ·cases e
  ·cases e
 | loadB g n a =>
  simp only [cF] at e ⊢
  split at e
  ·rename_i hq
   have hq' : bG τ.h (a.ev τ) = true := Es s hq
   rw [if_pos hq']
   have key : ∃ v', cF call τ (.load g n a) = some v' ∧ ca f v v' := tz s e
   exact key
  ·cases e
 | loadA g n a =>
  simp only [cF] at e ⊢
  split at e
  ·cases e
  ·rename_i hq
   have hq' : ¬ bG τ.h (a.ev τ) = true := by
    intro hq2
    have r := s.ev a
    unfold bz at e
    unfold bG at hq
    split at e
    ·rename_i o i j h1
     rw [h1] at r hq
     rcases r with q | ⟨l', h2, r⟩
     ·cases q
     obtain ⟨o', h3, rfl⟩ := kM r
     rw [h2] at hq2
     obtain ⟨ob, ob', h4, h5, h6⟩ := s.heap.get h3
     rw [h4] at e
     simp only [h4] at hq
     simp only [bG, h5] at hq2
     cases ob with
     | box cs => exact hq rfl
     | fbox ps => exact hq rfl
     | arr z es => rw [cr h6 (by simp) (by simp)] at hq2; cases hq2
     | froz z es => rw [cr h6 (by simp) (by simp)] at hq2; cases hq2
     | _ => cases e
    ·rename_i e' j' h1
     rw [h1] at hq
     exact hq rfl
    ·cases e
   rw [if_neg hq']
   have key : ∃ v', cF call τ (.load g n a) = some v' ∧ ca f v v' := tz s e
   exact key
 | slcF z x lo hi =>
  simp only [cF] at e ⊢
  split at e
  ·rename_i es h1
   have r := s.ev x
   rw [h1] at r
   rw [lw r]
   simp only
   split at e
   ·rename_i l r h2 h3
    rw [oT s h2, oT s h3]
    simp only
    split at e
    ·rename_i h5
     cases e
     rw [if_pos h5]
     exact ⟨_, rfl, ca.pv _⟩
    ·cases e
   ·cases e
  ·cases e
 | buildF z ps =>
  simp only [cF] at e ⊢
  split at e
  ·rename_i es h1
   rw [Ey s ps h1]
   simp only
   split at e
   ·rename_i h5
    cases e
    rw [if_pos h5]
    exact ⟨_, rfl, ca.pv _⟩
   ·cases e
  ·cases e
 | s2b x =>
  simp only [cF] at e ⊢
  split at e
  ·rename_i t h1
   cases e
   rw [(s.ev x).isStr h1]
   exact ⟨_, rfl, ca.pv _⟩
  ·cases e
 | eqS neg ks x y =>
  simp only [cF] at e ⊢
  have r1 := s.ev x
  have r2 := s.ev y
  split at e
  ·rename_i ls ls' h1 h2
   rw [h1] at r1
   rw [h2] at r2
   obtain ⟨ms, h3, r1⟩ := r1
   obtain ⟨ms', h4, r2⟩ := r2
   rw [h3, h4]
   simp only
   split at e
   ·rename_i b h5
    cases e
    rw [GS r1 r2 h5]
    exact ⟨_, rfl, ca.pv _⟩
   ·cases e
  ·cases e
 | mget x k =>
  simp only [cF] at e ⊢
  have r1 := s.ev x
  have r2 := s.ev k
  split at e
  ·rename_i o n h1 h2
   rw [h1] at r1
   rw [h2] at r2
   rcases r1 with q | ⟨l', h3, r1⟩
   ·cases q
   obtain ⟨o', h4, rfl⟩ := sk r1
   rw [h3, lw r2]
   obtain ⟨ob, ob', h5, h6, h7⟩ := s.heap.get h4
   simp only [h5] at e
   simp only [h6]
   cases ob with
   | imap kvs =>
    rw [cr h7 (by simp) (by simp)]
    simp only at e ⊢
    split at e
    ·rename_i h8
     cases e
     rw [if_pos h8]
     exact ⟨_, rfl, ca.pv _⟩
    ·cases e
   | _ => cases e
  ·cases e
 | _ => cases e
theorem HRel.push0 (k : HRel f h h') (ob : AObj) (hb : ∀ cs, ob ≠ .box cs) : HRel (f ++ [h'.length]) (h ++ [ob]) (h' ++ [ob]) := by
 refine k.push ?_
 cases ob with
 | box cs => exact absurd rfl (hb cs)
 | dead => trivial
 | _ => rfl
theorem HRel.new (k : HRel f h h') : (f ++ [h'.length])[h.length]? = some h'.length := by rw [← k.len]; simp
theorem GI (s : Cln f σ τ) (hc : nS call) {op : AOp} {v : V} {h1 : List AObj} (hb : ∀ n a x, op ≠ .storeB n a x) (hz : op.zOk = true) (e : dN call σ op = some (v, h1)) : ∃ v' h1' g, dN call τ op = some (v', h1') ∧ HRel (f ++ g) h1 h1' ∧ ca (f ++ g) v v' := by
 cases op with
 | alloc zero =>
  simp only [dN] at e ⊢
  cases e
  exact ⟨_, _, [τ.h.length], rfl, s.heap.push ⟨zero, rfl, FF hz⟩, .inr ⟨_, rfl, by simp only [L.ren, s.heap.new]⟩⟩
 | box x =>
  simp only [dN] at e ⊢
  split at e
  ·rename_i hp
   cases e
   obtain ⟨a1, a2⟩ := (s.ev x).plain hp
   rw [if_pos a2]
   exact ⟨_, _, [τ.h.length], rfl, s.heap.push ⟨_, rfl, a1.mono⟩, .inr ⟨_, rfl, by simp only [L.ren, s.heap.new]⟩⟩
  ·cases e
 | buildS z parts =>
  simp only [dN] at e ⊢
  split at e
  ·rename_i hp
   split at e
   ·rename_i es he
    cases e
    obtain ⟨a1, a2⟩ := (bL.ev s parts).rows s.heap he
    have hlen : ∀ {vs vs' : List V}, xJ f vs vs' → (vs.all (fun v => v.cells.length == z)) = (vs'.all (fun v => v.cells.length == z)) ∧ vs.length = vs'.length := fun {vs} => by
     induction vs with
     | nil => intro vs' r; cases vs' with
      | nil => exact ⟨rfl, rfl⟩
      | cons _ _ => exact r.elim
     | cons a vs ih => intro vs' r; cases vs' with
      | nil => exact r.elim
      | cons b vs' =>
       obtain ⟨i1, i2⟩ := ih r.2
       refine ⟨by simp only [List.all_cons, r.1.length, i1], by simp [i2]⟩
    obtain ⟨b1, b2⟩ := hlen a1
    rw [b1, b2] at hp
    rw [if_pos hp, a2]
    have k := s.heap.freezeVs a1
    exact ⟨_, _, [_], rfl, k.push0 _ (by simp), .inr ⟨_, rfl, by simp only [L.ren, k.new]⟩⟩
   ·cases e
  ·cases e
 | store n a x =>
  simp only [dN, bS] at e ⊢
  have r := s.ev a
  have rx := s.ev x
  by_cases hn : (x.ev σ).cells.length = n
  ·rw [if_pos hn] at e
   generalize hv : a.ev σ = va at e r
   cases va with
   | one l =>
    cases l with
    | ptr o i j =>
     rcases r with q | ⟨l', h2, r⟩
     ·cases q
     obtain ⟨o', h3, rfl⟩ := kM r
     rw [h2]
     obtain ⟨ob, ob', h4, h5, h6⟩ := s.heap.get h3
     simp only [h4] at e
     simp only [h5]
     cases ob with
     | box cs =>
      obtain ⟨cs', rfl, h6⟩ := h6
      simp only at e ⊢
      split at e
      ·rename_i hh hcs
       split at hcs
       ·rename_i hp
        cases hcs
        cases e
        obtain ⟨a1, a2⟩ := rx.plain hp.2.2
        rw [if_pos (a1.length ▸ hn), if_pos ⟨hp.1, by rw [← h6.length]; exact hp.2.1, a2⟩]
        refine ⟨_, _, [], rfl, ?_, ca.none⟩
        rw [List.append_nil]
        exact s.heap.set h3 ⟨_, rfl, h6.putAt j a1⟩
       ·cases hcs
      ·cases e
     | arr z es =>
      rw [cr h6 (by simp) (by simp)]
      simp only at e ⊢
      cases he : es[i]? with
      | none => simp [he] at e
      | some e0 =>
       cases hps : Gi.viewL σ.h (x.ev σ).cells with
       | none => simp [he, hps] at e
       | some ps =>
        simp only [he, hps] at e
        obtain ⟨a1, a2⟩ := rx.viewL s.heap hps
        split at e
        ·rename_i hh hcs
         split at hcs
         ·rename_i hp
          cases hcs
          cases e
          simp only [a2]
          rw [if_pos (a1.length ▸ hn), if_pos ⟨hp.1, iA.notArr s.heap h3 a1 hp.2⟩]
          refine ⟨_, _, [], rfl, ?_, ca.none⟩
          rw [List.append_nil]
          exact (s.heap.freezeLs a1).set h3 rfl
         ·cases hcs
        ·cases e
     | _ => simp at e
    | _ => simp at e
   | _ => simp at e
  ·rw [if_neg hn] at e
   simp at e
 | make bytes zero n =>
  simp only [dN] at e ⊢
  split at e
  ·rename_i k m h2
   rw [(s.ev n).isInt h2]
   simp only
   split at e
   ·rename_i h3
    cases e
    rw [if_pos h3]
    exact ⟨_, _, [τ.h.length], rfl, s.heap.push0 _ (by simp), .inr ⟨_, rfl, by simp only [L.ren, s.heap.new]⟩⟩
   ·cases e
  ·cases e
 | append z bytes x y =>
  simp only [dN] at e ⊢
  have r := s.ev x
  split at e
  ·rename_i ys h2 h3
   rw [h2] at r
   rcases r with q | ⟨l', h4, r⟩
   ·cases q
   simp only [L.ren] at r
   cases r
   rw [h4, ((s.ev y).asList s.heap h3).1]
   simp only
   split at e
   ·rename_i h5
    cases e
    rw [if_pos h5]
    exact ⟨_, _, [τ.h.length], rfl, s.heap.push0 _ (by simp), .inr ⟨_, rfl, by simp only [L.ren, s.heap.new]⟩⟩
   ·cases e
  ·rename_i o ys h2 h3
   rw [h2] at r
   rcases r with q | ⟨l', h4, r⟩
   ·cases q
   obtain ⟨o', h5, rfl⟩ := jF r
   obtain ⟨a1, a2⟩ := (s.ev y).asList s.heap h3
   rw [h4, a1]
   obtain ⟨ob, ob', h6, h7, h8⟩ := s.heap.get h5
   simp only [h6] at e
   simp only [h7]
   cases ob with
   | arr z' es =>
    rw [cr h8 (by simp) (by simp)]
    simp only at e ⊢
    split at e
    ·rename_i h9
     cases e
     rw [if_pos ⟨h9.1, h9.2.1, h9.2.2.1, h9.2.2.2.1, iA.notArr s.heap h5 a2 h9.2.2.2.2⟩]
     have k := s.heap.set h5 (ob := .dead) (ob' := .dead) trivial
     have k2 := k.push0 (.arr z (es ++ ys)) (by simp)
     simp only [List.length_set] at k2
     have hn := k.new
     simp only [List.length_set] at hn
     exact ⟨_, _, [_], rfl, k2, .inr ⟨_, rfl, by simp only [L.ren, hn]⟩⟩
    ·cases e
   | _ => cases e
  ·cases e
 | appendS bytes x y =>
  simp only [dN] at e ⊢
  have r := s.ev x
  split at e
  ·rename_i t h2 h3
   rw [h2] at r
   rcases r with q | ⟨l', h4, r⟩
   ·cases q
   simp only [L.ren] at r
   cases r
   rw [h4, (s.ev y).isStr h3]
   simp only
   split at e
   ·rename_i h5
    cases e
    rw [if_pos h5]
    exact ⟨_, _, [τ.h.length], rfl, s.heap.push0 _ (by simp), .inr ⟨_, rfl, by simp only [L.ren, s.heap.new]⟩⟩
   ·cases e
  ·rename_i o t h2 h3
   rw [h2] at r
   rcases r with q | ⟨l', h4, r⟩
   ·cases q
   obtain ⟨o', h5, rfl⟩ := jF r
   rw [h4, (s.ev y).isStr h3]
   obtain ⟨ob, ob', h6, h7, h8⟩ := s.heap.get h5
   simp only [h6] at e
   simp only [h7]
   cases ob with
   | arr z' es =>
    rw [cr h8 (by simp) (by simp)]
    simp only at e ⊢
    split at e
    ·rename_i h9
     cases e
     rw [if_pos h9]
     have k := s.heap.set h5 (ob := .dead) (ob' := .dead) trivial
     have k2 := k.push0 (.arr 1 (es ++ aU t)) (by simp)
     simp only [List.length_set] at k2
     have hn := k.new
     simp only [List.length_set] at hn
     exact ⟨_, _, [_], rfl, k2, .inr ⟨_, rfl, by simp only [L.ren, hn]⟩⟩
    ·cases e
   | _ => cases e
  ·cases e
 | slcL z x lo hi =>
  simp only [dN] at e ⊢
  split at e
  ·rename_i es h2
   obtain ⟨a1, a2⟩ := (s.ev x).asList s.heap h2
   rw [a1]
   simp only
   split at e
   ·rename_i l r h3 h4
    rw [oT s h3, oT s h4]
    simp only
    split at e
    ·rename_i h5
     cases e
     rw [if_pos h5]
     refine ⟨_, _, [], rfl, ?_, ca.pv _⟩
     rw [List.append_nil]
     exact s.heap.freezeLs a2
    ·cases e
   ·cases e
  ·cases e
 | callD k args =>
  simp only [dN] at e ⊢
  split at e
  ·rename_i xz h2
   obtain ⟨a1, a2, a3⟩ := (bL.ev s args).view s.heap h2
   rw [a2]
   simp only
   split at e
   ·rename_i r h3
    cases e
    refine ⟨_, _, [], rfl, ?_, CE (hc _ _ _ h3)⟩
    rw [List.append_nil]
    exact s.heap.freezeVs a1
   ·cases e
  ·cases e
 | storeB n a x => exact absurd rfl (hb n a x)
 | allocT n =>
  simp only [dN] at e ⊢
  cases e
  exact ⟨_, _, [τ.h.length], rfl, s.heap.push0 _ (by simp), .inr ⟨_, rfl, rfl⟩⟩
 | storeT n a x =>
  simp only [dN] at e ⊢
  have r := s.ev a
  have rx := s.ev x
  split at e
  ·rename_i m h1
   rw [h1] at r
   rcases r with q | ⟨l', h2, r⟩
   ·cases q
   simp only [L.ren] at r
   cases r
   rw [h2]
   simp only
   split at e
   ·rename_i hp
    cases e
    obtain ⟨a1, a2⟩ := rx.plain hp.2.2
    rw [if_pos ⟨hp.1, a1.length ▸ hp.2.1, a2⟩]
    refine ⟨_, _, [], rfl, ?_, ca.none⟩
    rw [List.append_nil]
    exact s.heap
   ·cases e
  ·cases e
 | mkmap =>
  simp only [dN] at e ⊢
  cases e
  exact ⟨_, _, [τ.h.length], rfl, s.heap.push0 _ (by simp), .inr ⟨_, rfl, by simp only [L.ren, s.heap.new]⟩⟩
 | mset x k y =>
  simp only [dN] at e ⊢
  have r1 := s.ev x
  have r2 := s.ev k
  have r3 := s.ev y
  split at e
  ·rename_i o n m g1 g2 g3
   rw [g1] at r1
   rw [g2] at r2
   rw [g3] at r3
   rcases r1 with q | ⟨l', h3, r1⟩
   ·cases q
   obtain ⟨o', h4, rfl⟩ := sk r1
   rw [h3, lw r2, lw r3]
   obtain ⟨ob, ob', h5, h6, h7⟩ := s.heap.get h4
   simp only [h5] at e
   simp only [h6]
   cases ob with
   | imap kvs =>
    rw [cr h7 (by simp) (by simp)]
    simp only at e ⊢
    split at e
    ·rename_i h8
     cases e
     rw [if_pos h8]
     refine ⟨_, _, [], rfl, ?_, ca.none⟩
     rw [List.append_nil]
     exact s.heap.set h4 rfl
    ·cases e
   | _ => cases e
  ·cases e
 | insert k z bytes x i v =>
  simp only [dN] at e ⊢
  have rx := s.ev x
  have ri := s.ev i
  have rv := s.ev v
  split at e
  ·rename_i n o2 ex ei ev
   rw [ex] at rx
   rw [ev] at rv
   rcases rx with q | ⟨lx, hx, rx⟩
   ·cases q
   simp only [L.ren] at rx
   cases rx
   rcases rv with q | ⟨lv, hv, rv⟩
   ·cases q
   obtain ⟨o2', h2, rfl⟩ := jF rv
   rw [hx, hv, ri.isInt ei]
   obtain ⟨ob, ob', h5, h6, h7⟩ := s.heap.get h2
   simp only [h5] at e
   simp only [h6]
   cases ob with
   | arr z2 vs =>
    rw [cr h7 (by simp) (by simp)]
    simp only at e ⊢
    split at e
    ·rename_i h8
     cases e
     rw [if_pos h8]
     exact ⟨_, _, [τ.h.length], rfl, s.heap.push0 _ (by simp), .inr ⟨_, rfl, by simp only [L.ren, s.heap.new]⟩⟩
    ·cases e
   | _ => cases e
  ·rename_i o1 n o2 ex ei ev
   rw [ex] at rx
   rw [ev] at rv
   rcases rx with q | ⟨lx, hx, rx⟩
   ·cases q
   obtain ⟨o1', h1, rfl⟩ := jF rx
   rcases rv with q | ⟨lv, hv, rv⟩
   ·cases q
   obtain ⟨o2', h2, rfl⟩ := jF rv
   rw [hx, hv, ri.isInt ei]
   obtain ⟨oa, oa', a5, a6, a7⟩ := s.heap.get h1
   obtain ⟨ob, ob', h5, h6, h7⟩ := s.heap.get h2
   simp only [a5, h5] at e
   simp only [a6, h6]
   cases oa with
   | arr z1 es =>
    cases ob with
    | arr z2 vs =>
     rw [cr h7 (by simp) (by simp), cr a7 (by simp) (by simp)]
     simp only at e ⊢
     split at e
     ·rename_i h8
      cases e
      have hne : o1' ≠ o2' := fun q => h8.2.2.1 (s.heap.inj h1 (by rw [h2, q]))
      rw [if_pos ⟨h8.1, h8.2.1, hne, h8.2.2.2⟩]
      have k := s.heap.set h1 (ob := .dead) (ob' := .dead) trivial
      have k2 := k.push0 (.arr z (es.take n.toNat ++ vs ++ es.drop n.toNat)) (by simp)
      simp only [List.length_set] at k2
      have hn := k.new
      simp only [List.length_set] at hn
      exact ⟨_, _, [_], rfl, k2, .inr ⟨_, rfl, by simp only [L.ren, hn]⟩⟩
     ·cases e
    | _ => cases e
   | _ => cases e
  ·cases e
 | mkfn k caps =>
  simp only [dN] at e ⊢
  split at e
  ·rename_i cs hh h2
   cases e
   obtain ⟨h1', h3, h4⟩ := Bn s.heap (bL.ev s caps) h2
   rw [h3]
   refine ⟨_, _, [], rfl, ?_, .inr ⟨_, rfl, rfl⟩⟩
   rw [List.append_nil]
   exact h4
  ·cases e
 | call k args fl fz =>
  cases fl <;> cases fz <;> simp only [dN] at e ⊢ <;> try (cases e; done)
  split at e
  ·rename_i xz h2
   obtain ⟨a1, a2, a3⟩ := (bL.ev s args).view s.heap h2
   rw [a2]
   simp only
   split at e
   ·rename_i r h3
    obtain ⟨g, k1, k2⟩ := (s.heap.freezeVs a1).thaw (hc _ _ _ h3)
    have e' := (Option.some.inj e)
    rw [e'] at k1 k2
    exact ⟨_, _, g, rfl, k1, k2⟩
   ·cases e
  ·cases e
 | _ => cases e
theorem Nm (s : Cln f σ τ) (hc : nS call) {op : AOp} {v : V} {h1 : List AObj} (hz : op.zOk = true) (e : dN call σ op = some (v, h1)) : ∃ v' h1' g, dN call τ op = some (v', h1') ∧ HRel (f ++ g) h1 h1' ∧ ca (f ++ g) v v' := by
 by_cases hb : ∃ n a x, op = .storeB n a x
 ·obtain ⟨n, a, x, rfl⟩ := hb
  simp only [dN] at e
  split at e
  ·rename_i hq
   have hq' := Es s hq
   obtain ⟨v', h1', g, q1, q2, q3⟩ := GI s hc (op := .store n a x) (fun _ _ _ h => by cases h) rfl (v := v) (h1 := h1) (by simp only [dN]; exact e)
   refine ⟨v', h1', g, ?_, q2, q3⟩
   simp only [dN] at q1 ⊢
   rw [if_pos hq']
   exact q1
  ·cases e
 ·exact GI s hc (fun n a x h => hb ⟨n, a, x, h⟩) hz e
theorem EL (s : Cln f σ τ) {g : Option (Nat × Bool)} {b : Bool} (e : bt σ g = some b) : bt τ g = some b := by
 cases g with
 | none => exact e
 | some g =>
  obtain ⟨t, w⟩ := g
  simp only [bt] at e ⊢
  have r := s.tmps.getD t
  split at e
  ·rename_i c h1
   rw [h1] at r
   rw [lw r]
   exact e
  ·rename_i h1
   rw [h1] at r
   obtain ⟨ys, h2, r⟩ := r
   rw [h2]
   cases ys with
   | nil => exact e
   | cons _ _ => exact r.elim
  ·cases e
theorem K3 (s : Cln f σ τ) (hc : nS call) {o : AOper} {σ' : St} (hz : o.op.zOk = true) (e : bg call o σ = some σ') : ∃ τ' g, bg call o τ = some τ' ∧ Cln (f ++ g) σ' τ' := by
 unfold bg at e ⊢
 split at e
 ·rename_i hw
  rw [EL s hw]
  simp only
  split at e
  ·rename_i v h1
   cases e
   obtain ⟨v', h2, r⟩ := Jn s hc hz h1
   rw [h2]
   exact ⟨_, [], rfl, by rw [List.append_nil]; exact ⟨s.heap, s.tmps.put _ r⟩⟩
  ·rename_i h1
   split at e
   ·rename_i v h2 h3
    cases e
    obtain ⟨v', h2', g, e1, k, r⟩ := Nm s hc hz h3
    rw [Ji (call' := call) e1, e1]
    exact ⟨_, g, rfl, k, s.tmps.mono.put _ r⟩
   ·cases e
 ·rename_i hw
  rw [EL s hw]
  cases e
  exact ⟨_, [], rfl, by rw [List.append_nil]; exact ⟨s.heap, s.tmps.put _ ca.none⟩⟩
 ·cases e
theorem zM (hc : nS call) : ∀ {os : List AOper} {f : List Nat} {σ τ σ' : St}, Cln f σ τ → (os.all fun o => o.op.zOk) = true → am call os σ = some σ' → ∃ τ' g, am call os τ = some τ' ∧ Cln (f ++ g) σ' τ'
 | [], f, σ, τ, σ', s, _, e => by simp only [am] at e ⊢; cases e; exact ⟨_, [], rfl, by rw [List.append_nil]; exact s⟩
 | o :: os, f, σ, τ, σ', s, hz, e => by
  simp only [List.all_cons, Bool.and_eq_true] at hz
  simp only [am] at e ⊢
  split at e
  ·rename_i σ1 h1
   obtain ⟨τ1, g, h2, s1⟩ := K3 s hc hz.1 h1
   rw [h2]
   obtain ⟨τ2, g2, h3, s2⟩ := zM hc s1 hz.2 e
   exact ⟨τ2, g ++ g2, h3, by rw [← List.append_assoc]; exact s2⟩
  ·cases e
def Kn (σ τ : St) : Prop := ∃ f, Cln f σ τ
theorem Jm (hc : nS call) : ∀ {c : ACode}, c.zOk = true → ∀ {σ τ σ' : St} {e : Ex}, Kn σ τ → aq call ah c σ = some (e, σ') → ∃ τ', aq call ah c τ = some (e, τ') ∧ Kn σ' τ' := by
 intro c
 induction c with
 | skip => intro _ σ τ σ' e k h; simp only [aq] at h ⊢; cases h; exact ⟨_, rfl, k⟩
 | region ops =>
  intro hz σ τ σ' e k h
  simp only [aq] at h ⊢
  split at h
  ·rename_i σ1 h1
   cases h
   obtain ⟨f, s⟩ := k
   obtain ⟨τ', g, h2, s2⟩ := zM hc s hz h1
   rw [h2]
   exact ⟨_, rfl, _, s2⟩
  ·cases h
 | seq a b iha ihb =>
  intro hz σ τ σ' e k h
  simp only [ACode.zOk, Bool.and_eq_true] at hz
  simp only [aq] at h ⊢
  cases ha : aq call ah a σ with
  | none => simp [ha] at h
  | some x =>
   obtain ⟨e1, σ1⟩ := x
   obtain ⟨τ1, h1, k1⟩ := iha hz.1 k ha
   rw [h1]
   rw [ha] at h
   cases e1 with
   | normal => exact ihb hz.2 k1 h
   | _ => cases h; exact ⟨_, rfl, k1⟩
 | cond c a b iha ihb =>
  intro hz σ τ σ' e k h
  simp only [ACode.zOk, Bool.and_eq_true] at hz
  simp only [aq] at h ⊢
  split at h
  ·rename_i t h1
   obtain ⟨f, s⟩ := k
   rw [(s.ev c).isBool h1]
   cases t with
   | true => exact iha hz.1 ⟨f, s⟩ h
   | false => exact ihb hz.2 ⟨f, s⟩ h
  ·cases h
 | block id c ih =>
  intro hz σ τ σ' e k h
  simp only [aq] at h ⊢
  cases ha : aq call ah c σ with
  | none => simp [ha] at h
  | some x =>
   obtain ⟨e1, σ1⟩ := x
   obtain ⟨τ1, h1, k1⟩ := ih hz k ha
   rw [h1]
   rw [ha] at h
   cases e1 with
   | exit i =>
    simp only at h ⊢
    split at h
    ·rename_i hi; rw [if_pos hi]; cases h; exact ⟨_, rfl, k1⟩
    ·rename_i hi; rw [if_neg hi]; cases h; exact ⟨_, rfl, k1⟩
   | _ => cases h; exact ⟨_, rfl, k1⟩
 | loop c ih =>
  intro hz σ τ σ' e k h
  simp only [aq] at h ⊢
  obtain ⟨n, hn⟩ := lQ.1 h
  have key : ∀ (n : Nat) {σ τ : St}, Kn σ τ → gE n (aq call ah c) σ = some (e, σ') → ∃ τ', gE n (aq call ah c) τ = some (e, τ') ∧ Kn σ' τ' := by
   intro n
   induction n with
   | zero => intro σ τ _ h; simp [gE] at h
   | succ n ihn =>
    intro σ τ k h
    cases ha : aq call ah c σ with
    | none => simp [gE, ha] at h
    | some x =>
     obtain ⟨e1, σ1⟩ := x
     obtain ⟨τ1, h1, k1⟩ := ih hz k ha
     cases e1 with
     | normal =>
      rw [vW ha] at h
      rw [vW h1]
      exact ihn k1 h
     | _ =>
      rw [zg ha (by simp)] at h
      cases h
      exact ⟨_, zg h1 (by simp), k1⟩
  obtain ⟨τ', h1, k1⟩ := key n k hn
  exact ⟨τ', lQ.2 ⟨n, h1⟩, k1⟩
 | exit id => intro _ σ τ σ' e k h; simp only [aq] at h ⊢; cases h; exact ⟨_, rfl, k⟩
 | ret => intro _ σ τ σ' e k h; simp only [aq] at h ⊢; cases h; exact ⟨_, rfl, k⟩
end
end Gi
