/- What is seen as data reads as data; each operation that leaves the variables alone (calls apart) yields what the pure machine yields. -/
import Derived.Test.YtcjcgihohefldaaDoorGie
namespace Gi
open Go
set_option linter.unusedVariables false
set_option linter.unusedSimpArgs false
variable {KI : KF}

section
variable {Γ : Ctx} {P : Program} {M0 : Nat → Prop} {base : Nat} {σ : St} {a : Act} {w : World} {ρ : List (Option Nat)}

/-- rows of cells read as a list -/
theorem rows_reads {M : Nat → Prop} {b z cap : Nat} {cur : Array Value} {es : List (List PV)} (hrow : Row w b cur) (hes : ∀ e ∈ es, e.length = z) (hm : ¬ M b) (hcap : es.length ≤ cap)
    (hc : ∀ (i : Nat) (e : List PV) (j : Nat) (p : PV), es[i]? = some e → e[j]? = some p → ∃ v, cur[i * z + j]? = some v ∧ Reads M w p v) : Reads M w (.lst es) (.slice (some ⟨b, 0, none⟩) es.length cap) := by
  simp only [Reads]
  refine .inr ⟨b, 0, cap, z, rfl, hm, hrow.lt, ReadsLL.of fun i e he => ⟨hes e (List.mem_of_getElem? he), ReadsL.of fun j p hp => ?_⟩, hcap⟩
  obtain ⟨v, hv, hr⟩ := hc i e j p he hp
  exact ⟨v, by rw [hrow.cell]; simpa using hv, hr⟩

theorem Reads.weak {M M' : Nat → Prop} (h : ∀ b, M' b → M b) {p : PV} {v : Value} (r : Reads M w p v) : Reads M' w p v :=
  Reads.go ⟨Nat.le_refl _, fun b _ => h b, fun _ _ _ => rfl⟩ p v r

theorem view_mu {h : List AObj} (k : HR M0 base w ρ h) {l : L} {p : PV} {v : Value} (r : LR (Mu M0 ρ h) w ρ h l v) (e : l.view h = some p) (hm : L.mut h l = false) : Reads (Mu M0 ρ h) w p v := by
  cases l with
  | pv q => simp only [L.view] at e; cases e; exact r
  | nil =>
    simp only [L.view] at e; cases e
    obtain ⟨_, rfl⟩ := r
    simp only [Reads]
    exact .inl ⟨by trivial, _, _, rfl⟩
  | arr o =>
    obtain ⟨r0, ob, hr0, hob, hs⟩ := r
    simp only [L.view, hob] at e
    simp only [L.mut, hob] at hm
    cases ob with
    | froz z es =>
      cases e
      obtain ⟨hz, hes, kx⟩ := k.objs o _ r0 hob hr0
      cases r0 with
      | none =>
        obtain rfl : es = [] := kx
        obtain ⟨_, rfl⟩ := hs
        simp only [Reads]
        exact .inl ⟨by trivial, _, _, rfl⟩
      | some b =>
        obtain ⟨hnm, cur, cap, hrow, h1, h2, h3, h4⟩ := kx
        obtain ⟨cur', cap', hrow', _, hc', _, rfl⟩ := hs
        exact rows_reads hrow hes hnm hc' h4
    | arr z es => simp at hm
    | darr z es => simp at hm
    | zarr z es => cases e
    | box cs => cases e
    | fbox ps => cases e
    | imap kvs => cases e
    | tbox n => cases e
    | res => cases e
    | dead => cases e
  | _ => cases e

theorem view_false {h : List AObj} (k : HR M0 base w ρ h) {l : L} {p : PV} {v : Value} (r : LR (Mu M0 ρ h) w ρ h l v) (e : l.view h = some p) : Reads (fun _ => False) w p v := by
  by_cases hm : L.mut h l = true
  · cases l with
    | arr o =>
      obtain ⟨r0, ob, hr0, hob, hs⟩ := r
      simp only [L.view, hob] at e
      simp only [L.mut, hob] at hm
      cases ob with
      | arr z es =>
        cases e
        obtain ⟨hz, hes, kx⟩ := k.objs o _ r0 hob hr0
        cases r0 with
        | none =>
          obtain rfl : es = [] := kx
          obtain ⟨_, rfl⟩ := hs
          simp only [Reads]
          exact .inl ⟨by trivial, _, _, rfl⟩
        | some b =>
          obtain ⟨_, cur, cap, hrow, h1, h2, h3, h4⟩ := kx
          obtain ⟨cur', cap', hrow', _, hc', _, rfl⟩ := hs
          exact rows_reads hrow hes (fun h => h) hc' (fun i e j p he hp => by
            obtain ⟨v, hv, hr⟩ := h4 i e j p he hp
            exact ⟨v, hv, hr.weak (fun _ h => h.elim)⟩)
      | darr z es =>
        cases e
        obtain ⟨hz, hes, kx⟩ := k.objs o _ r0 hob hr0
        cases r0 with
        | none =>
          obtain rfl : es = [] := kx
          obtain ⟨_, rfl⟩ := hs
          simp only [Reads]
          exact .inl ⟨by trivial, _, _, rfl⟩
        | some b =>
          obtain ⟨_, cur, cap, hrow, h1, h2, h3, h4⟩ := kx
          obtain ⟨cur', cap', hrow', _, hc', _, rfl⟩ := hs
          exact rows_reads hrow hes (fun h => h) hc' (fun i e j p he hp => by
            obtain ⟨v, hv, hr⟩ := h4 i e j p he hp
            exact ⟨v, hv, hr.weak (fun _ h => h.elim)⟩)
      | _ => simp at hm
    | _ => simp [L.mut] at hm
  · exact (view_mu k r e (by simpa using hm)).weak (fun _ h => h.elim)

theorem asList_reads (s : SR Γ M0 base σ a w ρ) {x : V} {u : Value} {es : List (List PV)} (r : VR (Mu M0 ρ σ.h) w ρ σ.h x u) (e : asList σ.h x = some es) : Reads (fun _ => False) w (.lst es) u := by
  unfold asList at e
  split at e
  · rename_i l
    split at e
    · rename_i es' he
      cases e
      exact view_false s.hr r he
    · cases e
  · cases e

theorem Reads.slice {M : Nat → Prop} {es : List (List PV)} {u : Value} (r : Reads M w (.lst es) u) : ∃ ad c, u = .slice ad es.length c := by
  simp only [Reads] at r
  rcases r with ⟨rfl, a, c, rfl⟩ | ⟨b, o, c, z, rfl, _⟩
  · exact ⟨a, c, rfl⟩
  · exact ⟨_, _, rfl⟩

/-- the cells of a list whose elements are of z cells, from its first on -/
theorem Reads.cells {M : Nat → Prop} {es : List (List PV)} {u : Value} (r : Reads M w (.lst es) u) {z : Nat} (hz : ∀ e ∈ es, e.length = z) (hne : es ≠ []) :
    ∃ b o c, u = .slice (some ⟨b, o, none⟩) es.length c ∧ ¬ M b ∧ b < w.heap.size ∧ ∀ (i : Nat) (e : List PV) (j : Nat) (p : PV), es[i]? = some e → e[j]? = some p → ∃ v, w.cell? ⟨b, o + i * z + j, none⟩ = some v ∧ Reads M w p v := by
  simp only [Reads] at r
  rcases r with ⟨rfl, _⟩ | ⟨b, o, c, z', rfl, hm, hlt, hr, _⟩
  · exact absurd rfl hne
  · obtain ⟨e0, es', rfl⟩ := List.exists_cons_of_ne_nil hne
    have h1 : z' = z := by
      have h1 := (ReadsLL.at hr (i := 0) (e := e0) rfl).1
      rw [← h1]; exact hz e0 (by simp)
    subst h1
    refine ⟨b, o, c, rfl, hm, hlt, fun i e j p he hp => (ReadsLL.at hr he).2.at hp⟩

theorem bytesOf_spec : ∀ {es : List (List PV)} {s : List UInt8}, bytesOf es = some s → ∃ ns : List Int, es = ns.map (fun n => [PV.int .u8 n]) ∧ s = ns.map (fun n => UInt8.ofNat n.toNat)
  | [], s, h => by simp [bytesOf] at h; subst h; exact ⟨[], rfl, rfl⟩
  | e :: es, s, h => by
    unfold bytesOf at h
    split at h
    · rename_i heq; cases heq
    · rename_i n r heq
      cases heq
      split at h
      · rename_i l hl
        cases h
        obtain ⟨ns, rfl, rfl⟩ := bytesOf_spec hl
        exact ⟨n :: ns, rfl, rfl⟩
      · cases h
    · cases h

theorem foldl_push (ns : List Int) (s : ByteArray) : ns.foldl (fun r n => r.push (UInt8.ofNat n.toNat)) s = ⟨(s.data.toList ++ ns.map (fun n => UInt8.ofNat n.toNat)).toArray⟩ := by
  induction ns generalizing s with
  | nil => simp
  | cons n ns ih =>
    rw [List.foldl_cons, ih]
    simp [ByteArray.push]

theorem b2s_sound {M : Nat → Prop} {es : List (List PV)} {u : Value} {s : List UInt8} (r : Reads M w (.lst es) u) (h : bytesOf es = some s) : (Conv.bytesToString u).run P w = .ok (.string ⟨s.toArray⟩) w := by
  obtain ⟨ns, rfl, rfl⟩ := bytesOf_spec h
  by_cases hne : ns = []
  · subst hne
    obtain ⟨ad, c, rfl⟩ := r.slice
    cases ad with
    | none => simp [Conv.bytesToString]; rfl
    | some ad =>
      have := run_bytesToString (P := P) w ad 0 c [] (by simp [loadCells, loadCellsFrom])
      exact this
  · obtain ⟨b, o, c, rfl, _, _, hc⟩ := r.cells (z := 1) (by simp) (by simpa using hne)
    have hl : (loadCells ⟨b, o, none⟩ ns.length).run P w = .ok (ns.map (Value.int .u8)).toArray w := by
      have := run_loadCells_list (P := P) w ⟨b, o, none⟩ (ns.map (Value.int .u8)) (fun j v hv => by
        simp only [List.getElem?_map, Option.map_eq_some_iff] at hv
        obtain ⟨n, hn, rfl⟩ := hv
        obtain ⟨v, hv, hr⟩ := hc j [.int .u8 n] 0 (.int .u8 n) (by simp [hn]) rfl
        simp only [Reads] at hr; subst hr
        rw [Addr.add_mid]
        simpa using hv)
      simpa using this
    have := run_bytesToString (P := P) w ⟨b, o, none⟩ ns.length c ns hl
    rw [foldl_push] at this
    simpa using this

theorem cellsize (t : TypeId) {n : Nat} (h : szT P t = some n) : (Go.sizeOf t).run P w = .ok n w := by
  unfold szT at h
  cases hi : P.info? t with
  | none => simp [hi] at h
  | some i => simp [hi] at h; subst h; simp [Go.sizeOf, typeInfo, hi]

theorem elemPtr_sound (s : SR Γ M0 base σ a w ρ) {z : Nat} {x v : V} {u : Value} {n : Nat} {t e : TypeId} {k : IntKind} (ht : elemT P t = some e) (hz : szT P e = some z) (r : VR (Mu M0 ρ σ.h) w ρ σ.h x u) (hp : elemPtr σ.h z x n = some v) :
    ∃ u', (Instr.indexAt t u (.int k (n : Int))).run P w = .ok u' w ∧ VR (Mu M0 ρ σ.h) w ρ σ.h v u' := by
  have hu : P.underlying t = some (.slice e) := by
    unfold elemT at ht
    split at ht <;> cases ht
    assumption
  have go : ∀ {b o len cap : Nat}, n < len → (Instr.indexAt t (.slice (some ⟨b, o, none⟩) len cap) (.int k (n : Int))).run P w = .ok (.pointer (some ⟨b, o + n * z, none⟩)) w := by
    intro b o len cap hlt
    have h1 : (0 : Int) ≤ (n : Int) ∧ (n : Int) < (len : Int) := ⟨by omega, by omega⟩
    simp [Instr.indexAt, asIntOf, run_underlying hu, cellsize e hz, hlt, Addr.add_mid]
  unfold elemPtr at hp
  split at hp
  · rename_i o
    obtain ⟨r0, ob, hr0, hob, hs⟩ := r
    simp only [hob] at hp
    cases ob with
    | arr z' es =>
      simp only at hp
      split at hp
      · rename_i hlt
        obtain ⟨hlt, rfl⟩ := hlt
        cases hp
        cases r0 with
        | none =>
          obtain ⟨_, _, kx⟩ := s.hr.objs o _ _ hob hr0
          obtain rfl : es = [] := kx
          simp at hlt
        | some b =>
          obtain ⟨cur, cap, hrow, _, _, _, rfl⟩ := hs
          refine ⟨_, go hlt, some b, _, hr0, hob, b, rfl, ?_⟩
          simp [AObj.z]
      · cases hp
    | froz z' es =>
      simp only at hp
      split at hp
      · rename_i hlt
        obtain ⟨hlt, rfl⟩ := hlt
        cases hp
        cases r0 with
        | none =>
          obtain ⟨_, _, kx⟩ := s.hr.objs o _ _ hob hr0
          obtain rfl : es = [] := kx
          simp at hlt
        | some b =>
          obtain ⟨cur, cap, hrow, _, _, _, rfl⟩ := hs
          refine ⟨_, go hlt, some b, _, hr0, hob, b, rfl, ?_⟩
          simp [AObj.z]
      · cases hp
    | darr z' es =>
      simp only at hp
      split at hp
      · rename_i hlt
        obtain ⟨hlt, rfl⟩ := hlt
        cases hp
        cases r0 with
        | none =>
          obtain ⟨_, _, kx⟩ := s.hr.objs o _ _ hob hr0
          obtain rfl : es = [] := kx
          simp at hlt
        | some b =>
          obtain ⟨cur, cap, hrow, _, _, _, rfl⟩ := hs
          refine ⟨_, go hlt, some b, _, hr0, hob, b, rfl, ?_⟩
          simp [AObj.z]
      · cases hp
    | zarr z' es => cases hp
    | box cs => cases hp
    | fbox ps => cases hp
    | imap kvs => cases hp
    | tbox n => cases hp
    | res => cases hp
    | dead => cases hp
  · rename_i es
    split at hp
    · rename_i e0 he
      split at hp
      · rename_i hez
        cases hp
        have hlt : n < es.length := (List.getElem?_eq_some_iff.1 he).1
        simp only [VR, LR, Reads] at r
        rcases r with ⟨rfl, _⟩ | ⟨b, o, c, z', rfl, hm, hb, hr, _⟩
        · simp at hlt
        · obtain ⟨h1, h2⟩ := ReadsLL.at hr he
          rw [hez] at h1; subst h1
          exact ⟨_, go hlt, b, o + n * z, by simp, hm, hb, h2⟩
      · cases hp
    · cases hp
  · cases hp

end
end Gi
