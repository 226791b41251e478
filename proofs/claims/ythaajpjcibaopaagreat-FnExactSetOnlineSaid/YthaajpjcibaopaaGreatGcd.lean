/- Of this proof. -/
import Derived.Test.YthaajpjcibaopaaGreatGcb
namespace Gi
open Go Go.RowKit
set_option linter.unusedSimpArgs false
set_option linter.unusedVariables false
set_option maxHeartbeats 8000000
set_option maxRecDepth 4000
attribute [local simp] start execOps stepO wants fop eop Opd.ev put V.cells plain loadV cut isInt isStr isBool bin binInt binStr_neq binStr_eql un asList L.view viewArgs V.view viewL finish resultsOf resultOf comps comp giveLs giveL arrs_e arrs_pv arrs_nil arrs_arr arrs_dat view_dat plain_dat mut_dat freeze_dat give_dat ren_dat notArr_dat setL_own setL_nd setL_dat flat_dat thaw_dat V.flat L.flat setV setL storeV putAt thaw thawL thawT freezeVs freezeLs freezeL V.mut L.mut elemPtr viewRows fillL cellsP rowsP isVar bound wp_seq wp_block wp_region wp_cond wp_skip wp_exit wp_ret wp_end wp_sqN wp_sqR wp_sqE wp_bkN wp_bkR wp_bkE Fin_ret Fin_normal L.notArr keepM_t keepM_f keepM_n setT_c setT_n storeD deepOf srcD srcRows srcNot srcDead ysD L.mov L.closed V.closed PV.bare PV.flat
theorem ofBytes_len {s : List UInt8} : (ofBytes s).length = s.length := by simp [ofBytes]
structure Flat (z : Nat) (R : List (List PV)) : Prop where
 flat : flatRows R = true
 wid : (R.all fun r => r.length == z) = true
 len : R.length ≤ 1048576
theorem impl_copyBytes_ok {R : List (List PV)} (h : Flat 1 R) : callL Ph extF 261 [vlst R] = some (.one (.down 1 R)) := by
 have hf := h.flat
 have hw := h.wid
 have m := lims (m := R.length) (z := 1) (by have := h.len; omega) (by omega)
 rw [Nat.mul_one] at m
 refine callL_wp (fn := f_impl_copyBytes) rfl ?_
 simp [f_impl_copyBytes, hf, hw, m]
theorem spec_l14Script_ok {R : List (List PV)} (h : Flat 4 R) : callL Ph extF 489 [vlst R] = some (.one (.down 4 R)) := by
 have hf := h.flat
 have hw := h.wid
 have m := lims (m := R.length) (z := 40) (by have := h.len; omega) (by omega)
 refine callL_wp (fn := f_spec_l14Script) rfl ?_
 simp [f_spec_l14Script, hf, hw, m]
theorem impl_copyRecord_ok {B : Nat} (hB : B ≤ 1048576) {x : XRecord} (h : x.Ok B) : callL Ph extF 242 [.agg [.pv (.lst (x.fs.map XField.e))]] = some (.agg [.down 2 (x.fs.map XField.e)]) := by
 have h_fs := h
 have F0 : Flat 2 (x.fs.map XField.e) := ⟨flat_map (e := XField.e) (fun _ => rfl) _, wid_map (e := XField.e) (z := 2) (fun _ => rfl) _, by rw [List.length_map]; have := h_fs.1; omega⟩
 have hf0 := F0.flat
 have hw0 := F0.wid
 have m0 := lims (m := (x.fs.map XField.e).length) (z := 24) (by have := F0.len; omega) (by omega)
 generalize (x.fs.map XField.e) = R0 at F0 hf0 hw0 m0 ⊢
 refine callL_wp (fn := f_impl_copyRecord) rfl ?_
 simp [f_impl_copyRecord, hf0, hw0, m0]
theorem spec_l5Copy_ok {B : Nat} (hB : B ≤ 1048576) {x : XRecord} (h : x.Ok B) : callL Ph extF 239 [.agg [.pv (.lst (x.fs.map XField.e))]] = some (.agg [.down 2 (x.fs.map XField.e)]) := by
 have h_fs := h
 have F0 : Flat 2 (x.fs.map XField.e) := ⟨flat_map (e := XField.e) (fun _ => rfl) _, wid_map (e := XField.e) (z := 2) (fun _ => rfl) _, by rw [List.length_map]; have := h_fs.1; omega⟩
 have hf0 := F0.flat
 have hw0 := F0.wid
 have m0 := lims (m := (x.fs.map XField.e).length) (z := 24) (by have := F0.len; omega) (by omega)
 generalize (x.fs.map XField.e) = R0 at F0 hf0 hw0 m0 ⊢
 refine callL_wp (fn := f_spec_l5Copy) rfl ?_
 simp [f_spec_l5Copy, hf0, hw0, m0]
theorem impl_copyItem_ok {B : Nat} (hB : B ≤ 1048576) {x : XItem} (h : x.Ok B) : callL Ph extF 218 [.agg [.pv (.int .i64 x.key.kind), .pv (.int .i64 x.key.n), .pv (.str x.key.text), .pv (.lst (x.rcd.fs.map XField.e))]] = some (.agg [.pv (.int .i64 x.key.kind), .pv (.int .i64 x.key.n), .pv (.str x.key.text), .down 2 (x.rcd.fs.map XField.e)]) := by
 obtain ⟨h_key, h_rcd⟩ := h
 have c0 := impl_copyRecord_ok hB h_rcd
 refine callL_wp (fn := f_impl_copyItem) rfl ?_
 simp [f_impl_copyItem, c0]
theorem spec_l6Item_ok {B : Nat} (hB : B ≤ 1048576) {x : XItem} (h : x.Ok B) : callL Ph extF 214 [.agg [.pv (.int .i64 x.key.kind), .pv (.int .i64 x.key.n), .pv (.str x.key.text), .pv (.lst (x.rcd.fs.map XField.e))]] = some (.agg [.pv (.int .i64 x.key.kind), .pv (.int .i64 x.key.n), .pv (.str x.key.text), .down 2 (x.rcd.fs.map XField.e)]) := by
 obtain ⟨h_key, h_rcd⟩ := h
 have c0 := spec_l5Copy_ok hB h_rcd
 refine callL_wp (fn := f_spec_l6Item) rfl ?_
 simp [f_spec_l6Item, c0]
theorem impl_copyResponse_ok {B : Nat} (hB : B ≤ 1048576) {x : XResponse} (h : x.Ok B) : callL Ph extF 334 [.agg [.pv (.int .i64 x.type), .pv (.int .i64 x.status), .pv (.int .i64 x.version), .pv (.lst (ofBytes x.body)), .pv (.bool x.shares)]] = some (.agg [.pv (.int .i64 x.type), .pv (.int .i64 x.status), .pv (.int .i64 x.version), .down 1 (ofBytes x.body), .pv (.bool x.shares)]) := by
 obtain ⟨h_type, h_status, h_version, h_body⟩ := h
 have c0 := impl_copyBytes_ok (R := ofBytes x.body) ⟨flat_bytes _, wid_bytes _, by rw [ofBytes_len]; omega⟩
 refine callL_wp (fn := f_impl_copyResponse) rfl ?_
 simp [f_impl_copyResponse, c0]
theorem spec_l15Copy_ok {B : Nat} (hB : B ≤ 1048576) {x : XResponse} (h : x.Ok B) : callL Ph extF 329 [.agg [.pv (.int .i64 x.type), .pv (.int .i64 x.status), .pv (.int .i64 x.version), .pv (.lst (ofBytes x.body)), .pv (.bool x.shares)]] = some (.agg [.pv (.int .i64 x.type), .pv (.int .i64 x.status), .pv (.int .i64 x.version), .down 1 (ofBytes x.body), .pv (.bool x.shares)]) := by
 obtain ⟨h_type, h_status, h_version, h_body⟩ := h
 have F0 : Flat 1 (ofBytes x.body) := ⟨flat_bytes _, wid_bytes _, by rw [ofBytes_len]; omega⟩
 have hf0 := F0.flat
 have hw0 := F0.wid
 have m0 := lims (m := (ofBytes x.body).length) (z := 1) (by have := F0.len; omega) (by omega)
 rw [Nat.mul_one] at m0
 generalize (ofBytes x.body) = R0 at F0 hf0 hw0 m0 ⊢
 refine callL_wp (fn := f_spec_l15Copy) rfl ?_
 simp [f_spec_l15Copy, hf0, hw0, m0]
theorem impl_copyOutbox_ok {B : Nat} (hB : B ≤ 1048576) {x : XOutbox} (h : x.Ok B) : callL Ph extF 501 [.agg [.pv (.int .i64 x.dev), .pv (.int .i64 x.next), .pv (.lst (x.writes.map XWrite.e))]] = some (.agg [.pv (.int .i64 x.dev), .pv (.int .i64 x.next), .down 7 (x.writes.map XWrite.e)]) := by
 obtain ⟨h_dev, h_next, h_writes⟩ := h
 have F0 : Flat 7 (x.writes.map XWrite.e) := ⟨flat_map (e := XWrite.e) (fun _ => rfl) _, wid_map (e := XWrite.e) (z := 7) (fun _ => rfl) _, by rw [List.length_map]; have := h_writes.1; omega⟩
 have hf0 := F0.flat
 have hw0 := F0.wid
 have m0 := lims (m := (x.writes.map XWrite.e).length) (z := 72) (by have := F0.len; omega) (by omega)
 generalize (x.writes.map XWrite.e) = R0 at F0 hf0 hw0 m0 ⊢
 refine callL_wp (fn := f_impl_copyOutbox) rfl ?_
 simp [f_impl_copyOutbox, hf0, hw0, m0]
theorem spec_l20Copy_ok {B : Nat} (hB : B ≤ 1048576) {x : XOutbox} (h : x.Ok B) : callL Ph extF 500 [.agg [.pv (.int .i64 x.dev), .pv (.int .i64 x.next), .pv (.lst (x.writes.map XWrite.e))]] = some (.agg [.pv (.int .i64 x.dev), .pv (.int .i64 x.next), .down 7 (x.writes.map XWrite.e)]) := by
 obtain ⟨h_dev, h_next, h_writes⟩ := h
 have F0 : Flat 7 (x.writes.map XWrite.e) := ⟨flat_map (e := XWrite.e) (fun _ => rfl) _, wid_map (e := XWrite.e) (z := 7) (fun _ => rfl) _, by rw [List.length_map]; have := h_writes.1; omega⟩
 have hf0 := F0.flat
 have hw0 := F0.wid
 have m0 := lims (m := (x.writes.map XWrite.e).length) (z := 72) (by have := F0.len; omega) (by omega)
 generalize (x.writes.map XWrite.e) = R0 at F0 hf0 hw0 m0 ⊢
 refine callL_wp (fn := f_spec_l20Copy) rfl ?_
 simp [f_spec_l20Copy, hf0, hw0, m0]
theorem impl_copySync_ok {B : Nat} (hB : B ≤ 1048576) {x : XSync} (h : x.Ok B) : callL Ph extF 499 [.agg [.pv (.int .i64 x.outbox.dev), .pv (.int .i64 x.outbox.next), .pv (.lst (x.outbox.writes.map XWrite.e)), .pv (.int .i64 x.tries), .pv (.int .i64 x.wait)]] = some (.agg [.pv (.int .i64 x.outbox.dev), .pv (.int .i64 x.outbox.next), .down 7 (x.outbox.writes.map XWrite.e), .pv (.int .i64 x.tries), .pv (.int .i64 x.wait)]) := by
 obtain ⟨h_outbox, h_tries, h_wait⟩ := h
 have c0 := impl_copyOutbox_ok hB h_outbox
 refine callL_wp (fn := f_impl_copySync) rfl ?_
 simp [f_impl_copySync, c0]
theorem spec_l22Copy_ok {B : Nat} (hB : B ≤ 1048576) {x : XSync} (h : x.Ok B) : callL Ph extF 497 [.agg [.pv (.int .i64 x.outbox.dev), .pv (.int .i64 x.outbox.next), .pv (.lst (x.outbox.writes.map XWrite.e)), .pv (.int .i64 x.tries), .pv (.int .i64 x.wait)]] = some (.agg [.pv (.int .i64 x.outbox.dev), .pv (.int .i64 x.outbox.next), .down 7 (x.outbox.writes.map XWrite.e), .pv (.int .i64 x.tries), .pv (.int .i64 x.wait)]) := by
 obtain ⟨h_outbox, h_tries, h_wait⟩ := h
 have c0 := spec_l20Copy_ok hB h_outbox
 refine callL_wp (fn := f_spec_l22Copy) rfl ?_
 simp [f_spec_l22Copy, c0]
theorem impl_copyMachine_ok {B : Nat} (hB : B ≤ 1048576) {x : XMachine} (h : x.Ok B) : callL Ph extF 493 [.agg [.pv (.lst (x.script.map XInstr.e)), .pv (.int .i64 x.pc), .pv (.lst (x.regs.map i1x)), .pv (.int .i64 x.steps), .pv (.bool x.done), .pv (.bool x.wait)]] = some (.agg [.down 4 (x.script.map XInstr.e), .pv (.int .i64 x.pc), .down 1 (x.regs.map i1x), .pv (.int .i64 x.steps), .pv (.bool x.done), .pv (.bool x.wait)]) := by
 obtain ⟨h_script, h_pc, h_regs, h_steps⟩ := h
 have F0 : Flat 4 (x.script.map XInstr.e) := ⟨flat_map (e := XInstr.e) (fun _ => rfl) _, wid_map (e := XInstr.e) (z := 4) (fun _ => rfl) _, by rw [List.length_map]; have := h_script.1; omega⟩
 have hf0 := F0.flat
 have hw0 := F0.wid
 have m0 := lims (m := (x.script.map XInstr.e).length) (z := 40) (by have := F0.len; omega) (by omega)
 generalize (x.script.map XInstr.e) = R0 at F0 hf0 hw0 m0 ⊢
 have F1 : Flat 1 (x.regs.map i1x) := ⟨flat_map (e := i1x) (fun _ => rfl) _, wid_map (e := i1x) (z := 1) (fun _ => rfl) _, by rw [List.length_map]; have := h_regs.1; omega⟩
 have hf1 := F1.flat
 have hw1 := F1.wid
 have m1 := lims (m := (x.regs.map i1x).length) (z := 8) (by have := F1.len; omega) (by omega)
 generalize (x.regs.map i1x) = R1 at F1 hf1 hw1 m1 ⊢
 refine callL_wp (fn := f_impl_copyMachine) rfl ?_
 simp [f_impl_copyMachine, hf0, hw0, m0, hf1, hw1, m1]
theorem spec_l14Copy_ok {B : Nat} (hB : B ≤ 1048576) {x : XMachine} (h : x.Ok B) : callL Ph extF 477 [.agg [.pv (.lst (x.script.map XInstr.e)), .pv (.int .i64 x.pc), .pv (.lst (x.regs.map i1x)), .pv (.int .i64 x.steps), .pv (.bool x.done), .pv (.bool x.wait)]] = some (.agg [.down 4 (x.script.map XInstr.e), .pv (.int .i64 x.pc), .down 1 (x.regs.map i1x), .pv (.int .i64 x.steps), .pv (.bool x.done), .pv (.bool x.wait)]) := by
 obtain ⟨h_script, h_pc, h_regs, h_steps⟩ := h
 have c0 := spec_l14Script_ok (R := (x.script.map XInstr.e)) ⟨flat_map (fun _ => rfl) _, wid_map (z := 4) (fun _ => rfl) _, by rw [List.length_map]; have := h_script.1; omega⟩
 have F0 : Flat 1 (x.regs.map i1x) := ⟨flat_map (e := i1x) (fun _ => rfl) _, wid_map (e := i1x) (z := 1) (fun _ => rfl) _, by rw [List.length_map]; have := h_regs.1; omega⟩
 have hf0 := F0.flat
 have hw0 := F0.wid
 have m0 := lims (m := (x.regs.map i1x).length) (z := 8) (by have := F0.len; omega) (by omega)
 generalize (x.regs.map i1x) = R0 at F0 hf0 hw0 m0 ⊢
 refine callL_wp (fn := f_spec_l14Copy) rfl ?_
 simp [f_spec_l14Copy, c0, hf0, hw0, m0]
theorem impl_copyPage_ok {B : Nat} (hB : B ≤ 1048576) {x : XPage} (h : x.Ok B) : callL Ph extF 479 [.agg [.pv (.int .i64 x.id), .pv (.str x.site), .pv (.str x.top), .pv (.int .i64 x.version), .pv (.lst (x.loaded.map XLoaded.e)), .pv (.lst (x.machine.script.map XInstr.e)), .pv (.int .i64 x.machine.pc), .pv (.lst (x.machine.regs.map i1x)), .pv (.int .i64 x.machine.steps), .pv (.bool x.machine.done), .pv (.bool x.machine.wait)]] = some (.agg [.pv (.int .i64 x.id), .pv (.str x.site), .pv (.str x.top), .pv (.int .i64 x.version), .down 2 (x.loaded.map XLoaded.e), .down 4 (x.machine.script.map XInstr.e), .pv (.int .i64 x.machine.pc), .down 1 (x.machine.regs.map i1x), .pv (.int .i64 x.machine.steps), .pv (.bool x.machine.done), .pv (.bool x.machine.wait)]) := by
 obtain ⟨h_id, h_site, h_top, h_version, h_loaded, h_machine⟩ := h
 have c0 := impl_copyMachine_ok hB h_machine
 have F0 : Flat 2 (x.loaded.map XLoaded.e) := ⟨flat_map (e := XLoaded.e) (fun _ => rfl) _, wid_map (e := XLoaded.e) (z := 2) (fun _ => rfl) _, by rw [List.length_map]; have := h_loaded.1; omega⟩
 have hf0 := F0.flat
 have hw0 := F0.wid
 have m0 := lims (m := (x.loaded.map XLoaded.e).length) (z := 24) (by have := F0.len; omega) (by omega)
 generalize (x.loaded.map XLoaded.e) = R0 at F0 hf0 hw0 m0 ⊢
 refine callL_wp (fn := f_impl_copyPage) rfl ?_
 simp [f_impl_copyPage, c0, hf0, hw0, m0]
theorem spec_l19Copy_ok {B : Nat} (hB : B ≤ 1048576) {x : XPage} (h : x.Ok B) : callL Ph extF 451 [.agg [.pv (.int .i64 x.id), .pv (.str x.site), .pv (.str x.top), .pv (.int .i64 x.version), .pv (.lst (x.loaded.map XLoaded.e)), .pv (.lst (x.machine.script.map XInstr.e)), .pv (.int .i64 x.machine.pc), .pv (.lst (x.machine.regs.map i1x)), .pv (.int .i64 x.machine.steps), .pv (.bool x.machine.done), .pv (.bool x.machine.wait)]] = some (.agg [.pv (.int .i64 x.id), .pv (.str x.site), .pv (.str x.top), .pv (.int .i64 x.version), .down 2 (x.loaded.map XLoaded.e), .down 4 (x.machine.script.map XInstr.e), .pv (.int .i64 x.machine.pc), .down 1 (x.machine.regs.map i1x), .pv (.int .i64 x.machine.steps), .pv (.bool x.machine.done), .pv (.bool x.machine.wait)]) := by
 obtain ⟨h_id, h_site, h_top, h_version, h_loaded, h_machine⟩ := h
 have c0 := spec_l14Copy_ok hB h_machine
 have F0 : Flat 2 (x.loaded.map XLoaded.e) := ⟨flat_map (e := XLoaded.e) (fun _ => rfl) _, wid_map (e := XLoaded.e) (z := 2) (fun _ => rfl) _, by rw [List.length_map]; have := h_loaded.1; omega⟩
 have hf0 := F0.flat
 have hw0 := F0.wid
 have m0 := lims (m := (x.loaded.map XLoaded.e).length) (z := 24) (by have := F0.len; omega) (by omega)
 generalize (x.loaded.map XLoaded.e) = R0 at F0 hf0 hw0 m0 ⊢
 refine callL_wp (fn := f_spec_l19Copy) rfl ?_
 simp [f_spec_l19Copy, c0, hf0, hw0, m0]
theorem impl_copyLocks_ok {B : Nat} (hB : B ≤ 1048576) {x : XLockTable} (h : x.Ok B) : callL Ph extF 458 [.agg [.pv (.lst (x.locks.map XLock.e))]] = some (.agg [.down 4 (x.locks.map XLock.e)]) := by
 have h_locks := h
 have F0 : Flat 4 (x.locks.map XLock.e) := ⟨flat_map (e := XLock.e) (fun _ => rfl) _, wid_map (e := XLock.e) (z := 4) (fun _ => rfl) _, by rw [List.length_map]; have := h_locks.1; omega⟩
 have hf0 := F0.flat
 have hw0 := F0.wid
 have m0 := lims (m := (x.locks.map XLock.e).length) (z := 32) (by have := F0.len; omega) (by omega)
 generalize (x.locks.map XLock.e) = R0 at F0 hf0 hw0 m0 ⊢
 refine callL_wp (fn := f_impl_copyLocks) rfl ?_
 simp [f_impl_copyLocks, hf0, hw0, m0]
theorem spec_l25Copy_ok {B : Nat} (hB : B ≤ 1048576) {x : XLockTable} (h : x.Ok B) : callL Ph extF 452 [.agg [.pv (.lst (x.locks.map XLock.e))]] = some (.agg [.down 4 (x.locks.map XLock.e)]) := by
 have h_locks := h
 have F0 : Flat 4 (x.locks.map XLock.e) := ⟨flat_map (e := XLock.e) (fun _ => rfl) _, wid_map (e := XLock.e) (z := 4) (fun _ => rfl) _, by rw [List.length_map]; have := h_locks.1; omega⟩
 have hf0 := F0.flat
 have hw0 := F0.wid
 have m0 := lims (m := (x.locks.map XLock.e).length) (z := 32) (by have := F0.len; omega) (by omega)
 generalize (x.locks.map XLock.e) = R0 at F0 hf0 hw0 m0 ⊢
 refine callL_wp (fn := f_spec_l25Copy) rfl ?_
 simp [f_spec_l25Copy, hf0, hw0, m0]
theorem impl_copyChannel_ok {B : Nat} (hB : B ≤ 1048576) {x : XChannel} (h : x.Ok B) : callL Ph extF 459 [.agg [.pv (.lst (x.mails.map XMail.e))]] = some (.agg [.down 3 (x.mails.map XMail.e)]) := by
 have h_mails := h
 have F0 : Flat 3 (x.mails.map XMail.e) := ⟨flat_map (e := XMail.e) (fun _ => rfl) _, wid_map (e := XMail.e) (z := 3) (fun _ => rfl) _, by rw [List.length_map]; have := h_mails.1; omega⟩
 have hf0 := F0.flat
 have hw0 := F0.wid
 have m0 := lims (m := (x.mails.map XMail.e).length) (z := 24) (by have := F0.len; omega) (by omega)
 generalize (x.mails.map XMail.e) = R0 at F0 hf0 hw0 m0 ⊢
 refine callL_wp (fn := f_impl_copyChannel) rfl ?_
 simp [f_impl_copyChannel, hf0, hw0, m0]
theorem spec_l26Copy_ok {B : Nat} (hB : B ≤ 1048576) {x : XChannel} (h : x.Ok B) : callL Ph extF 453 [.agg [.pv (.lst (x.mails.map XMail.e))]] = some (.agg [.down 3 (x.mails.map XMail.e)]) := by
 have h_mails := h
 have F0 : Flat 3 (x.mails.map XMail.e) := ⟨flat_map (e := XMail.e) (fun _ => rfl) _, wid_map (e := XMail.e) (z := 3) (fun _ => rfl) _, by rw [List.length_map]; have := h_mails.1; omega⟩
 have hf0 := F0.flat
 have hw0 := F0.wid
 have m0 := lims (m := (x.mails.map XMail.e).length) (z := 24) (by have := F0.len; omega) (by omega)
 generalize (x.mails.map XMail.e) = R0 at F0 hf0 hw0 m0 ⊢
 refine callL_wp (fn := f_spec_l26Copy) rfl ?_
 simp [f_spec_l26Copy, hf0, hw0, m0]
theorem impl_copySite_ok {B : Nat} (hB : B ≤ 1048576) {x : XSite} (h : x.Ok B) : callL Ph extF 460 [.agg [.pv (.str x.name), .pv (.int .i64 x.version), .pv (.lst (x.files.map s1x)), .pv (.bool x.shared)]] = some (.agg [.pv (.str x.name), .pv (.int .i64 x.version), .down 1 (x.files.map s1x), .pv (.bool x.shared)]) := by
 obtain ⟨h_name, h_version, h_files⟩ := h
 have F0 : Flat 1 (x.files.map s1x) := ⟨flat_map (e := s1x) (fun _ => rfl) _, wid_map (e := s1x) (z := 1) (fun _ => rfl) _, by rw [List.length_map]; have := h_files.1; omega⟩
 have hf0 := F0.flat
 have hw0 := F0.wid
 have m0 := lims (m := (x.files.map s1x).length) (z := 16) (by have := F0.len; omega) (by omega)
 generalize (x.files.map s1x) = R0 at F0 hf0 hw0 m0 ⊢
 refine callL_wp (fn := f_impl_copySite) rfl ?_
 simp [f_impl_copySite, hf0, hw0, m0]
theorem spec_l16Copy_ok {B : Nat} (hB : B ≤ 1048576) {x : XSite} (h : x.Ok B) : callL Ph extF 454 [.agg [.pv (.str x.name), .pv (.int .i64 x.version), .pv (.lst (x.files.map s1x)), .pv (.bool x.shared)]] = some (.agg [.pv (.str x.name), .pv (.int .i64 x.version), .down 1 (x.files.map s1x), .pv (.bool x.shared)]) := by
 obtain ⟨h_name, h_version, h_files⟩ := h
 have F0 : Flat 1 (x.files.map s1x) := ⟨flat_map (e := s1x) (fun _ => rfl) _, wid_map (e := s1x) (z := 1) (fun _ => rfl) _, by rw [List.length_map]; have := h_files.1; omega⟩
 have hf0 := F0.flat
 have hw0 := F0.wid
 have m0 := lims (m := (x.files.map s1x).length) (z := 16) (by have := F0.len; omega) (by omega)
 generalize (x.files.map s1x) = R0 at F0 hf0 hw0 m0 ⊢
 refine callL_wp (fn := f_spec_l16Copy) rfl ?_
 simp [f_spec_l16Copy, hf0, hw0, m0]
def h_impl_copyStore (b0 b1 : AObj) (y0 : L) (y2 : L) (rows : List (List PV)) : Nat → List AObj
 | 0 => [b0, b1, .box [y0, .nil, y2]]
 | k + 1 => [b0, b1, .box [y0, .arr 3, y2], .darr 4 (rows.take (k + 1))]
theorem impl_copyStore_ok {B : Nat} (hB : B ≤ 1048576) {x : XStore} (h : x.Ok B) : callL Ph extF 191 [.agg [.pv (.str x.name), .pv (.lst (x.items.map XItem.e)), .pv (.int .i64 x.auto)]] = some (.agg [.pv (.str x.name), nd 4 (x.items.map XItem.e), .pv (.int .i64 x.auto)]) := by
 obtain ⟨h_name, h_items, h_auto⟩ := h
 have e1 : ∀ k (hk : k < x.items.length), _ := fun k hk => impl_copyItem_ok hB (h_items.2 _ (List.getElem_mem hk))
 have hl : x.items.length ≤ 1048576 := Nat.le_trans h_items.1 hB
 refine callL_wp (fn := f_impl_copyStore) rfl ?_
 simp [f_impl_copyStore]
 refine wp_count tidyF Cl.fin x.items.length [false, false, true, true, false, false, false, false, false, false, false, false, true, true, true, false, false, false, false, false, false, false, false, false, false, false, false] (fun k => [(14, vint .i64 k)]) (h_impl_copyStore (.box [.pv (.str x.name), .pv (.lst (x.items.map XItem.e)), .pv (.int .i64 x.auto)]) (.box [.pv (.str []), .nil, .pv (.int .i64 0)]) (.pv (.str x.name)) (.pv (.int .i64 x.auto)) (x.items.map XItem.e)) rfl ?_ ?_ ?_
 ·exact Kn.of [0, 1, 2] (by decide) (by simp [h_impl_copyStore, keepM_t, keepM_f, keepM_n, setT_c, setT_n, relVs, relV, relLs, relL, relTs, relObs, relOb, L.ren, ren_dat]) (by simp [keepM_t, keepM_f, keepM_n, setT_c, setT_n, relVs, relV, relLs, relL, relTs, relObs, relOb, L.ren, ren_dat])
 ·intro k hk
  have ek := e1 k hk
  have hx := XItem_e x.items[k]
  have ht := take_nextE (e := XItem.e) hk
  rw [hx] at ht
  cases k with
  | zero =>
   simp only [h_impl_copyStore, ht]
   simp [b_impl_copyStore_0, hk, hx, ek, wrap_1]
   exact Kn.q [0, 1, 2, 6]
  | succ k =>
   obtain ⟨i1, i2, i3, i4, i5, i6⟩ := idxS (n := x.items.length) (by unfold maxLen; omega) hk
   have b1 : min (k + 1) x.items.length = k + 1 := by omega
   have m1 := lims (m := k + 1 + 1) (z := 56) (by omega) (by omega)
   simp only [h_impl_copyStore, ht]
   generalize hT : List.take (k + 1) _ = T
   have hTl : T.length = k + 1 := by rw [← hT]; simp; omega
   simp [b_impl_copyStore_0, hk, hx, ek, i1, i2, i3, i4, i5, i6, hTl, m1]
   exact Kn.q [0, 1, 2, 7]
 ·cases hq : x.items with
  | nil => simp [b_impl_copyStore_0, h_impl_copyStore, nd]
  | cons q qs =>
   have hT : (x.items.map XItem.e).take (qs.length + 1) = x.items.map XItem.e := List.take_of_length_le (by rw [hq]; simp)
   rw [hq] at hT
   simp only [List.length_cons, h_impl_copyStore, hT]
   simp [b_impl_copyStore_0, nd]
def h_spec_l6Copy (b0 b1 : AObj) (y0 : L) (y2 : L) (rows : List (List PV)) : Nat → List AObj
 | 0 => [b0, b1, .box [y0, .nil, y2]]
 | k + 1 => [b0, b1, .box [y0, .arr 3, y2], .darr 4 (rows.take (k + 1))]
theorem spec_l6Copy_ok {B : Nat} (hB : B ≤ 1048576) {x : XStore} (h : x.Ok B) : callL Ph extF 187 [.agg [.pv (.str x.name), .pv (.lst (x.items.map XItem.e)), .pv (.int .i64 x.auto)]] = some (.agg [.pv (.str x.name), nd 4 (x.items.map XItem.e), .pv (.int .i64 x.auto)]) := by
 obtain ⟨h_name, h_items, h_auto⟩ := h
 have e1 : ∀ k (hk : k < x.items.length), _ := fun k hk => spec_l6Item_ok hB (h_items.2 _ (List.getElem_mem hk))
 have hl : x.items.length ≤ 1048576 := Nat.le_trans h_items.1 hB
 refine callL_wp (fn := f_spec_l6Copy) rfl ?_
 simp [f_spec_l6Copy]
 refine wp_count tidyF Cl.fin x.items.length [false, true, true, true, true, false, false, false, false, false, false, false, false, false, false, false, false, false, false, false, false, false, false, false, false, false, false, false, false] (fun k => [(4, vint .i64 k)]) (h_spec_l6Copy (.box [.pv (.str x.name), .pv (.lst (x.items.map XItem.e)), .pv (.int .i64 x.auto)]) (.box [.pv (.str []), .nil, .pv (.int .i64 0)]) (.pv (.str x.name)) (.pv (.int .i64 x.auto)) (x.items.map XItem.e)) rfl ?_ ?_ ?_
 ·exact Kn.of [0, 1, 2] (by decide) (by simp [h_spec_l6Copy, keepM_t, keepM_f, keepM_n, setT_c, setT_n, relVs, relV, relLs, relL, relTs, relObs, relOb, L.ren, ren_dat]) (by simp [keepM_t, keepM_f, keepM_n, setT_c, setT_n, relVs, relV, relLs, relL, relTs, relObs, relOb, L.ren, ren_dat])
 ·intro k hk
  have ek := e1 k hk
  have hx := XItem_e x.items[k]
  have ht := take_nextE (e := XItem.e) hk
  rw [hx] at ht
  cases k with
  | zero =>
   simp only [h_spec_l6Copy, ht]
   simp [b_spec_l6Copy_0, hk, hx, ek, wrap_1]
   exact Kn.q [0, 1, 2, 5]
  | succ k =>
   obtain ⟨i1, i2, i3, i4, i5, i6⟩ := idxS (n := x.items.length) (by unfold maxLen; omega) hk
   have b1 : min (k + 1) x.items.length = k + 1 := by omega
   have m1 := lims (m := k + 1 + 1) (z := 56) (by omega) (by omega)
   simp only [h_spec_l6Copy, ht]
   generalize hT : List.take (k + 1) _ = T
   have hTl : T.length = k + 1 := by rw [← hT]; simp; omega
   simp [b_spec_l6Copy_0, hk, hx, ek, i1, i2, i3, i4, i5, i6, hTl, m1]
   exact Kn.q [0, 1, 2, 6]
 ·cases hq : x.items with
  | nil => simp [b_spec_l6Copy_0, h_spec_l6Copy, nd]
  | cons q qs =>
   have hT : (x.items.map XItem.e).take (qs.length + 1) = x.items.map XItem.e := List.take_of_length_le (by rw [hq]; simp)
   rw [hq] at hT
   simp only [List.length_cons, h_spec_l6Copy, hT]
   simp [b_spec_l6Copy_0, nd]
theorem impl_copyServer_ok {B : Nat} (hB : B ≤ 1048576) {x : XServer} (h : x.Ok B) : callL Ph extF 461 [.agg [.pv (.str x.store.name), .pv (.lst (x.store.items.map XItem.e)), .pv (.int .i64 x.store.auto), .pv (.lst (x.applied.map XApplied.e)), .pv (.lst (x.changes.map XWrite.e))]] = some (.agg [.pv (.str x.store.name), nd 4 (x.store.items.map XItem.e), .pv (.int .i64 x.store.auto), .down 2 (x.applied.map XApplied.e), .down 7 (x.changes.map XWrite.e)]) := by
 obtain ⟨h_store, h_applied, h_changes⟩ := h
 have c0 := impl_copyStore_ok hB h_store
 have F0 : Flat 2 (x.applied.map XApplied.e) := ⟨flat_map (e := XApplied.e) (fun _ => rfl) _, wid_map (e := XApplied.e) (z := 2) (fun _ => rfl) _, by rw [List.length_map]; have := h_applied.1; omega⟩
 have hf0 := F0.flat
 have hw0 := F0.wid
 have m0 := lims (m := (x.applied.map XApplied.e).length) (z := 16) (by have := F0.len; omega) (by omega)
 generalize (x.applied.map XApplied.e) = R0 at F0 hf0 hw0 m0 ⊢
 have F1 : Flat 7 (x.changes.map XWrite.e) := ⟨flat_map (e := XWrite.e) (fun _ => rfl) _, wid_map (e := XWrite.e) (z := 7) (fun _ => rfl) _, by rw [List.length_map]; have := h_changes.1; omega⟩
 have hf1 := F1.flat
 have hw1 := F1.wid
 have m1 := lims (m := (x.changes.map XWrite.e).length) (z := 72) (by have := F1.len; omega) (by omega)
 generalize (x.changes.map XWrite.e) = R1 at F1 hf1 hw1 m1 ⊢
 have N0 := nd_or 4 (x.store.items.map XItem.e)
 generalize nd 4 (x.store.items.map XItem.e) = n0 at N0 c0 ⊢
 rcases N0 with ⟨-, rfl⟩ | ⟨-, rfl⟩ <;> (refine callL_wp (fn := f_impl_copyServer) rfl ?_; simp [f_impl_copyServer, c0, hf0, hw0, m0, hf1, hw1, m1])
theorem spec_l21Copy_ok {B : Nat} (hB : B ≤ 1048576) {x : XServer} (h : x.Ok B) : callL Ph extF 455 [.agg [.pv (.str x.store.name), .pv (.lst (x.store.items.map XItem.e)), .pv (.int .i64 x.store.auto), .pv (.lst (x.applied.map XApplied.e)), .pv (.lst (x.changes.map XWrite.e))]] = some (.agg [.pv (.str x.store.name), nd 4 (x.store.items.map XItem.e), .pv (.int .i64 x.store.auto), .down 2 (x.applied.map XApplied.e), .down 7 (x.changes.map XWrite.e)]) := by
 obtain ⟨h_store, h_applied, h_changes⟩ := h
 have c0 := spec_l6Copy_ok hB h_store
 have F0 : Flat 2 (x.applied.map XApplied.e) := ⟨flat_map (e := XApplied.e) (fun _ => rfl) _, wid_map (e := XApplied.e) (z := 2) (fun _ => rfl) _, by rw [List.length_map]; have := h_applied.1; omega⟩
 have hf0 := F0.flat
 have hw0 := F0.wid
 have m0 := lims (m := (x.applied.map XApplied.e).length) (z := 16) (by have := F0.len; omega) (by omega)
 generalize (x.applied.map XApplied.e) = R0 at F0 hf0 hw0 m0 ⊢
 have F1 : Flat 7 (x.changes.map XWrite.e) := ⟨flat_map (e := XWrite.e) (fun _ => rfl) _, wid_map (e := XWrite.e) (z := 7) (fun _ => rfl) _, by rw [List.length_map]; have := h_changes.1; omega⟩
 have hf1 := F1.flat
 have hw1 := F1.wid
 have m1 := lims (m := (x.changes.map XWrite.e).length) (z := 72) (by have := F1.len; omega) (by omega)
 generalize (x.changes.map XWrite.e) = R1 at F1 hf1 hw1 m1 ⊢
 have N0 := nd_or 4 (x.store.items.map XItem.e)
 generalize nd 4 (x.store.items.map XItem.e) = n0 at N0 c0 ⊢
 rcases N0 with ⟨-, rfl⟩ | ⟨-, rfl⟩ <;> (refine callL_wp (fn := f_spec_l21Copy) rfl ?_; simp [f_spec_l21Copy, c0, hf0, hw0, m0, hf1, hw1, m1])
theorem impl_copyReplica_ok {B : Nat} (hB : B ≤ 1048576) {x : XReplica} (h : x.Ok B) : callL Ph extF 492 [.agg [.pv (.str x.base.name), .pv (.lst (x.base.items.map XItem.e)), .pv (.int .i64 x.base.auto), .pv (.int .i64 x.seen), .pv (.int .i64 x.sync.outbox.dev), .pv (.int .i64 x.sync.outbox.next), .pv (.lst (x.sync.outbox.writes.map XWrite.e)), .pv (.int .i64 x.sync.tries), .pv (.int .i64 x.sync.wait)]] = some (.agg [.pv (.str x.base.name), nd 4 (x.base.items.map XItem.e), .pv (.int .i64 x.base.auto), .pv (.int .i64 x.seen), .pv (.int .i64 x.sync.outbox.dev), .pv (.int .i64 x.sync.outbox.next), .down 7 (x.sync.outbox.writes.map XWrite.e), .pv (.int .i64 x.sync.tries), .pv (.int .i64 x.sync.wait)]) := by
 obtain ⟨h_base, h_seen, h_sync⟩ := h
 have c0 := impl_copyStore_ok hB h_base
 have c1 := impl_copySync_ok hB h_sync
 have N0 := nd_or 4 (x.base.items.map XItem.e)
 generalize nd 4 (x.base.items.map XItem.e) = n0 at N0 c0 c1 ⊢
 rcases N0 with ⟨-, rfl⟩ | ⟨-, rfl⟩ <;> (refine callL_wp (fn := f_impl_copyReplica) rfl ?_; simp [f_impl_copyReplica, c0, c1])
theorem spec_l23Copy_ok {B : Nat} (hB : B ≤ 1048576) {x : XReplica} (h : x.Ok B) : callL Ph extF 488 [.agg [.pv (.str x.base.name), .pv (.lst (x.base.items.map XItem.e)), .pv (.int .i64 x.base.auto), .pv (.int .i64 x.seen), .pv (.int .i64 x.sync.outbox.dev), .pv (.int .i64 x.sync.outbox.next), .pv (.lst (x.sync.outbox.writes.map XWrite.e)), .pv (.int .i64 x.sync.tries), .pv (.int .i64 x.sync.wait)]] = some (.agg [.pv (.str x.base.name), nd 4 (x.base.items.map XItem.e), .pv (.int .i64 x.base.auto), .pv (.int .i64 x.seen), .pv (.int .i64 x.sync.outbox.dev), .pv (.int .i64 x.sync.outbox.next), .down 7 (x.sync.outbox.writes.map XWrite.e), .pv (.int .i64 x.sync.tries), .pv (.int .i64 x.sync.wait)]) := by
 obtain ⟨h_base, h_seen, h_sync⟩ := h
 have c0 := spec_l6Copy_ok hB h_base
 have c1 := spec_l22Copy_ok hB h_sync
 have N0 := nd_or 4 (x.base.items.map XItem.e)
 generalize nd 4 (x.base.items.map XItem.e) = n0 at N0 c0 c1 ⊢
 rcases N0 with ⟨-, rfl⟩ | ⟨-, rfl⟩ <;> (refine callL_wp (fn := f_spec_l23Copy) rfl ?_; simp [f_spec_l23Copy, c0, c1])
end Gi
