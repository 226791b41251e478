/- Of this proof. -/
import Derived.Test.YtpfadfkomcbecaaGreatGkt
set_option linter.unusedSimpArgs false
set_option linter.unusedVariables false
namespace Gi
open Go Go.RowKit
set_option maxHeartbeats 8000000
set_option maxRecDepth 4000
attribute [local simp] start ah az aH bf bU Opd.ev put V.cells plain bm gu isInt isStr isBool bin bM oE oD un asList L.view ap V.view viewL aV au bE bN comp aK bq dw co bz bw bx bI bi cq aW bD aR aX bG cr bF bC bH V.flat L.flat dG dk bt putAt thaw thawL thawT freezeVs freezeLs freezeL V.mut L.mut aJ aT dH ca dL bO bB wp_seq wp_block ov wp_cond wp_skip wp_exit wp_ret cG cE cP cH dd de db cj aU L.notArr aQ aO aP dW bn storeD a9 fR bo cD be nX L.mov L.closed V.closed PV.bare PV.flat
theorem sI {B:Nat}(hB:B≤1048576){x:XResponse}(h:x.Ok B):ag Ph aF 334 [.agg [.pv (.int .i64 x.type), .pv (.int .i64 x.status), .pv (.int .i64 x.version), .pv (.lst (al x.body)), .pv (.bool x.shares)]]=some (.agg [.pv (.int .i64 x.type), .pv (.int .i64 x.status), .pv (.int .i64 x.version), .down 1 (al x.body), .pv (.bool x.shares)]):=by
 obtain⟨h_type,h_status,h_version,h_body⟩:=h
 have c0:=me (R:=al x.body) ⟨pb _,iT _,by rw[bp];omega⟩
 refine ae (fn:=j5) rfl ?_
 simp[j5,c0]
theorem BM {B:Nat}(hB:B≤1048576){x:XResponse}(h:x.Ok B):ag Ph aF 329 [.agg [.pv (.int .i64 x.type), .pv (.int .i64 x.status), .pv (.int .i64 x.version), .pv (.lst (al x.body)), .pv (.bool x.shares)]]=some (.agg [.pv (.int .i64 x.type), .pv (.int .i64 x.status), .pv (.int .i64 x.version), .down 1 (al x.body), .pv (.bool x.shares)]):=by
 obtain⟨h_type,h_status,h_version,h_body⟩:=h
 have F0:Flat 1 (al x.body):=⟨pb _,iT _,by rw[bp];omega⟩
 have hf0:=F0.flat
 have hw0:=F0.wid
 have m0:=eR (m:=(al x.body).length) (z:=1) (by have:=F0.len;omega) (by omega)
 rw[Nat.mul_one]at m0
 generalize (al x.body)=R0 at F0 hf0 hw0 m0⊢
 refine ae (fn:=oR) rfl ?_
 simp[oR,hf0,hw0,m0]
theorem vP {B:Nat}(hB:B≤1048576){x:XOutbox}(h:x.Ok B):ag Ph aF 501 [.agg [.pv (.int .i64 x.dev), .pv (.int .i64 x.next), .pv (.lst (x.writes.map XWrite.e))]]=some (.agg [.pv (.int .i64 x.dev), .pv (.int .i64 x.next), .down 7 (x.writes.map XWrite.e)]):=by
 obtain⟨h_dev,h_next,h_writes⟩:=h
 have F0:Flat 7 (x.writes.map XWrite.e):=⟨dF (e:=XWrite.e) (fun _=>rfl) _,dz (e:=XWrite.e) (z:=7) (fun _=>rfl) _,by rw[List.length_map];have:=h_writes.1;omega⟩
 have hf0:=F0.flat
 have hw0:=F0.wid
 have m0:=eR (m:=(x.writes.map XWrite.e).length) (z:=72) (by have:=F0.len;omega) (by omega)
 generalize (x.writes.map XWrite.e)=R0 at F0 hf0 hw0 m0⊢
 refine ae (fn:=lM) rfl ?_
 simp[lM,hf0,hw0,m0]
theorem BQ {B:Nat}(hB:B≤1048576){x:XOutbox}(h:x.Ok B):ag Ph aF 500 [.agg [.pv (.int .i64 x.dev), .pv (.int .i64 x.next), .pv (.lst (x.writes.map XWrite.e))]]=some (.agg [.pv (.int .i64 x.dev), .pv (.int .i64 x.next), .down 7 (x.writes.map XWrite.e)]):=by
 obtain⟨h_dev,h_next,h_writes⟩:=h
 have F0:Flat 7 (x.writes.map XWrite.e):=⟨dF (e:=XWrite.e) (fun _=>rfl) _,dz (e:=XWrite.e) (z:=7) (fun _=>rfl) _,by rw[List.length_map];have:=h_writes.1;omega⟩
 have hf0:=F0.flat
 have hw0:=F0.wid
 have m0:=eR (m:=(x.writes.map XWrite.e).length) (z:=72) (by have:=F0.len;omega) (by omega)
 generalize (x.writes.map XWrite.e)=R0 at F0 hf0 hw0 m0⊢
 refine ae (fn:=oV) rfl ?_
 simp[oV,hf0,hw0,m0]
theorem zG {B:Nat}(hB:B≤1048576){x:XSync}(h:x.Ok B):ag Ph aF 499 [.agg [.pv (.int .i64 x.outbox.dev), .pv (.int .i64 x.outbox.next), .pv (.lst (x.outbox.writes.map XWrite.e)), .pv (.int .i64 x.tries), .pv (.int .i64 x.wait)]]=some (.agg [.pv (.int .i64 x.outbox.dev), .pv (.int .i64 x.outbox.next), .down 7 (x.outbox.writes.map XWrite.e), .pv (.int .i64 x.tries), .pv (.int .i64 x.wait)]):=by
 obtain⟨h_outbox,h_tries,h_wait⟩:=h
 have c0:=vP hB h_outbox
 refine ae (fn:=nI) rfl ?_
 simp[nI,c0]
theorem BS {B:Nat}(hB:B≤1048576){x:XSync}(h:x.Ok B):ag Ph aF 497 [.agg [.pv (.int .i64 x.outbox.dev), .pv (.int .i64 x.outbox.next), .pv (.lst (x.outbox.writes.map XWrite.e)), .pv (.int .i64 x.tries), .pv (.int .i64 x.wait)]]=some (.agg [.pv (.int .i64 x.outbox.dev), .pv (.int .i64 x.outbox.next), .down 7 (x.outbox.writes.map XWrite.e), .pv (.int .i64 x.tries), .pv (.int .i64 x.wait)]):=by
 obtain⟨h_outbox,h_tries,h_wait⟩:=h
 have c0:=BQ hB h_outbox
 refine ae (fn:=oX) rfl ?_
 simp[oX,c0]
theorem mf {B:Nat}(hB:B≤1048576){x:XLockTable}(h:x.Ok B):ag Ph aF 458 [.agg [.pv (.lst (x.locks.map XLock.e))]]=some (.agg [.down 4 (x.locks.map XLock.e)]):=by
 have h_locks:=h
 have F0:Flat 4 (x.locks.map XLock.e):=⟨dF (e:=XLock.e) (fun _=>rfl) _,dz (e:=XLock.e) (z:=4) (fun _=>rfl) _,by rw[List.length_map];have:=h_locks.1;omega⟩
 have hf0:=F0.flat
 have hw0:=F0.wid
 have m0:=eR (m:=(x.locks.map XLock.e).length) (z:=32) (by have:=F0.len;omega) (by omega)
 generalize (x.locks.map XLock.e)=R0 at F0 hf0 hw0 m0⊢
 refine ae (fn:=mS) rfl ?_
 simp[mS,hf0,hw0,m0]
theorem r7 {B:Nat}(hB:B≤1048576){x:XLockTable}(h:x.Ok B):ag Ph aF 452 [.agg [.pv (.lst (x.locks.map XLock.e))]]=some (.agg [.down 4 (x.locks.map XLock.e)]):=by
 have h_locks:=h
 have F0:Flat 4 (x.locks.map XLock.e):=⟨dF (e:=XLock.e) (fun _=>rfl) _,dz (e:=XLock.e) (z:=4) (fun _=>rfl) _,by rw[List.length_map];have:=h_locks.1;omega⟩
 have hf0:=F0.flat
 have hw0:=F0.wid
 have m0:=eR (m:=(x.locks.map XLock.e).length) (z:=32) (by have:=F0.len;omega) (by omega)
 generalize (x.locks.map XLock.e)=R0 at F0 hf0 hw0 m0⊢
 refine ae (fn:=oZ) rfl ?_
 simp[oZ,hf0,hw0,m0]
theorem t6 {B:Nat}(hB:B≤1048576){x:XChannel}(h:x.Ok B):ag Ph aF 459 [.agg [.pv (.lst (x.mails.map XMail.e))]]=some (.agg [.down 3 (x.mails.map XMail.e)]):=by
 have h_mails:=h
 have F0:Flat 3 (x.mails.map XMail.e):=⟨dF (e:=XMail.e) (fun _=>rfl) _,dz (e:=XMail.e) (z:=3) (fun _=>rfl) _,by rw[List.length_map];have:=h_mails.1;omega⟩
 have hf0:=F0.flat
 have hw0:=F0.wid
 have m0:=eR (m:=(x.mails.map XMail.e).length) (z:=24) (by have:=F0.len;omega) (by omega)
 generalize (x.mails.map XMail.e)=R0 at F0 hf0 hw0 m0⊢
 refine ae (fn:=kS) rfl ?_
 simp[kS,hf0,hw0,m0]
theorem BV {B:Nat}(hB:B≤1048576){x:XChannel}(h:x.Ok B):ag Ph aF 453 [.agg [.pv (.lst (x.mails.map XMail.e))]]=some (.agg [.down 3 (x.mails.map XMail.e)]):=by
 have h_mails:=h
 have F0:Flat 3 (x.mails.map XMail.e):=⟨dF (e:=XMail.e) (fun _=>rfl) _,dz (e:=XMail.e) (z:=3) (fun _=>rfl) _,by rw[List.length_map];have:=h_mails.1;omega⟩
 have hf0:=F0.flat
 have hw0:=F0.wid
 have m0:=eR (m:=(x.mails.map XMail.e).length) (z:=24) (by have:=F0.len;omega) (by omega)
 generalize (x.mails.map XMail.e)=R0 at F0 hf0 hw0 m0⊢
 refine ae (fn:=o4) rfl ?_
 simp[o4,hf0,hw0,m0]
theorem zF {B:Nat}(hB:B≤1048576){x:XSite}(h:x.Ok B):ag Ph aF 460 [.agg [.pv (.str x.name), .pv (.int .i64 x.version), .pv (.lst (x.files.map vY)), .pv (.bool x.shared)]]=some (.agg [.pv (.str x.name), .pv (.int .i64 x.version), .down 1 (x.files.map vY), .pv (.bool x.shared)]):=by
 obtain⟨h_name,h_version,h_files⟩:=h
 have F0:Flat 1 (x.files.map vY):=⟨dF (e:=vY) (fun _=>rfl) _,dz (e:=vY) (z:=1) (fun _=>rfl) _,by rw[List.length_map];have:=h_files.1;omega⟩
 have hf0:=F0.flat
 have hw0:=F0.wid
 have m0:=eR (m:=(x.files.map vY).length) (z:=16) (by have:=F0.len;omega) (by omega)
 generalize (x.files.map vY)=R0 at F0 hf0 hw0 m0⊢
 refine ae (fn:=nH) rfl ?_
 simp[nH,hf0,hw0,m0]
theorem BN {B:Nat}(hB:B≤1048576){x:XSite}(h:x.Ok B):ag Ph aF 454 [.agg [.pv (.str x.name), .pv (.int .i64 x.version), .pv (.lst (x.files.map vY)), .pv (.bool x.shared)]]=some (.agg [.pv (.str x.name), .pv (.int .i64 x.version), .down 1 (x.files.map vY), .pv (.bool x.shared)]):=by
 obtain⟨h_name,h_version,h_files⟩:=h
 have F0:Flat 1 (x.files.map vY):=⟨dF (e:=vY) (fun _=>rfl) _,dz (e:=vY) (z:=1) (fun _=>rfl) _,by rw[List.length_map];have:=h_files.1;omega⟩
 have hf0:=F0.flat
 have hw0:=F0.wid
 have m0:=eR (m:=(x.files.map vY).length) (z:=16) (by have:=F0.len;omega) (by omega)
 generalize (x.files.map vY)=R0 at F0 hf0 hw0 m0⊢
 refine ae (fn:=oS) rfl ?_
 simp[oS,hf0,hw0,m0]
theorem vR {B:Nat}(hB:B≤1048576){x:XServer}(h:x.Ok B):ag Ph aF 461 [.agg [.pv (.str x.store.name), .pv (.lst (x.store.items.map XItem.e)), .pv (.int .i64 x.store.auto), .pv (.lst (x.applied.map XApplied.e)), .pv (.lst (x.changes.map XWrite.e))]]=some (.agg [.pv (.str x.store.name),nd 4 (x.store.items.map XItem.e), .pv (.int .i64 x.store.auto), .down 2 (x.applied.map XApplied.e), .down 7 (x.changes.map XWrite.e)]):=by
 obtain⟨h_store,h_applied,h_changes⟩:=h
 have c0:=mh hB h_store
 have F0:Flat 2 (x.applied.map XApplied.e):=⟨dF (e:=XApplied.e) (fun _=>rfl) _,dz (e:=XApplied.e) (z:=2) (fun _=>rfl) _,by rw[List.length_map];have:=h_applied.1;omega⟩
 have hf0:=F0.flat
 have hw0:=F0.wid
 have m0:=eR (m:=(x.applied.map XApplied.e).length) (z:=16) (by have:=F0.len;omega) (by omega)
 generalize (x.applied.map XApplied.e)=R0 at F0 hf0 hw0 m0⊢
 have F1:Flat 7 (x.changes.map XWrite.e):=⟨dF (e:=XWrite.e) (fun _=>rfl) _,dz (e:=XWrite.e) (z:=7) (fun _=>rfl) _,by rw[List.length_map];have:=h_changes.1;omega⟩
 have hf1:=F1.flat
 have hw1:=F1.wid
 have m1:=eR (m:=(x.changes.map XWrite.e).length) (z:=72) (by have:=F1.len;omega) (by omega)
 generalize (x.changes.map XWrite.e)=R1 at F1 hf1 hw1 m1⊢
 have N0:=fi 4 (x.store.items.map XItem.e)
 generalize nd 4 (x.store.items.map XItem.e)=n0 at N0 c0⊢
 rcases N0 with⟨-,rfl⟩|⟨-,rfl⟩<;>(refine ae (fn:=lO) rfl ?_;simp[lO,c0,hf0,hw0,m0,hf1,hw1,m1])
theorem BR {B:Nat}(hB:B≤1048576){x:XServer}(h:x.Ok B):ag Ph aF 455 [.agg [.pv (.str x.store.name), .pv (.lst (x.store.items.map XItem.e)), .pv (.int .i64 x.store.auto), .pv (.lst (x.applied.map XApplied.e)), .pv (.lst (x.changes.map XWrite.e))]]=some (.agg [.pv (.str x.store.name),nd 4 (x.store.items.map XItem.e), .pv (.int .i64 x.store.auto), .down 2 (x.applied.map XApplied.e), .down 7 (x.changes.map XWrite.e)]):=by
 obtain⟨h_store,h_applied,h_changes⟩:=h
 have c0:=pq hB h_store
 have F0:Flat 2 (x.applied.map XApplied.e):=⟨dF (e:=XApplied.e) (fun _=>rfl) _,dz (e:=XApplied.e) (z:=2) (fun _=>rfl) _,by rw[List.length_map];have:=h_applied.1;omega⟩
 have hf0:=F0.flat
 have hw0:=F0.wid
 have m0:=eR (m:=(x.applied.map XApplied.e).length) (z:=16) (by have:=F0.len;omega) (by omega)
 generalize (x.applied.map XApplied.e)=R0 at F0 hf0 hw0 m0⊢
 have F1:Flat 7 (x.changes.map XWrite.e):=⟨dF (e:=XWrite.e) (fun _=>rfl) _,dz (e:=XWrite.e) (z:=7) (fun _=>rfl) _,by rw[List.length_map];have:=h_changes.1;omega⟩
 have hf1:=F1.flat
 have hw1:=F1.wid
 have m1:=eR (m:=(x.changes.map XWrite.e).length) (z:=72) (by have:=F1.len;omega) (by omega)
 generalize (x.changes.map XWrite.e)=R1 at F1 hf1 hw1 m1⊢
 have N0:=fi 4 (x.store.items.map XItem.e)
 generalize nd 4 (x.store.items.map XItem.e)=n0 at N0 c0⊢
 rcases N0 with⟨-,rfl⟩|⟨-,rfl⟩<;>(refine ae (fn:=oW) rfl ?_;simp[oW,c0,hf0,hw0,m0,hf1,hw1,m1])
theorem t8 {B:Nat}(hB:B≤1048576){x:XReplica}(h:x.Ok B):ag Ph aF 492 [.agg [.pv (.str x.base.name), .pv (.lst (x.base.items.map XItem.e)), .pv (.int .i64 x.base.auto), .pv (.int .i64 x.seen), .pv (.int .i64 x.sync.outbox.dev), .pv (.int .i64 x.sync.outbox.next), .pv (.lst (x.sync.outbox.writes.map XWrite.e)), .pv (.int .i64 x.sync.tries), .pv (.int .i64 x.sync.wait)]]=some (.agg [.pv (.str x.base.name),nd 4 (x.base.items.map XItem.e), .pv (.int .i64 x.base.auto), .pv (.int .i64 x.seen), .pv (.int .i64 x.sync.outbox.dev), .pv (.int .i64 x.sync.outbox.next), .down 7 (x.sync.outbox.writes.map XWrite.e), .pv (.int .i64 x.sync.tries), .pv (.int .i64 x.sync.wait)]):=by
 obtain⟨h_base,h_seen,h_sync⟩:=h
 have c0:=mh hB h_base
 have c1:=zG hB h_sync
 have N0:=fi 4 (x.base.items.map XItem.e)
 generalize nd 4 (x.base.items.map XItem.e)=n0 at N0 c0 c1⊢
 rcases N0 with⟨-,rfl⟩|⟨-,rfl⟩<;>(refine ae (fn:=kU) rfl ?_;simp[kU,c0,c1])
theorem BU {B:Nat}(hB:B≤1048576){x:XReplica}(h:x.Ok B):ag Ph aF 488 [.agg [.pv (.str x.base.name), .pv (.lst (x.base.items.map XItem.e)), .pv (.int .i64 x.base.auto), .pv (.int .i64 x.seen), .pv (.int .i64 x.sync.outbox.dev), .pv (.int .i64 x.sync.outbox.next), .pv (.lst (x.sync.outbox.writes.map XWrite.e)), .pv (.int .i64 x.sync.tries), .pv (.int .i64 x.sync.wait)]]=some (.agg [.pv (.str x.base.name),nd 4 (x.base.items.map XItem.e), .pv (.int .i64 x.base.auto), .pv (.int .i64 x.seen), .pv (.int .i64 x.sync.outbox.dev), .pv (.int .i64 x.sync.outbox.next), .down 7 (x.sync.outbox.writes.map XWrite.e), .pv (.int .i64 x.sync.tries), .pv (.int .i64 x.sync.wait)]):=by
 obtain⟨h_base,h_seen,h_sync⟩:=h
 have c0:=pq hB h_base
 have c1:=BS hB h_sync
 have N0:=fi 4 (x.base.items.map XItem.e)
 generalize nd 4 (x.base.items.map XItem.e)=n0 at N0 c0 c1⊢
 rcases N0 with⟨-,rfl⟩|⟨-,rfl⟩<;>(refine ae (fn:=oY) rfl ?_;simp[oY,c0,c1])
theorem zD {B:Nat}(hB:B≤1048576){x:XDisk}(h:x.Ok B):ag Ph aF 491 [.agg [.pv (.str x.base.name), .pv (.int .i64 x.base.version), .pv (.lst (x.base.stores.map XStore.e)), .pv (.lst (x.base.unique.map XIndexDef.e)), .pv (.lst (al x.log)), .pv (.int .i64 x.count)]]=some (.agg [.pv (.str x.base.name), .pv (.int .i64 x.base.version),nd 3 (x.base.stores.map XStore.e), .down 2 (x.base.unique.map XIndexDef.e), .down 1 (al x.log), .pv (.int .i64 x.count)]):=by
 obtain⟨h_base,h_log,h_count⟩:=h
 have c0:=sH hB h_base
 have c1:=me (R:=al x.log) ⟨pb _,iT _,by rw[bp];omega⟩
 have N0:=fi 3 (x.base.stores.map XStore.e)
 generalize nd 3 (x.base.stores.map XStore.e)=n0 at N0 c0 c1⊢
 rcases N0 with⟨-,rfl⟩|⟨-,rfl⟩<;>(refine ae (fn:=nE) rfl ?_;simp[nE,c0,c1])
theorem BK {B:Nat}(hB:B≤1048576){x:XDisk}(h:x.Ok B):ag Ph aF 487 [.agg [.pv (.str x.base.name), .pv (.int .i64 x.base.version), .pv (.lst (x.base.stores.map XStore.e)), .pv (.lst (x.base.unique.map XIndexDef.e)), .pv (.lst (al x.log)), .pv (.int .i64 x.count)]]=some (.agg [.pv (.str x.base.name), .pv (.int .i64 x.base.version),nd 3 (x.base.stores.map XStore.e), .down 2 (x.base.unique.map XIndexDef.e), .down 1 (al x.log), .pv (.int .i64 x.count)]):=by
 obtain⟨h_base,h_log,h_count⟩:=h
 have c0:=En hB h_base
 have F0:Flat 1 (al x.log):=⟨pb _,iT _,by rw[bp];omega⟩
 have hf0:=F0.flat
 have hw0:=F0.wid
 have m0:=eR (m:=(al x.log).length) (z:=1) (by have:=F0.len;omega) (by omega)
 rw[Nat.mul_one]at m0
 generalize (al x.log)=R0 at F0 hf0 hw0 m0⊢
 have N0:=fi 3 (x.base.stores.map XStore.e)
 generalize nd 3 (x.base.stores.map XStore.e)=n0 at N0 c0⊢
 rcases N0 with⟨-,rfl⟩|⟨-,rfl⟩<;>(refine ae (fn:=oP) rfl ?_;simp[oP,c0,hf0,hw0,m0])
def gB (b0 b1:AObj)(ver:Int)(rows:List (List PV)):Nat→List AObj
 |0=>[b0,b1, .box [.pv (.int .i64 ver), .nil]]
 |k+1=>[b0,b1, .box [.pv (.int .i64 ver), .arr 3], .darr 7 (rows.take (k+1))]
theorem Ae {B:Nat}(hB:B≤1048576){x:XCache}(h:x.Ok B):ag Ph aF 495 [.agg [.pv (.int .i64 x.version), .pv (.lst (x.entries.map XCached.e))]]=some (.agg [.pv (.int .i64 x.version),nd 7 (x.entries.map XCached.e)]):=by
 obtain⟨h_version,h_entries⟩:=h
 have e1:∀k(hk:k<x.entries.length),_:=fun k hk=>BM hB (h_entries.2 _ (List.getElem_mem hk)).2.2
 have hl:x.entries.length≤1048576:=Nat.le_trans h_entries.1 hB
 refine ae (fn:=nN) rfl ?_
 simp[nN]
 refine cy aM Cl.fin x.entries.length [.f,.t,.t,.t,.t,.f,.f,.f,.f,.f,.f,.f,.f,.f,.f,.f,.f,.f,.f,.f,.f,.f,.f,.f,.f,.f,.f,.f,.f,.f,.f,.f,.f,.f,.f,.f] (fun k=>[(4,aa .i64 k)]) (gB (.box [.pv (.int .i64 x.version), .pv (.lst (x.entries.map XCached.e))]) (.box [.pv (.int .i64 0), .nil]) x.version (x.entries.map XCached.e)) rfl ?_ ?_ ?_
 ·exact Kn.q [0,1,2] (by simp[gB,aQ,aO,aP,dW,bn,aN,bd,aG,dj,bK,bg,bQ,L.ren,aR])
 ·intro k hk
  have ek:=e1 k hk
  have hx:=XCached.e.eq_1 x.entries[k]
  have ht:=bV (e:=XCached.e) hk
  rw[hx]at ht
  cases k with
  |zero=>
   simp only[gB,ht]
   simp[fy,hk,hx,ek,bW]
   exact Kn.q [0,1,2,6]
  |succ k=>
   obtain⟨i1,i2,i3,i4,i5,i6⟩:=nk (n:=x.entries.length) (by unfold maxLen;omega) hk
   have b1:min (k+1) x.entries.length=k+1:=by omega
   have m1:=eR (m:=k+1+1) (z:=88) (by omega) (by omega)
   simp only[gB,ht]
   generalize hT:List.take (k+1) _=T
   have hTl:T.length=k+1:=by rw[←hT];simp;omega
   simp[fy,hk,hx,ek,i1,i2,i3,i4,i5,i6,hTl,m1]
   exact Kn.q [0,1,2,7]
 ·cases hq:x.entries with
  |nil=>simp[fy,gB,nd]
  |cons q qs=>
   have hT:(x.entries.map XCached.e).take (qs.length+1)=x.entries.map XCached.e:=List.take_of_length_le (by rw[hq];simp)
   rw[hq]at hT
   simp only[List.length_cons,gB,hT]
   simp[fy,nd]
def ii (b0 b1:AObj)(rows:List (List PV)):Nat→List AObj
 |0=>[b0,b1, .box [.nil]]
 |k+1=>[b0,b1, .box [.arr 3], .darr 2 (rows.take (k+1))]
theorem BO {B:Nat}(hB:B≤1048576){x:XCacheSet}(h:x.Ok B):ag Ph aF 486 [.agg [.pv (.lst (x.caches.map XCache.e))]]=some (.agg [nd 2 (x.caches.map XCache.e)]):=by
 have h_caches:=h
 have e1:∀k(hk:k<x.caches.length),_:=fun k hk=>Ae hB (h_caches.2 _ (List.getElem_mem hk))
 have hl:x.caches.length≤1048576:=Nat.le_trans h_caches.1 hB
 refine ae (fn:=oT) rfl ?_
 simp[oT]
 refine cy aM Cl.fin x.caches.length [.f,.t,.t,.t,.t,.f,.f,.f,.f,.f,.f,.f,.f,.f,.f,.f,.f,.f,.f,.f,.f,.f,.f,.f,.f] (fun k=>[(4,aa .i64 k)]) (ii (.box [.pv (.lst (x.caches.map XCache.e))]) (.box [.nil]) (x.caches.map XCache.e)) rfl ?_ ?_ ?_
 ·exact Kn.q [0,1,2] (by simp[ii,aQ,aO,aP,dW,bn,aN,bd,aG,dj,bK,bg,bQ,L.ren,aR])
 ·intro k hk
  have ek:=e1 k hk
  have hx:=XCache.e.eq_1 x.caches[k]
  have ht:=bV (e:=XCache.e) hk
  rw[hx]at ht
  have N0:=fi 7 (x.caches[k].entries.map XCached.e)
  generalize nd 7 (x.caches[k].entries.map XCached.e)=n0 at N0 ek
  cases k with
  |zero=>
   simp only[ii,ht]
   rcases N0 with⟨q0,rfl⟩|⟨q0,rfl⟩
   ·simp only[q0]at ek
    simp[eu,hk,hx,ek,bW,q0]
    exact Kn.q [0,1,2,4]
   ·simp[eu,hk,hx,ek,bW]
    exact Kn.q [0,1,2,5]
  |succ k=>
   obtain⟨i1,i2,i3,i4,i5,i6⟩:=nk (n:=x.caches.length) (by unfold maxLen;omega) hk
   have b1:min (k+1) x.caches.length=k+1:=by omega
   have m1:=eR (m:=k+1+1) (z:=32) (by omega) (by omega)
   simp only[ii,ht]
   generalize hT:List.take (k+1) _=T
   have hTl:T.length=k+1:=by rw[←hT];simp;omega
   rcases N0 with⟨q0,rfl⟩|⟨q0,rfl⟩
   ·simp only[q0]at ek
    simp[eu,hk,hx,ek,i1,i2,i3,i4,i5,i6,hTl,m1,q0]
    exact Kn.q [0,1,2,5]
   ·simp[eu,hk,hx,ek,i1,i2,i3,i4,i5,i6,hTl,m1]
    exact Kn.q [0,1,2,6]
 ·cases hq:x.caches with
  |nil=>simp[eu,ii,nd]
  |cons q qs=>
   have hT:(x.caches.map XCache.e).take (qs.length+1)=x.caches.map XCache.e:=List.take_of_length_le (by rw[hq];simp)
   rw[hq]at hT
   simp only[List.length_cons,ii,hT]
   simp[eu,nd]
def NX (b0 b1:AObj)(rows:List (List PV)):Nat→List AObj
 |0=>[b0,b1, .box [.nil]]
 |k+1=>[b0,b1, .box [.arr 3], .darr 2 (rows.take (k+1))]
def Bx (p:Nat)(pre:List AObj)(b5:AObj)(ver:Int)(rows:List (List PV)):Nat→List AObj
 |0=>pre++[b5, .box [.pv (.int .i64 ver), .nil]]
 |j+1=>pre++[b5, .box [.pv (.int .i64 ver), .arr (p+2)], .darr 7 (rows.take (j+1))]
theorem sG {B:Nat}(hB:B≤1048576){x:XCacheSet}(h:x.Ok B):ag Ph aF 490 [.agg [.pv (.lst (x.caches.map XCache.e))]]=some (.agg [nd 2 (x.caches.map XCache.e)]):=by
 have hl:x.caches.length≤1048576:=Nat.le_trans h.1 hB
 refine ae (fn:=j3) rfl ?_
 simp[j3]
 refine cy aM Cl.fin x.caches.length [.f,.f,.t,.t,.f,.f,.f,.f,.f,.f,.f,.t,.t,.t,.f,.f,.f,.f,.f,.f,.f,.f,.f,.f,.f,.f,.f,.f,.f,.f,.f,.f,.f,.f,.f,.f,.f,.f,.f,.f,.f,.f,.f,.f,.f,.f] (fun k=>[(13,aa .i64 k)]) (NX (.box [.pv (.lst (x.caches.map XCache.e))]) (.box [.nil]) (x.caches.map XCache.e)) rfl ?_ ?_ ?_
 ·exact Kn.q [0,1,2] (by simp[NX,aQ,aO,aP,dW,bn,aN,bd,aG,dj,bK,bg,bQ,L.ren,aR])
 ·intro k hk
  have hcx:=h.2 _ (List.getElem_mem hk)
  have hx:=XCache.e.eq_1 x.caches[k]
  have ht:=bV (e:=XCache.e) hk
  rw[hx]at ht
  have hel:x.caches[k].entries.length≤1048576:=Nat.le_trans hcx.2.1 hB
  have e1:∀j(hj:j<x.caches[k].entries.length),_:=fun j hj=>sI hB (hcx.2.2 _ (List.getElem_mem hj)).2.2
  cases k with
  |zero=>
   simp only[NX,ht]
   generalize hE:x.caches[0].entries=E at hx e1 hel⊢
   generalize hv:x.caches[0].version=ver at hx⊢
   simp[dO,hk,hx,bW]
   refine cy aM Cl.kn E.length [.f,.f,.t,.t,.f,.f,.t,.f,.f,.f,.f,.t,.t,.t,.f,.f,.f,.f,.f,.f,.f,.t,.t,.t,.f,.f,.f,.f,.f,.f,.f,.f,.f,.f,.f,.f,.f,.f,.f,.f,.f,.f,.f,.f,.f,.f] (fun j=>[(23,aa .i64 j)]) (Bx 3 [.box [.pv (.lst (x.caches.map XCache.e))], .box [.nil], .box [.nil]] (.box [.pv (.int .i64 ver), .pv (.lst (E.map XCached.e))]) ver (E.map XCached.e)) rfl ?_ ?_ ?_
   ·exact Kn.q [0,1,2,3,4] (by simp[Bx,aQ,aO,aP,dW,bn,aN,bd,aG,dj,bK,bg,bQ,L.ren,aR])
   ·intro j hj
    have ek:=e1 j hj
    have hy:=XCached.e.eq_1 E[j]
    have hu:=bV (e:=XCached.e) hj
    rw[hy]at hu
    cases j with
    |zero=>
     simp only[Bx,hu]
     simp[bA,hj,hy,ek,bW]
     exact Kn.q [0,1,2,3,4,8]
    |succ j=>
     obtain⟨i1,i2,i3,i4,i5,i6⟩:=nk (n:=E.length) (by unfold maxLen;omega) hj
     have m1:=eR (m:=j+1+1) (z:=88) (by omega) (by omega)
     simp only[Bx,hu]
     generalize hU:List.take (j+1) _=U
     have hUl:U.length=j+1:=by rw[←hU];simp;omega
     simp[bA,hj,hy,ek,i1,i2,i3,i4,i5,i6,hUl,m1]
     exact Kn.q [0,1,2,3,4,9]
   ·cases hq:E with
    |nil=>
     simp[bA,Bx,hk,hx,bW]
     exact Kn.q [0,1,2,6]
    |cons q qs=>
     have hT2:(E.map XCached.e).take (qs.length+1)=E.map XCached.e:=List.take_of_length_le (by rw[hq];simp)
     rw[hq]at hT2
     simp only[List.length_cons,Bx,hT2]
     simp[bA,hk,hx,bW]
     exact Kn.q [0,1,2,7]
  |succ k=>
   obtain⟨i1,i2,i3,i4,i5,i6⟩:=nk (n:=x.caches.length) (by unfold maxLen;omega) hk
   have m1:=eR (m:=k+1+1) (z:=32) (by omega) (by omega)
   simp only[NX,ht]
   generalize hT:List.take (k+1) _=T
   have hTl:T.length=k+1:=by rw[←hT];simp;omega
   generalize hE:x.caches[k+1].entries=E at hx e1 hel⊢
   generalize hv:x.caches[k+1].version=ver at hx⊢
   simp[dO,hk,hx,i1,i2,i3,i4,i5,i6,hTl,m1]
   refine cy aM Cl.kn E.length [.f,.f,.t,.t,.f,.f,.t,.f,.f,.f,.f,.t,.t,.t,.f,.f,.f,.f,.f,.f,.f,.t,.t,.t,.f,.f,.f,.f,.f,.f,.f,.f,.f,.f,.f,.f,.f,.f,.f,.f,.f,.f,.f,.f,.f,.f] (fun j=>[(23,aa .i64 j)]) (Bx 4 [.box [.pv (.lst (x.caches.map XCache.e))], .box [.nil], .box [.arr 3], .darr 2 T] (.box [.pv (.int .i64 ver), .pv (.lst (E.map XCached.e))]) ver (E.map XCached.e)) rfl ?_ ?_ ?_
   ·exact Kn.q [0,1,2,3,4,5] (by simp[Bx,aQ,aO,aP,dW,bn,aN,bd,aG,dj,bK,bg,bQ,L.ren,aR])
   ·intro j hj
    have ek:=e1 j hj
    have hy:=XCached.e.eq_1 E[j]
    have hu:=bV (e:=XCached.e) hj
    rw[hy]at hu
    cases j with
    |zero=>
     simp only[Bx,hu]
     simp[bA,hj,hy,ek,bW]
     exact Kn.q [0,1,2,3,4,5,9]
    |succ j=>
     obtain⟨i1,i2,i3,i4,i5,i6⟩:=nk (n:=E.length) (by unfold maxLen;omega) hj
     have m1:=eR (m:=j+1+1) (z:=88) (by omega) (by omega)
     simp only[Bx,hu]
     generalize hU:List.take (j+1) _=U
     have hUl:U.length=j+1:=by rw[←hU];simp;omega
     simp[bA,hj,hy,ek,i1,i2,i3,i4,i5,i6,hUl,m1]
     exact Kn.q [0,1,2,3,4,5,10]
   ·cases hq:E with
    |nil=>
     simp[bA,Bx,hk,hx,i1,i2,i3,i4,i5,i6,hTl,m1]
     exact Kn.q [0,1,2,7]
    |cons q qs=>
     have hT2:(E.map XCached.e).take (qs.length+1)=E.map XCached.e:=List.take_of_length_le (by rw[hq];simp)
     rw[hq]at hT2
     simp only[List.length_cons,Bx,hT2]
     simp[bA,hk,hx,i1,i2,i3,i4,i5,i6,hTl,m1]
     exact Kn.q [0,1,2,8]
 ·cases hq:x.caches with
  |nil=>simp[dO,NX,nd]
  |cons q qs=>
   have hT:(x.caches.map XCache.e).take (qs.length+1)=x.caches.map XCache.e:=List.take_of_length_le (by rw[hq];simp)
   rw[hq]at hT
   simp only[List.length_cons,NX,hT]
   simp[dO,nd]
theorem vO {B:Nat}(hB:B≤1048576){x:XBucket}(h:x.Ok B):ag Ph aF 478 [.agg [.pv (.str x.site), .pv (.str x.top), .pv (.str x.reg.site), .pv (.int .i64 x.reg.installing), .pv (.int .i64 x.reg.waiting), .pv (.int .i64 x.reg.active), .pv (.lst (x.caches.caches.map XCache.e)), .pv (.str x.disk.base.name), .pv (.int .i64 x.disk.base.version), .pv (.lst (x.disk.base.stores.map XStore.e)), .pv (.lst (x.disk.base.unique.map XIndexDef.e)), .pv (.lst (al x.disk.log)), .pv (.int .i64 x.disk.count), .pv (.str x.replica.base.name), .pv (.lst (x.replica.base.items.map XItem.e)), .pv (.int .i64 x.replica.base.auto), .pv (.int .i64 x.replica.seen), .pv (.int .i64 x.replica.sync.outbox.dev), .pv (.int .i64 x.replica.sync.outbox.next), .pv (.lst (x.replica.sync.outbox.writes.map XWrite.e)), .pv (.int .i64 x.replica.sync.tries), .pv (.int .i64 x.replica.sync.wait), .pv (.int .i64 x.lastUsed), .pv (.bool x.persistent)]]=some (.agg [.pv (.str x.site), .pv (.str x.top), .pv (.str x.reg.site), .pv (.int .i64 x.reg.installing), .pv (.int .i64 x.reg.waiting), .pv (.int .i64 x.reg.active),nd 2 (x.caches.caches.map XCache.e), .pv (.str x.disk.base.name), .pv (.int .i64 x.disk.base.version),nd 3 (x.disk.base.stores.map XStore.e), .down 2 (x.disk.base.unique.map XIndexDef.e), .down 1 (al x.disk.log), .pv (.int .i64 x.disk.count), .pv (.str x.replica.base.name),nd 4 (x.replica.base.items.map XItem.e), .pv (.int .i64 x.replica.base.auto), .pv (.int .i64 x.replica.seen), .pv (.int .i64 x.replica.sync.outbox.dev), .pv (.int .i64 x.replica.sync.outbox.next), .down 7 (x.replica.sync.outbox.writes.map XWrite.e), .pv (.int .i64 x.replica.sync.tries), .pv (.int .i64 x.replica.sync.wait), .pv (.int .i64 x.lastUsed), .pv (.bool x.persistent)]):=by
 obtain⟨h_site,h_top,h_reg,h_caches,h_disk,h_replica,h_lastUsed⟩:=h
 have c0:=sG hB h_caches
 have c1:=zD hB h_disk
 have c2:=t8 hB h_replica
 have N0:=fi 2 (x.caches.caches.map XCache.e)
 generalize nd 2 (x.caches.caches.map XCache.e)=n0 at N0 c0 c1 c2⊢
 have N1:=fi 3 (x.disk.base.stores.map XStore.e)
 generalize nd 3 (x.disk.base.stores.map XStore.e)=n1 at N1 c0 c1 c2⊢
 have N2:=fi 4 (x.replica.base.items.map XItem.e)
 generalize nd 4 (x.replica.base.items.map XItem.e)=n2 at N2 c0 c1 c2⊢
 rcases N0 with⟨-,rfl⟩|⟨-,rfl⟩<;>rcases N1 with⟨-,rfl⟩|⟨-,rfl⟩<;>rcases N2 with⟨-,rfl⟩|⟨-,rfl⟩<;>(refine ae (fn:=lL) rfl ?_;simp[lL,c0,c1,c2])
theorem BX {B:Nat}(hB:B≤1048576){x:XBucket}(h:x.Ok B):ag Ph aF 476 [.agg [.pv (.str x.site), .pv (.str x.top), .pv (.str x.reg.site), .pv (.int .i64 x.reg.installing), .pv (.int .i64 x.reg.waiting), .pv (.int .i64 x.reg.active), .pv (.lst (x.caches.caches.map XCache.e)), .pv (.str x.disk.base.name), .pv (.int .i64 x.disk.base.version), .pv (.lst (x.disk.base.stores.map XStore.e)), .pv (.lst (x.disk.base.unique.map XIndexDef.e)), .pv (.lst (al x.disk.log)), .pv (.int .i64 x.disk.count), .pv (.str x.replica.base.name), .pv (.lst (x.replica.base.items.map XItem.e)), .pv (.int .i64 x.replica.base.auto), .pv (.int .i64 x.replica.seen), .pv (.int .i64 x.replica.sync.outbox.dev), .pv (.int .i64 x.replica.sync.outbox.next), .pv (.lst (x.replica.sync.outbox.writes.map XWrite.e)), .pv (.int .i64 x.replica.sync.tries), .pv (.int .i64 x.replica.sync.wait), .pv (.int .i64 x.lastUsed), .pv (.bool x.persistent)]]=some (.agg [.pv (.str x.site), .pv (.str x.top), .pv (.str x.reg.site), .pv (.int .i64 x.reg.installing), .pv (.int .i64 x.reg.waiting), .pv (.int .i64 x.reg.active),nd 2 (x.caches.caches.map XCache.e), .pv (.str x.disk.base.name), .pv (.int .i64 x.disk.base.version),nd 3 (x.disk.base.stores.map XStore.e), .down 2 (x.disk.base.unique.map XIndexDef.e), .down 1 (al x.disk.log), .pv (.int .i64 x.disk.count), .pv (.str x.replica.base.name),nd 4 (x.replica.base.items.map XItem.e), .pv (.int .i64 x.replica.base.auto), .pv (.int .i64 x.replica.seen), .pv (.int .i64 x.replica.sync.outbox.dev), .pv (.int .i64 x.replica.sync.outbox.next), .down 7 (x.replica.sync.outbox.writes.map XWrite.e), .pv (.int .i64 x.replica.sync.tries), .pv (.int .i64 x.replica.sync.wait), .pv (.int .i64 x.lastUsed), .pv (.bool x.persistent)]):=by
 obtain⟨h_site,h_top,h_reg,h_caches,h_disk,h_replica,h_lastUsed⟩:=h
 have c0:=BO hB h_caches
 have c1:=BK hB h_disk
 have c2:=BU hB h_replica
 have N0:=fi 2 (x.caches.caches.map XCache.e)
 generalize nd 2 (x.caches.caches.map XCache.e)=n0 at N0 c0 c1 c2⊢
 have N1:=fi 3 (x.disk.base.stores.map XStore.e)
 generalize nd 3 (x.disk.base.stores.map XStore.e)=n1 at N1 c0 c1 c2⊢
 have N2:=fi 4 (x.replica.base.items.map XItem.e)
 generalize nd 4 (x.replica.base.items.map XItem.e)=n2 at N2 c0 c1 c2⊢
 rcases N0 with⟨-,rfl⟩|⟨-,rfl⟩<;>rcases N1 with⟨-,rfl⟩|⟨-,rfl⟩<;>rcases N2 with⟨-,rfl⟩|⟨-,rfl⟩<;>(refine ae (fn:=o6) rfl ?_;simp[o6,c0,c1,c2])
end Gi
