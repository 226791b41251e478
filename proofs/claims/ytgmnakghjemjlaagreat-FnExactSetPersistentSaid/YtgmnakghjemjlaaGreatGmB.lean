/- Of this proof. -/
import Derived.Test.YtgmnakghjemjlaaGreatGkr
set_option linter.unusedSimpArgs false
set_option linter.unusedVariables false
namespace Gi
open Go Go.RowKit
set_option maxHeartbeats 8000000
set_option maxRecDepth 4000
attribute [local simp] bu ah az aI bg bX Opd.ev put V.cells plain bn f9 isInt isStr isBool bin bD nI nH un asList L.view ap V.view viewL aS av bx bP comp aK bt dz ct bI bG bH bO bj cz aX bK aQ aY bM cB bL bJ bN V.flat L.flat dL du bA putAt thaw thawL thawT freezeVs freezeLs freezeL V.mut L.mut aJ aU dM cj dQ bT bC wp_seq wp_block nD wp_cond wp_skip wp_exit wp_ret cN cM cS cO dj dk di cq aW L.notArr aP aN aO dR bo storeD bc fR br cE bf nE L.mov L.closed V.closed PV.bare PV.flat
theorem ru {B:Nat}(hB:B≤1048576){x:XResponse}(h:x.Ok B):ag Ph aG 334 [.agg [.pv (.int .i64 x.type), .pv (.int .i64 x.status), .pv (.int .i64 x.version), .pv (.lst (al x.body)), .pv (.bool x.shares)]]=some (.agg [.pv (.int .i64 x.type), .pv (.int .i64 x.status), .pv (.int .i64 x.version), .down 1 (al x.body), .pv (.bool x.shares)]):=by
 obtain⟨h_type,h_status,h_version,h_body⟩:=h
 have c0:=ly (R:=al x.body) ⟨ol _,iD _,by rw[bp];omega⟩
 refine ae (fn:=jH) rfl ?_
 simp[jH,c0]
theorem AF {B:Nat}(hB:B≤1048576){x:XResponse}(h:x.Ok B):ag Ph aG 329 [.agg [.pv (.int .i64 x.type), .pv (.int .i64 x.status), .pv (.int .i64 x.version), .pv (.lst (al x.body)), .pv (.bool x.shares)]]=some (.agg [.pv (.int .i64 x.type), .pv (.int .i64 x.status), .pv (.int .i64 x.version), .down 1 (al x.body), .pv (.bool x.shares)]):=by
 obtain⟨h_type,h_status,h_version,h_body⟩:=h
 have F0:Flat 1 (al x.body):=⟨ol _,iD _,by rw[bp];omega⟩
 have hf0:=F0.flat
 have hw0:=F0.wid
 have m0:=eR (m:=(al x.body).length) (z:=1) (by have:=F0.len;omega) (by omega)
 rw[Nat.mul_one]at m0
 generalize (al x.body)=R0 at F0 hf0 hw0 m0⊢
 refine ae (fn:=nU) rfl ?_
 simp[nU,hf0,hw0,m0]
theorem ur {B:Nat}(hB:B≤1048576){x:XOutbox}(h:x.Ok B):ag Ph aG 501 [.agg [.pv (.int .i64 x.dev), .pv (.int .i64 x.next), .pv (.lst (x.writes.map XWrite.e))]]=some (.agg [.pv (.int .i64 x.dev), .pv (.int .i64 x.next), .down 7 (x.writes.map XWrite.e)]):=by
 obtain⟨h_dev,h_next,h_writes⟩:=h
 have F0:Flat 7 (x.writes.map XWrite.e):=⟨dG (e:=XWrite.e) (fun _=>rfl) _,dy (e:=XWrite.e) (z:=7) (fun _=>rfl) _,by rw[List.length_map];have:=h_writes.1;omega⟩
 have hf0:=F0.flat
 have hw0:=F0.wid
 have m0:=eR (m:=(x.writes.map XWrite.e).length) (z:=72) (by have:=F0.len;omega) (by omega)
 generalize (x.writes.map XWrite.e)=R0 at F0 hf0 hw0 m0⊢
 refine ae (fn:=k7) rfl ?_
 simp[k7,hf0,hw0,m0]
theorem AJ {B:Nat}(hB:B≤1048576){x:XOutbox}(h:x.Ok B):ag Ph aG 500 [.agg [.pv (.int .i64 x.dev), .pv (.int .i64 x.next), .pv (.lst (x.writes.map XWrite.e))]]=some (.agg [.pv (.int .i64 x.dev), .pv (.int .i64 x.next), .down 7 (x.writes.map XWrite.e)]):=by
 obtain⟨h_dev,h_next,h_writes⟩:=h
 have F0:Flat 7 (x.writes.map XWrite.e):=⟨dG (e:=XWrite.e) (fun _=>rfl) _,dy (e:=XWrite.e) (z:=7) (fun _=>rfl) _,by rw[List.length_map];have:=h_writes.1;omega⟩
 have hf0:=F0.flat
 have hw0:=F0.wid
 have m0:=eR (m:=(x.writes.map XWrite.e).length) (z:=72) (by have:=F0.len;omega) (by omega)
 generalize (x.writes.map XWrite.e)=R0 at F0 hf0 hw0 m0⊢
 refine ae (fn:=nY) rfl ?_
 simp[nY,hf0,hw0,m0]
theorem yr {B:Nat}(hB:B≤1048576){x:XSync}(h:x.Ok B):ag Ph aG 499 [.agg [.pv (.int .i64 x.outbox.dev), .pv (.int .i64 x.outbox.next), .pv (.lst (x.outbox.writes.map XWrite.e)), .pv (.int .i64 x.tries), .pv (.int .i64 x.wait)]]=some (.agg [.pv (.int .i64 x.outbox.dev), .pv (.int .i64 x.outbox.next), .down 7 (x.outbox.writes.map XWrite.e), .pv (.int .i64 x.tries), .pv (.int .i64 x.wait)]):=by
 obtain⟨h_outbox,h_tries,h_wait⟩:=h
 have c0:=ur hB h_outbox
 refine ae (fn:=mW) rfl ?_
 simp[mW,c0]
theorem AL {B:Nat}(hB:B≤1048576){x:XSync}(h:x.Ok B):ag Ph aG 497 [.agg [.pv (.int .i64 x.outbox.dev), .pv (.int .i64 x.outbox.next), .pv (.lst (x.outbox.writes.map XWrite.e)), .pv (.int .i64 x.tries), .pv (.int .i64 x.wait)]]=some (.agg [.pv (.int .i64 x.outbox.dev), .pv (.int .i64 x.outbox.next), .down 7 (x.outbox.writes.map XWrite.e), .pv (.int .i64 x.tries), .pv (.int .i64 x.wait)]):=by
 obtain⟨h_outbox,h_tries,h_wait⟩:=h
 have c0:=AJ hB h_outbox
 refine ae (fn:=n5) rfl ?_
 simp[n5,c0]
theorem wg {B:Nat}(hB:B≤1048576){x:XLockTable}(h:x.Ok B):ag Ph aG 458 [.agg [.pv (.lst (x.locks.map XLock.e))]]=some (.agg [.down 4 (x.locks.map XLock.e)]):=by
 have h_locks:=h
 have F0:Flat 4 (x.locks.map XLock.e):=⟨dG (e:=XLock.e) (fun _=>rfl) _,dy (e:=XLock.e) (z:=4) (fun _=>rfl) _,by rw[List.length_map];have:=h_locks.1;omega⟩
 have hf0:=F0.flat
 have hw0:=F0.wid
 have m0:=eR (m:=(x.locks.map XLock.e).length) (z:=32) (by have:=F0.len;omega) (by omega)
 generalize (x.locks.map XLock.e)=R0 at F0 hf0 hw0 m0⊢
 refine ae (fn:=lY) rfl ?_
 simp[lY,hf0,hw0,m0]
theorem AN {B:Nat}(hB:B≤1048576){x:XLockTable}(h:x.Ok B):ag Ph aG 452 [.agg [.pv (.lst (x.locks.map XLock.e))]]=some (.agg [.down 4 (x.locks.map XLock.e)]):=by
 have h_locks:=h
 have F0:Flat 4 (x.locks.map XLock.e):=⟨dG (e:=XLock.e) (fun _=>rfl) _,dy (e:=XLock.e) (z:=4) (fun _=>rfl) _,by rw[List.length_map];have:=h_locks.1;omega⟩
 have hf0:=F0.flat
 have hw0:=F0.wid
 have m0:=eR (m:=(x.locks.map XLock.e).length) (z:=32) (by have:=F0.len;omega) (by omega)
 generalize (x.locks.map XLock.e)=R0 at F0 hf0 hw0 m0⊢
 refine ae (fn:=n7) rfl ?_
 simp[n7,hf0,hw0,m0]
theorem sZ {B:Nat}(hB:B≤1048576){x:XChannel}(h:x.Ok B):ag Ph aG 459 [.agg [.pv (.lst (x.mails.map XMail.e))]]=some (.agg [.down 3 (x.mails.map XMail.e)]):=by
 have h_mails:=h
 have F0:Flat 3 (x.mails.map XMail.e):=⟨dG (e:=XMail.e) (fun _=>rfl) _,dy (e:=XMail.e) (z:=3) (fun _=>rfl) _,by rw[List.length_map];have:=h_mails.1;omega⟩
 have hf0:=F0.flat
 have hw0:=F0.wid
 have m0:=eR (m:=(x.mails.map XMail.e).length) (z:=24) (by have:=F0.len;omega) (by omega)
 generalize (x.mails.map XMail.e)=R0 at F0 hf0 hw0 m0⊢
 refine ae (fn:=km) rfl ?_
 simp[km,hf0,hw0,m0]
theorem AO {B:Nat}(hB:B≤1048576){x:XChannel}(h:x.Ok B):ag Ph aG 453 [.agg [.pv (.lst (x.mails.map XMail.e))]]=some (.agg [.down 3 (x.mails.map XMail.e)]):=by
 have h_mails:=h
 have F0:Flat 3 (x.mails.map XMail.e):=⟨dG (e:=XMail.e) (fun _=>rfl) _,dy (e:=XMail.e) (z:=3) (fun _=>rfl) _,by rw[List.length_map];have:=h_mails.1;omega⟩
 have hf0:=F0.flat
 have hw0:=F0.wid
 have m0:=eR (m:=(x.mails.map XMail.e).length) (z:=24) (by have:=F0.len;omega) (by omega)
 generalize (x.mails.map XMail.e)=R0 at F0 hf0 hw0 m0⊢
 refine ae (fn:=od) rfl ?_
 simp[od,hf0,hw0,m0]
theorem yq {B:Nat}(hB:B≤1048576){x:XSite}(h:x.Ok B):ag Ph aG 460 [.agg [.pv (.str x.name), .pv (.int .i64 x.version), .pv (.lst (x.files.map uD)), .pv (.bool x.shared)]]=some (.agg [.pv (.str x.name), .pv (.int .i64 x.version), .down 1 (x.files.map uD), .pv (.bool x.shared)]):=by
 obtain⟨h_name,h_version,h_files⟩:=h
 have F0:Flat 1 (x.files.map uD):=⟨dG (e:=uD) (fun _=>rfl) _,dy (e:=uD) (z:=1) (fun _=>rfl) _,by rw[List.length_map];have:=h_files.1;omega⟩
 have hf0:=F0.flat
 have hw0:=F0.wid
 have m0:=eR (m:=(x.files.map uD).length) (z:=16) (by have:=F0.len;omega) (by omega)
 generalize (x.files.map uD)=R0 at F0 hf0 hw0 m0⊢
 refine ae (fn:=mV) rfl ?_
 simp[mV,hf0,hw0,m0]
theorem AG {B:Nat}(hB:B≤1048576){x:XSite}(h:x.Ok B):ag Ph aG 454 [.agg [.pv (.str x.name), .pv (.int .i64 x.version), .pv (.lst (x.files.map uD)), .pv (.bool x.shared)]]=some (.agg [.pv (.str x.name), .pv (.int .i64 x.version), .down 1 (x.files.map uD), .pv (.bool x.shared)]):=by
 obtain⟨h_name,h_version,h_files⟩:=h
 have F0:Flat 1 (x.files.map uD):=⟨dG (e:=uD) (fun _=>rfl) _,dy (e:=uD) (z:=1) (fun _=>rfl) _,by rw[List.length_map];have:=h_files.1;omega⟩
 have hf0:=F0.flat
 have hw0:=F0.wid
 have m0:=eR (m:=(x.files.map uD).length) (z:=16) (by have:=F0.len;omega) (by omega)
 generalize (x.files.map uD)=R0 at F0 hf0 hw0 m0⊢
 refine ae (fn:=nV) rfl ?_
 simp[nV,hf0,hw0,m0]
theorem uu {B:Nat}(hB:B≤1048576){x:XServer}(h:x.Ok B):ag Ph aG 461 [.agg [.pv (.str x.store.name), .pv (.lst (x.store.items.map XItem.e)), .pv (.int .i64 x.store.auto), .pv (.lst (x.applied.map XApplied.e)), .pv (.lst (x.changes.map XWrite.e))]]=some (.agg [.pv (.str x.store.name),nd 4 (x.store.items.map XItem.e), .pv (.int .i64 x.store.auto), .down 2 (x.applied.map XApplied.e), .down 7 (x.changes.map XWrite.e)]):=by
 obtain⟨h_store,h_applied,h_changes⟩:=h
 have c0:=lA hB h_store
 have F0:Flat 2 (x.applied.map XApplied.e):=⟨dG (e:=XApplied.e) (fun _=>rfl) _,dy (e:=XApplied.e) (z:=2) (fun _=>rfl) _,by rw[List.length_map];have:=h_applied.1;omega⟩
 have hf0:=F0.flat
 have hw0:=F0.wid
 have m0:=eR (m:=(x.applied.map XApplied.e).length) (z:=16) (by have:=F0.len;omega) (by omega)
 generalize (x.applied.map XApplied.e)=R0 at F0 hf0 hw0 m0⊢
 have F1:Flat 7 (x.changes.map XWrite.e):=⟨dG (e:=XWrite.e) (fun _=>rfl) _,dy (e:=XWrite.e) (z:=7) (fun _=>rfl) _,by rw[List.length_map];have:=h_changes.1;omega⟩
 have hf1:=F1.flat
 have hw1:=F1.wid
 have m1:=eR (m:=(x.changes.map XWrite.e).length) (z:=72) (by have:=F1.len;omega) (by omega)
 generalize (x.changes.map XWrite.e)=R1 at F1 hf1 hw1 m1⊢
 have N0:=eI 4 (x.store.items.map XItem.e)
 generalize nd 4 (x.store.items.map XItem.e)=n0 at N0 c0⊢
 rcases N0 with⟨-,rfl⟩|⟨-,rfl⟩<;>(refine ae (fn:=k9) rfl ?_;simp[k9,c0,hf0,hw0,m0,hf1,hw1,m1])
theorem AK {B:Nat}(hB:B≤1048576){x:XServer}(h:x.Ok B):ag Ph aG 455 [.agg [.pv (.str x.store.name), .pv (.lst (x.store.items.map XItem.e)), .pv (.int .i64 x.store.auto), .pv (.lst (x.applied.map XApplied.e)), .pv (.lst (x.changes.map XWrite.e))]]=some (.agg [.pv (.str x.store.name),nd 4 (x.store.items.map XItem.e), .pv (.int .i64 x.store.auto), .down 2 (x.applied.map XApplied.e), .down 7 (x.changes.map XWrite.e)]):=by
 obtain⟨h_store,h_applied,h_changes⟩:=h
 have c0:=oH hB h_store
 have F0:Flat 2 (x.applied.map XApplied.e):=⟨dG (e:=XApplied.e) (fun _=>rfl) _,dy (e:=XApplied.e) (z:=2) (fun _=>rfl) _,by rw[List.length_map];have:=h_applied.1;omega⟩
 have hf0:=F0.flat
 have hw0:=F0.wid
 have m0:=eR (m:=(x.applied.map XApplied.e).length) (z:=16) (by have:=F0.len;omega) (by omega)
 generalize (x.applied.map XApplied.e)=R0 at F0 hf0 hw0 m0⊢
 have F1:Flat 7 (x.changes.map XWrite.e):=⟨dG (e:=XWrite.e) (fun _=>rfl) _,dy (e:=XWrite.e) (z:=7) (fun _=>rfl) _,by rw[List.length_map];have:=h_changes.1;omega⟩
 have hf1:=F1.flat
 have hw1:=F1.wid
 have m1:=eR (m:=(x.changes.map XWrite.e).length) (z:=72) (by have:=F1.len;omega) (by omega)
 generalize (x.changes.map XWrite.e)=R1 at F1 hf1 hw1 m1⊢
 have N0:=eI 4 (x.store.items.map XItem.e)
 generalize nd 4 (x.store.items.map XItem.e)=n0 at N0 c0⊢
 rcases N0 with⟨-,rfl⟩|⟨-,rfl⟩<;>(refine ae (fn:=nZ) rfl ?_;simp[nZ,c0,hf0,hw0,m0,hf1,hw1,m1])
theorem tb {B:Nat}(hB:B≤1048576){x:XReplica}(h:x.Ok B):ag Ph aG 492 [.agg [.pv (.str x.base.name), .pv (.lst (x.base.items.map XItem.e)), .pv (.int .i64 x.base.auto), .pv (.int .i64 x.seen), .pv (.int .i64 x.sync.outbox.dev), .pv (.int .i64 x.sync.outbox.next), .pv (.lst (x.sync.outbox.writes.map XWrite.e)), .pv (.int .i64 x.sync.tries), .pv (.int .i64 x.sync.wait)]]=some (.agg [.pv (.str x.base.name),nd 4 (x.base.items.map XItem.e), .pv (.int .i64 x.base.auto), .pv (.int .i64 x.seen), .pv (.int .i64 x.sync.outbox.dev), .pv (.int .i64 x.sync.outbox.next), .down 7 (x.sync.outbox.writes.map XWrite.e), .pv (.int .i64 x.sync.tries), .pv (.int .i64 x.sync.wait)]):=by
 obtain⟨h_base,h_seen,h_sync⟩:=h
 have c0:=lA hB h_base
 have c1:=yr hB h_sync
 have N0:=eI 4 (x.base.items.map XItem.e)
 generalize nd 4 (x.base.items.map XItem.e)=n0 at N0 c0 c1⊢
 rcases N0 with⟨-,rfl⟩|⟨-,rfl⟩<;>(refine ae (fn:=kq) rfl ?_;simp[kq,c0,c1])
theorem AM {B:Nat}(hB:B≤1048576){x:XReplica}(h:x.Ok B):ag Ph aG 488 [.agg [.pv (.str x.base.name), .pv (.lst (x.base.items.map XItem.e)), .pv (.int .i64 x.base.auto), .pv (.int .i64 x.seen), .pv (.int .i64 x.sync.outbox.dev), .pv (.int .i64 x.sync.outbox.next), .pv (.lst (x.sync.outbox.writes.map XWrite.e)), .pv (.int .i64 x.sync.tries), .pv (.int .i64 x.sync.wait)]]=some (.agg [.pv (.str x.base.name),nd 4 (x.base.items.map XItem.e), .pv (.int .i64 x.base.auto), .pv (.int .i64 x.seen), .pv (.int .i64 x.sync.outbox.dev), .pv (.int .i64 x.sync.outbox.next), .down 7 (x.sync.outbox.writes.map XWrite.e), .pv (.int .i64 x.sync.tries), .pv (.int .i64 x.sync.wait)]):=by
 obtain⟨h_base,h_seen,h_sync⟩:=h
 have c0:=oH hB h_base
 have c1:=AL hB h_sync
 have N0:=eI 4 (x.base.items.map XItem.e)
 generalize nd 4 (x.base.items.map XItem.e)=n0 at N0 c0 c1⊢
 rcases N0 with⟨-,rfl⟩|⟨-,rfl⟩<;>(refine ae (fn:=n6) rfl ?_;simp[n6,c0,c1])
theorem yn {B:Nat}(hB:B≤1048576){x:XDisk}(h:x.Ok B):ag Ph aG 491 [.agg [.pv (.str x.base.name), .pv (.int .i64 x.base.version), .pv (.lst (x.base.stores.map XStore.e)), .pv (.lst (x.base.unique.map XIndexDef.e)), .pv (.lst (al x.log)), .pv (.int .i64 x.count)]]=some (.agg [.pv (.str x.base.name), .pv (.int .i64 x.base.version),nd 3 (x.base.stores.map XStore.e), .down 2 (x.base.unique.map XIndexDef.e), .down 1 (al x.log), .pv (.int .i64 x.count)]):=by
 obtain⟨h_base,h_log,h_count⟩:=h
 have c0:=rt hB h_base
 have c1:=ly (R:=al x.log) ⟨ol _,iD _,by rw[bp];omega⟩
 have N0:=eI 3 (x.base.stores.map XStore.e)
 generalize nd 3 (x.base.stores.map XStore.e)=n0 at N0 c0 c1⊢
 rcases N0 with⟨-,rfl⟩|⟨-,rfl⟩<;>(refine ae (fn:=mR) rfl ?_;simp[mR,c0,c1])
theorem AD {B:Nat}(hB:B≤1048576){x:XDisk}(h:x.Ok B):ag Ph aG 487 [.agg [.pv (.str x.base.name), .pv (.int .i64 x.base.version), .pv (.lst (x.base.stores.map XStore.e)), .pv (.lst (x.base.unique.map XIndexDef.e)), .pv (.lst (al x.log)), .pv (.int .i64 x.count)]]=some (.agg [.pv (.str x.base.name), .pv (.int .i64 x.base.version),nd 3 (x.base.stores.map XStore.e), .down 2 (x.base.unique.map XIndexDef.e), .down 1 (al x.log), .pv (.int .i64 x.count)]):=by
 obtain⟨h_base,h_log,h_count⟩:=h
 have c0:=C4 hB h_base
 have F0:Flat 1 (al x.log):=⟨ol _,iD _,by rw[bp];omega⟩
 have hf0:=F0.flat
 have hw0:=F0.wid
 have m0:=eR (m:=(al x.log).length) (z:=1) (by have:=F0.len;omega) (by omega)
 rw[Nat.mul_one]at m0
 generalize (al x.log)=R0 at F0 hf0 hw0 m0⊢
 have N0:=eI 3 (x.base.stores.map XStore.e)
 generalize nd 3 (x.base.stores.map XStore.e)=n0 at N0 c0⊢
 rcases N0 with⟨-,rfl⟩|⟨-,rfl⟩<;>(refine ae (fn:=nS) rfl ?_;simp[nS,c0,hf0,hw0,m0])
def gj (b0 b1:AObj)(ver:Int)(rows:List (List PV)):Nat→List AObj
 |0=>[b0,b1, .box [.pv (.int .i64 ver), .nil]]
 |k+1=>[b0,b1, .box [.pv (.int .i64 ver), .arr 3], .darr 7 (rows.take (k+1))]
theorem yL {B:Nat}(hB:B≤1048576){x:XCache}(h:x.Ok B):ag Ph aG 495 [.agg [.pv (.int .i64 x.version), .pv (.lst (x.entries.map XCached.e))]]=some (.agg [.pv (.int .i64 x.version),nd 7 (x.entries.map XCached.e)]):=by
 obtain⟨h_version,h_entries⟩:=h
 have e1:∀k(hk:k<x.entries.length),_:=fun k hk=>AF hB (h_entries.2 _ (List.getElem_mem hk)).2.2
 have hl:x.entries.length≤1048576:=Nat.le_trans h_entries.1 hB
 refine ae (fn:=m5) rfl ?_
 simp[m5]
 refine cL aR Cl.fin x.entries.length [.f,.t,.t,.t,.t,.f,.f,.f,.f,.f,.f,.f,.f,.f,.f,.f,.f,.f,.f,.f,.f,.f,.f,.f,.f,.f,.f,.f,.f,.f,.f,.f,.f,.f,.f,.f] (fun k=>[(4,aa .i64 k)]) (gj (.box [.pv (.int .i64 x.version), .pv (.lst (x.entries.map XCached.e))]) (.box [.pv (.int .i64 0), .nil]) x.version (x.entries.map XCached.e)) rfl ?_ ?_ ?_
 ·exact Kn.q [0,1,2] (by simp[gj,aP,aN,aO,dR,bo,aM,be,aE,dq,bE,bi,bS,L.ren,aQ])
 ·intro k hk
  have ek:=e1 k hk
  have hx:=XCached.e.eq_1 x.entries[k]
  have ht:=bU (e:=XCached.e) hk
  rw[hx]at ht
  cases k with
  |zero=>
   simp only[gj,ht]
   simp[fu,hk,hx,ek,bV]
   exact Kn.q [0,1,2,6]
  |succ k=>
   obtain⟨i1,i2,i3,i4,i5,i6⟩:=mE (n:=x.entries.length) (by unfold maxLen;omega) hk
   have b1:min (k+1) x.entries.length=k+1:=by omega
   have m1:=eR (m:=k+1+1) (z:=88) (by omega) (by omega)
   simp only[gj,ht]
   generalize hT:List.take (k+1) _=T
   have hTl:T.length=k+1:=by rw[←hT];simp;omega
   simp[fu,hk,hx,ek,i1,i2,i3,i4,i5,i6,hTl,m1]
   exact Kn.q [0,1,2,7]
 ·cases hq:x.entries with
  |nil=>simp[fu,gj,nd]
  |cons q qs=>
   have hT:(x.entries.map XCached.e).take (qs.length+1)=x.entries.map XCached.e:=List.take_of_length_le (by rw[hq];simp)
   rw[hq]at hT
   simp only[List.length_cons,gj,hT]
   simp[fu,nd]
def gW (b0 b1:AObj)(rows:List (List PV)):Nat→List AObj
 |0=>[b0,b1, .box [.nil]]
 |k+1=>[b0,b1, .box [.arr 3], .darr 2 (rows.take (k+1))]
theorem AH {B:Nat}(hB:B≤1048576){x:XCacheSet}(h:x.Ok B):ag Ph aG 486 [.agg [.pv (.lst (x.caches.map XCache.e))]]=some (.agg [nd 2 (x.caches.map XCache.e)]):=by
 have h_caches:=h
 have e1:∀k(hk:k<x.caches.length),_:=fun k hk=>yL hB (h_caches.2 _ (List.getElem_mem hk))
 have hl:x.caches.length≤1048576:=Nat.le_trans h_caches.1 hB
 refine ae (fn:=nW) rfl ?_
 simp[nW]
 refine cL aR Cl.fin x.caches.length [.f,.t,.t,.t,.t,.f,.f,.f,.f,.f,.f,.f,.f,.f,.f,.f,.f,.f,.f,.f,.f,.f,.f,.f,.f] (fun k=>[(4,aa .i64 k)]) (gW (.box [.pv (.lst (x.caches.map XCache.e))]) (.box [.nil]) (x.caches.map XCache.e)) rfl ?_ ?_ ?_
 ·exact Kn.q [0,1,2] (by simp[gW,aP,aN,aO,dR,bo,aM,be,aE,dq,bE,bi,bS,L.ren,aQ])
 ·intro k hk
  have ek:=e1 k hk
  have hx:=XCache.e.eq_1 x.caches[k]
  have ht:=bU (e:=XCache.e) hk
  rw[hx]at ht
  have N0:=eI 7 (x.caches[k].entries.map XCached.e)
  generalize nd 7 (x.caches[k].entries.map XCached.e)=n0 at N0 ek
  cases k with
  |zero=>
   simp only[gW,ht]
   rcases N0 with⟨q0,rfl⟩|⟨q0,rfl⟩
   ·simp only[q0]at ek
    simp[eh,hk,hx,ek,bV,q0]
    exact Kn.q [0,1,2,4]
   ·simp[eh,hk,hx,ek,bV]
    exact Kn.q [0,1,2,5]
  |succ k=>
   obtain⟨i1,i2,i3,i4,i5,i6⟩:=mE (n:=x.caches.length) (by unfold maxLen;omega) hk
   have b1:min (k+1) x.caches.length=k+1:=by omega
   have m1:=eR (m:=k+1+1) (z:=32) (by omega) (by omega)
   simp only[gW,ht]
   generalize hT:List.take (k+1) _=T
   have hTl:T.length=k+1:=by rw[←hT];simp;omega
   rcases N0 with⟨q0,rfl⟩|⟨q0,rfl⟩
   ·simp only[q0]at ek
    simp[eh,hk,hx,ek,i1,i2,i3,i4,i5,i6,hTl,m1,q0]
    exact Kn.q [0,1,2,5]
   ·simp[eh,hk,hx,ek,i1,i2,i3,i4,i5,i6,hTl,m1]
    exact Kn.q [0,1,2,6]
 ·cases hq:x.caches with
  |nil=>simp[eh,gW,nd]
  |cons q qs=>
   have hT:(x.caches.map XCache.e).take (qs.length+1)=x.caches.map XCache.e:=List.take_of_length_le (by rw[hq];simp)
   rw[hq]at hT
   simp only[List.length_cons,gW,hT]
   simp[eh,nd]
def LV (b0 b1:AObj)(rows:List (List PV)):Nat→List AObj
 |0=>[b0,b1, .box [.nil]]
 |k+1=>[b0,b1, .box [.arr 3], .darr 2 (rows.take (k+1))]
def Ar (p:Nat)(pre:List AObj)(b5:AObj)(ver:Int)(rows:List (List PV)):Nat→List AObj
 |0=>pre++[b5, .box [.pv (.int .i64 ver), .nil]]
 |j+1=>pre++[b5, .box [.pv (.int .i64 ver), .arr (p+2)], .darr 7 (rows.take (j+1))]
theorem rq {B:Nat}(hB:B≤1048576){x:XCacheSet}(h:x.Ok B):ag Ph aG 490 [.agg [.pv (.lst (x.caches.map XCache.e))]]=some (.agg [nd 2 (x.caches.map XCache.e)]):=by
 have hl:x.caches.length≤1048576:=Nat.le_trans h.1 hB
 refine ae (fn:=jF) rfl ?_
 simp[jF]
 refine cL aR Cl.fin x.caches.length [.f,.f,.t,.t,.f,.f,.f,.f,.f,.f,.f,.t,.t,.t,.f,.f,.f,.f,.f,.f,.f,.f,.f,.f,.f,.f,.f,.f,.f,.f,.f,.f,.f,.f,.f,.f,.f,.f,.f,.f,.f,.f,.f,.f,.f,.f] (fun k=>[(13,aa .i64 k)]) (LV (.box [.pv (.lst (x.caches.map XCache.e))]) (.box [.nil]) (x.caches.map XCache.e)) rfl ?_ ?_ ?_
 ·exact Kn.q [0,1,2] (by simp[LV,aP,aN,aO,dR,bo,aM,be,aE,dq,bE,bi,bS,L.ren,aQ])
 ·intro k hk
  have hcx:=h.2 _ (List.getElem_mem hk)
  have hx:=XCache.e.eq_1 x.caches[k]
  have ht:=bU (e:=XCache.e) hk
  rw[hx]at ht
  have hel:x.caches[k].entries.length≤1048576:=Nat.le_trans hcx.2.1 hB
  have e1:∀j(hj:j<x.caches[k].entries.length),_:=fun j hj=>ru hB (hcx.2.2 _ (List.getElem_mem hj)).2.2
  cases k with
  |zero=>
   simp only[LV,ht]
   generalize hE:x.caches[0].entries=E at hx e1 hel⊢
   generalize hv:x.caches[0].version=ver at hx⊢
   simp[dO,hk,hx,bV]
   refine cL aR Cl.kn E.length [.f,.f,.t,.t,.f,.f,.t,.f,.f,.f,.f,.t,.t,.t,.f,.f,.f,.f,.f,.f,.f,.t,.t,.t,.f,.f,.f,.f,.f,.f,.f,.f,.f,.f,.f,.f,.f,.f,.f,.f,.f,.f,.f,.f,.f,.f] (fun j=>[(23,aa .i64 j)]) (Ar 3 [.box [.pv (.lst (x.caches.map XCache.e))], .box [.nil], .box [.nil]] (.box [.pv (.int .i64 ver), .pv (.lst (E.map XCached.e))]) ver (E.map XCached.e)) rfl ?_ ?_ ?_
   ·exact Kn.q [0,1,2,3,4] (by simp[Ar,aP,aN,aO,dR,bo,aM,be,aE,dq,bE,bi,bS,L.ren,aQ])
   ·intro j hj
    have ek:=e1 j hj
    have hy:=XCached.e.eq_1 E[j]
    have hu:=bU (e:=XCached.e) hj
    rw[hy]at hu
    cases j with
    |zero=>
     simp only[Ar,hu]
     simp[bw,hj,hy,ek,bV]
     exact Kn.q [0,1,2,3,4,8]
    |succ j=>
     obtain⟨i1,i2,i3,i4,i5,i6⟩:=mE (n:=E.length) (by unfold maxLen;omega) hj
     have m1:=eR (m:=j+1+1) (z:=88) (by omega) (by omega)
     simp only[Ar,hu]
     generalize hU:List.take (j+1) _=U
     have hUl:U.length=j+1:=by rw[←hU];simp;omega
     simp[bw,hj,hy,ek,i1,i2,i3,i4,i5,i6,hUl,m1]
     exact Kn.q [0,1,2,3,4,9]
   ·cases hq:E with
    |nil=>
     simp[bw,Ar,hk,hx,bV]
     exact Kn.q [0,1,2,6]
    |cons q qs=>
     have hT2:(E.map XCached.e).take (qs.length+1)=E.map XCached.e:=List.take_of_length_le (by rw[hq];simp)
     rw[hq]at hT2
     simp only[List.length_cons,Ar,hT2]
     simp[bw,hk,hx,bV]
     exact Kn.q [0,1,2,7]
  |succ k=>
   obtain⟨i1,i2,i3,i4,i5,i6⟩:=mE (n:=x.caches.length) (by unfold maxLen;omega) hk
   have m1:=eR (m:=k+1+1) (z:=32) (by omega) (by omega)
   simp only[LV,ht]
   generalize hT:List.take (k+1) _=T
   have hTl:T.length=k+1:=by rw[←hT];simp;omega
   generalize hE:x.caches[k+1].entries=E at hx e1 hel⊢
   generalize hv:x.caches[k+1].version=ver at hx⊢
   simp[dO,hk,hx,i1,i2,i3,i4,i5,i6,hTl,m1]
   refine cL aR Cl.kn E.length [.f,.f,.t,.t,.f,.f,.t,.f,.f,.f,.f,.t,.t,.t,.f,.f,.f,.f,.f,.f,.f,.t,.t,.t,.f,.f,.f,.f,.f,.f,.f,.f,.f,.f,.f,.f,.f,.f,.f,.f,.f,.f,.f,.f,.f,.f] (fun j=>[(23,aa .i64 j)]) (Ar 4 [.box [.pv (.lst (x.caches.map XCache.e))], .box [.nil], .box [.arr 3], .darr 2 T] (.box [.pv (.int .i64 ver), .pv (.lst (E.map XCached.e))]) ver (E.map XCached.e)) rfl ?_ ?_ ?_
   ·exact Kn.q [0,1,2,3,4,5] (by simp[Ar,aP,aN,aO,dR,bo,aM,be,aE,dq,bE,bi,bS,L.ren,aQ])
   ·intro j hj
    have ek:=e1 j hj
    have hy:=XCached.e.eq_1 E[j]
    have hu:=bU (e:=XCached.e) hj
    rw[hy]at hu
    cases j with
    |zero=>
     simp only[Ar,hu]
     simp[bw,hj,hy,ek,bV]
     exact Kn.q [0,1,2,3,4,5,9]
    |succ j=>
     obtain⟨i1,i2,i3,i4,i5,i6⟩:=mE (n:=E.length) (by unfold maxLen;omega) hj
     have m1:=eR (m:=j+1+1) (z:=88) (by omega) (by omega)
     simp only[Ar,hu]
     generalize hU:List.take (j+1) _=U
     have hUl:U.length=j+1:=by rw[←hU];simp;omega
     simp[bw,hj,hy,ek,i1,i2,i3,i4,i5,i6,hUl,m1]
     exact Kn.q [0,1,2,3,4,5,10]
   ·cases hq:E with
    |nil=>
     simp[bw,Ar,hk,hx,i1,i2,i3,i4,i5,i6,hTl,m1]
     exact Kn.q [0,1,2,7]
    |cons q qs=>
     have hT2:(E.map XCached.e).take (qs.length+1)=E.map XCached.e:=List.take_of_length_le (by rw[hq];simp)
     rw[hq]at hT2
     simp only[List.length_cons,Ar,hT2]
     simp[bw,hk,hx,i1,i2,i3,i4,i5,i6,hTl,m1]
     exact Kn.q [0,1,2,8]
 ·cases hq:x.caches with
  |nil=>simp[dO,LV,nd]
  |cons q qs=>
   have hT:(x.caches.map XCache.e).take (qs.length+1)=x.caches.map XCache.e:=List.take_of_length_le (by rw[hq];simp)
   rw[hq]at hT
   simp only[List.length_cons,LV,hT]
   simp[dO,nd]
theorem uq {B:Nat}(hB:B≤1048576){x:XBucket}(h:x.Ok B):ag Ph aG 478 [.agg [.pv (.str x.site), .pv (.str x.top), .pv (.str x.reg.site), .pv (.int .i64 x.reg.installing), .pv (.int .i64 x.reg.waiting), .pv (.int .i64 x.reg.active), .pv (.lst (x.caches.caches.map XCache.e)), .pv (.str x.disk.base.name), .pv (.int .i64 x.disk.base.version), .pv (.lst (x.disk.base.stores.map XStore.e)), .pv (.lst (x.disk.base.unique.map XIndexDef.e)), .pv (.lst (al x.disk.log)), .pv (.int .i64 x.disk.count), .pv (.str x.replica.base.name), .pv (.lst (x.replica.base.items.map XItem.e)), .pv (.int .i64 x.replica.base.auto), .pv (.int .i64 x.replica.seen), .pv (.int .i64 x.replica.sync.outbox.dev), .pv (.int .i64 x.replica.sync.outbox.next), .pv (.lst (x.replica.sync.outbox.writes.map XWrite.e)), .pv (.int .i64 x.replica.sync.tries), .pv (.int .i64 x.replica.sync.wait), .pv (.int .i64 x.lastUsed), .pv (.bool x.persistent)]]=some (.agg [.pv (.str x.site), .pv (.str x.top), .pv (.str x.reg.site), .pv (.int .i64 x.reg.installing), .pv (.int .i64 x.reg.waiting), .pv (.int .i64 x.reg.active),nd 2 (x.caches.caches.map XCache.e), .pv (.str x.disk.base.name), .pv (.int .i64 x.disk.base.version),nd 3 (x.disk.base.stores.map XStore.e), .down 2 (x.disk.base.unique.map XIndexDef.e), .down 1 (al x.disk.log), .pv (.int .i64 x.disk.count), .pv (.str x.replica.base.name),nd 4 (x.replica.base.items.map XItem.e), .pv (.int .i64 x.replica.base.auto), .pv (.int .i64 x.replica.seen), .pv (.int .i64 x.replica.sync.outbox.dev), .pv (.int .i64 x.replica.sync.outbox.next), .down 7 (x.replica.sync.outbox.writes.map XWrite.e), .pv (.int .i64 x.replica.sync.tries), .pv (.int .i64 x.replica.sync.wait), .pv (.int .i64 x.lastUsed), .pv (.bool x.persistent)]):=by
 obtain⟨h_site,h_top,h_reg,h_caches,h_disk,h_replica,h_lastUsed⟩:=h
 have c0:=rq hB h_caches
 have c1:=yn hB h_disk
 have c2:=tb hB h_replica
 have N0:=eI 2 (x.caches.caches.map XCache.e)
 generalize nd 2 (x.caches.caches.map XCache.e)=n0 at N0 c0 c1 c2⊢
 have N1:=eI 3 (x.disk.base.stores.map XStore.e)
 generalize nd 3 (x.disk.base.stores.map XStore.e)=n1 at N1 c0 c1 c2⊢
 have N2:=eI 4 (x.replica.base.items.map XItem.e)
 generalize nd 4 (x.replica.base.items.map XItem.e)=n2 at N2 c0 c1 c2⊢
 rcases N0 with⟨-,rfl⟩|⟨-,rfl⟩<;>rcases N1 with⟨-,rfl⟩|⟨-,rfl⟩<;>rcases N2 with⟨-,rfl⟩|⟨-,rfl⟩<;>(refine ae (fn:=k6) rfl ?_;simp[k6,c0,c1,c2])
theorem AP {B:Nat}(hB:B≤1048576){x:XBucket}(h:x.Ok B):ag Ph aG 476 [.agg [.pv (.str x.site), .pv (.str x.top), .pv (.str x.reg.site), .pv (.int .i64 x.reg.installing), .pv (.int .i64 x.reg.waiting), .pv (.int .i64 x.reg.active), .pv (.lst (x.caches.caches.map XCache.e)), .pv (.str x.disk.base.name), .pv (.int .i64 x.disk.base.version), .pv (.lst (x.disk.base.stores.map XStore.e)), .pv (.lst (x.disk.base.unique.map XIndexDef.e)), .pv (.lst (al x.disk.log)), .pv (.int .i64 x.disk.count), .pv (.str x.replica.base.name), .pv (.lst (x.replica.base.items.map XItem.e)), .pv (.int .i64 x.replica.base.auto), .pv (.int .i64 x.replica.seen), .pv (.int .i64 x.replica.sync.outbox.dev), .pv (.int .i64 x.replica.sync.outbox.next), .pv (.lst (x.replica.sync.outbox.writes.map XWrite.e)), .pv (.int .i64 x.replica.sync.tries), .pv (.int .i64 x.replica.sync.wait), .pv (.int .i64 x.lastUsed), .pv (.bool x.persistent)]]=some (.agg [.pv (.str x.site), .pv (.str x.top), .pv (.str x.reg.site), .pv (.int .i64 x.reg.installing), .pv (.int .i64 x.reg.waiting), .pv (.int .i64 x.reg.active),nd 2 (x.caches.caches.map XCache.e), .pv (.str x.disk.base.name), .pv (.int .i64 x.disk.base.version),nd 3 (x.disk.base.stores.map XStore.e), .down 2 (x.disk.base.unique.map XIndexDef.e), .down 1 (al x.disk.log), .pv (.int .i64 x.disk.count), .pv (.str x.replica.base.name),nd 4 (x.replica.base.items.map XItem.e), .pv (.int .i64 x.replica.base.auto), .pv (.int .i64 x.replica.seen), .pv (.int .i64 x.replica.sync.outbox.dev), .pv (.int .i64 x.replica.sync.outbox.next), .down 7 (x.replica.sync.outbox.writes.map XWrite.e), .pv (.int .i64 x.replica.sync.tries), .pv (.int .i64 x.replica.sync.wait), .pv (.int .i64 x.lastUsed), .pv (.bool x.persistent)]):=by
 obtain⟨h_site,h_top,h_reg,h_caches,h_disk,h_replica,h_lastUsed⟩:=h
 have c0:=AH hB h_caches
 have c1:=AD hB h_disk
 have c2:=AM hB h_replica
 have N0:=eI 2 (x.caches.caches.map XCache.e)
 generalize nd 2 (x.caches.caches.map XCache.e)=n0 at N0 c0 c1 c2⊢
 have N1:=eI 3 (x.disk.base.stores.map XStore.e)
 generalize nd 3 (x.disk.base.stores.map XStore.e)=n1 at N1 c0 c1 c2⊢
 have N2:=eI 4 (x.replica.base.items.map XItem.e)
 generalize nd 4 (x.replica.base.items.map XItem.e)=n2 at N2 c0 c1 c2⊢
 rcases N0 with⟨-,rfl⟩|⟨-,rfl⟩<;>rcases N1 with⟨-,rfl⟩|⟨-,rfl⟩<;>rcases N2 with⟨-,rfl⟩|⟨-,rfl⟩<;>(refine ae (fn:=oe) rfl ?_;simp[oe,c0,c1,c2])
end Gi
