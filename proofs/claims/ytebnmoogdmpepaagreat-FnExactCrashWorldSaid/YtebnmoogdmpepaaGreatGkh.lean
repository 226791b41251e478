/- Of this proof. -/
import Derived.Test.YtebnmoogdmpepaaGreatGks
import Derived.Test.YtebnmoogdmpepaaGreatGxt
import Derived.Test.YtebnmoogdmpepaaGreatGlC
set_option linter.unusedSimpArgs false
set_option linter.unusedVariables false
namespace Gi
open Go Go.RowKit
set_option maxHeartbeats 8000000
set_option maxRecDepth 4000
attribute [local simp] start ai az aK bj cf Opd.ev put V.cells plain bo gn isInt isStr isBool bin bV pC pB un asList L.view am V.view viewL aY ar bQ bM comp aJ bH df bY bz bw bx bG bc ca aN bB aT aO bE cd bD bA bF V.flat L.flat dO di bv putAt thaw thawL thawT freezeVs freezeLs freezeL V.mut L.mut aG aV dA ce dM bO bh wp_seq wp_block py wp_cond wp_skip wp_exit wp_ret cA cy cP cB cW cX cV bX aM L.notArr aS aQ aR eJ bp storeD aX fD br ct bd m9 L.mov L.closed V.closed PV.bare PV.flat
theorem uF {B:Nat}(hB:B≤1048576){x:XResponse}(h:x.Ok B):ah Ph au 334 [.agg [.pv (.int .i64 x.type), .pv (.int .i64 x.status), .pv (.int .i64 x.version), .pv (.lst (ag x.body)), .pv (.bool x.shares)]]=some (.agg [.pv (.int .i64 x.type), .pv (.int .i64 x.status), .pv (.int .i64 x.version), .down 1 (ag x.body), .pv (.bool x.shares)]):=by
 obtain⟨h_type,h_status,h_version,h_body⟩:=h
 have c0:=fY (R:=ag x.body) ⟨ji _,dy _,by rw[ak];omega⟩
 refine ae (fn:=kE) rfl ?_
 simp[kE,c0]
theorem Dg {B:Nat}(hB:B≤1048576){x:XResponse}(h:x.Ok B):ah Ph au 329 [.agg [.pv (.int .i64 x.type), .pv (.int .i64 x.status), .pv (.int .i64 x.version), .pv (.lst (ag x.body)), .pv (.bool x.shares)]]=some (.agg [.pv (.int .i64 x.type), .pv (.int .i64 x.status), .pv (.int .i64 x.version), .down 1 (ag x.body), .pv (.bool x.shares)]):=by
 obtain⟨h_type,h_status,h_version,h_body⟩:=h
 have F0:Flat 1 (ag x.body):=⟨ji _,dy _,by rw[ak];omega⟩
 have hf0:=F0.flat
 have hw0:=F0.wid
 have m0:=ew (m:=(ag x.body).length) (z:=1) (by have:=F0.len;omega) (by omega)
 rw[Nat.mul_one]at m0
 generalize (ag x.body)=R0 at F0 hf0 hw0 m0⊢
 refine ae (fn:=pR) rfl ?_
 simp[pR,hf0,hw0,m0]
theorem xm {B:Nat}(hB:B≤1048576){x:XOutbox}(h:x.Ok B):ah Ph au 501 [.agg [.pv (.int .i64 x.dev), .pv (.int .i64 x.next), .pv (.lst (x.writes.map XWrite.e))]]=some (.agg [.pv (.int .i64 x.dev), .pv (.int .i64 x.next), .down 7 (x.writes.map XWrite.e)]):=by
 obtain⟨h_dev,h_next,h_writes⟩:=h
 have F0:Flat 7 (x.writes.map XWrite.e):=⟨ep (e:=XWrite.e) (fun _=>rfl) _,dQ (e:=XWrite.e) (z:=7) (fun _=>rfl) _,by rw[Zs];have:=h_writes.1;omega⟩
 have hf0:=F0.flat
 have hw0:=F0.wid
 have m0:=ew (m:=(x.writes.map XWrite.e).length) (z:=72) (by have:=F0.len;omega) (by omega)
 generalize (x.writes.map XWrite.e)=R0 at F0 hf0 hw0 m0⊢
 refine ae (fn:=mz) rfl ?_
 simp[mz,hf0,hw0,m0]
theorem Dj {B:Nat}(hB:B≤1048576){x:XOutbox}(h:x.Ok B):ah Ph au 500 [.agg [.pv (.int .i64 x.dev), .pv (.int .i64 x.next), .pv (.lst (x.writes.map XWrite.e))]]=some (.agg [.pv (.int .i64 x.dev), .pv (.int .i64 x.next), .down 7 (x.writes.map XWrite.e)]):=by
 obtain⟨h_dev,h_next,h_writes⟩:=h
 have F0:Flat 7 (x.writes.map XWrite.e):=⟨ep (e:=XWrite.e) (fun _=>rfl) _,dQ (e:=XWrite.e) (z:=7) (fun _=>rfl) _,by rw[Zs];have:=h_writes.1;omega⟩
 have hf0:=F0.flat
 have hw0:=F0.wid
 have m0:=ew (m:=(x.writes.map XWrite.e).length) (z:=72) (by have:=F0.len;omega) (by omega)
 generalize (x.writes.map XWrite.e)=R0 at F0 hf0 hw0 m0⊢
 refine ae (fn:=pV) rfl ?_
 simp[pV,hf0,hw0,m0]
theorem Bc {B:Nat}(hB:B≤1048576){x:XSync}(h:x.Ok B):ah Ph au 499 [.agg [.pv (.int .i64 x.outbox.dev), .pv (.int .i64 x.outbox.next), .pv (.lst (x.outbox.writes.map XWrite.e)), .pv (.int .i64 x.tries), .pv (.int .i64 x.wait)]]=some (.agg [.pv (.int .i64 x.outbox.dev), .pv (.int .i64 x.outbox.next), .down 7 (x.outbox.writes.map XWrite.e), .pv (.int .i64 x.tries), .pv (.int .i64 x.wait)]):=by
 obtain⟨h_outbox,h_tries,h_wait⟩:=h
 have c0:=xm hB h_outbox
 refine ae (fn:=oL) rfl ?_
 simp[oL,c0]
theorem Dl {B:Nat}(hB:B≤1048576){x:XSync}(h:x.Ok B):ah Ph au 497 [.agg [.pv (.int .i64 x.outbox.dev), .pv (.int .i64 x.outbox.next), .pv (.lst (x.outbox.writes.map XWrite.e)), .pv (.int .i64 x.tries), .pv (.int .i64 x.wait)]]=some (.agg [.pv (.int .i64 x.outbox.dev), .pv (.int .i64 x.outbox.next), .down 7 (x.outbox.writes.map XWrite.e), .pv (.int .i64 x.tries), .pv (.int .i64 x.wait)]):=by
 obtain⟨h_outbox,h_tries,h_wait⟩:=h
 have c0:=Dj hB h_outbox
 refine ae (fn:=pX) rfl ?_
 simp[pX,c0]
theorem yT {B:Nat}(hB:B≤1048576){x:XLockTable}(h:x.Ok B):ah Ph au 458 [.agg [.pv (.lst (x.locks.map XLock.e))]]=some (.agg [.down 4 (x.locks.map XLock.e)]):=by
 have h_locks:=h
 have F0:Flat 4 (x.locks.map XLock.e):=⟨ep (e:=XLock.e) (fun _=>rfl) _,dQ (e:=XLock.e) (z:=4) (fun _=>rfl) _,by rw[Zs];have:=h_locks.1;omega⟩
 have hf0:=F0.flat
 have hw0:=F0.wid
 have m0:=ew (m:=(x.locks.map XLock.e).length) (z:=32) (by have:=F0.len;omega) (by omega)
 generalize (x.locks.map XLock.e)=R0 at F0 hf0 hw0 m0⊢
 refine ae (fn:=nw) rfl ?_
 simp[nw,hf0,hw0,m0]
theorem Dn {B:Nat}(hB:B≤1048576){x:XLockTable}(h:x.Ok B):ah Ph au 452 [.agg [.pv (.lst (x.locks.map XLock.e))]]=some (.agg [.down 4 (x.locks.map XLock.e)]):=by
 have h_locks:=h
 have F0:Flat 4 (x.locks.map XLock.e):=⟨ep (e:=XLock.e) (fun _=>rfl) _,dQ (e:=XLock.e) (z:=4) (fun _=>rfl) _,by rw[Zs];have:=h_locks.1;omega⟩
 have hf0:=F0.flat
 have hw0:=F0.wid
 have m0:=ew (m:=(x.locks.map XLock.e).length) (z:=32) (by have:=F0.len;omega) (by omega)
 generalize (x.locks.map XLock.e)=R0 at F0 hf0 hw0 m0⊢
 refine ae (fn:=pZ) rfl ?_
 simp[pZ,hf0,hw0,m0]
theorem vM {B:Nat}(hB:B≤1048576){x:XChannel}(h:x.Ok B):ah Ph au 459 [.agg [.pv (.lst (x.mails.map XMail.e))]]=some (.agg [.down 3 (x.mails.map XMail.e)]):=by
 have h_mails:=h
 have F0:Flat 3 (x.mails.map XMail.e):=⟨ep (e:=XMail.e) (fun _=>rfl) _,dQ (e:=XMail.e) (z:=3) (fun _=>rfl) _,by rw[Zs];have:=h_mails.1;omega⟩
 have hf0:=F0.flat
 have hw0:=F0.wid
 have m0:=ew (m:=(x.mails.map XMail.e).length) (z:=24) (by have:=F0.len;omega) (by omega)
 generalize (x.mails.map XMail.e)=R0 at F0 hf0 hw0 m0⊢
 refine ae (fn:=lF) rfl ?_
 simp[lF,hf0,hw0,m0]
theorem Do {B:Nat}(hB:B≤1048576){x:XChannel}(h:x.Ok B):ah Ph au 453 [.agg [.pv (.lst (x.mails.map XMail.e))]]=some (.agg [.down 3 (x.mails.map XMail.e)]):=by
 have h_mails:=h
 have F0:Flat 3 (x.mails.map XMail.e):=⟨ep (e:=XMail.e) (fun _=>rfl) _,dQ (e:=XMail.e) (z:=3) (fun _=>rfl) _,by rw[Zs];have:=h_mails.1;omega⟩
 have hf0:=F0.flat
 have hw0:=F0.wid
 have m0:=ew (m:=(x.mails.map XMail.e).length) (z:=24) (by have:=F0.len;omega) (by omega)
 generalize (x.mails.map XMail.e)=R0 at F0 hf0 hw0 m0⊢
 refine ae (fn:=p4) rfl ?_
 simp[p4,hf0,hw0,m0]
theorem Bb {B:Nat}(hB:B≤1048576){x:XSite}(h:x.Ok B):ah Ph au 460 [.agg [.pv (.str x.name), .pv (.int .i64 x.version), .pv (.lst (x.files.map xA)), .pv (.bool x.shared)]]=some (.agg [.pv (.str x.name), .pv (.int .i64 x.version), .down 1 (x.files.map xA), .pv (.bool x.shared)]):=by
 obtain⟨h_name,h_version,h_files⟩:=h
 have F0:Flat 1 (x.files.map xA):=⟨ep (e:=xA) (fun _=>rfl) _,dQ (e:=xA) (z:=1) (fun _=>rfl) _,by rw[Zs];have:=h_files.1;omega⟩
 have hf0:=F0.flat
 have hw0:=F0.wid
 have m0:=ew (m:=(x.files.map xA).length) (z:=16) (by have:=F0.len;omega) (by omega)
 generalize (x.files.map xA)=R0 at F0 hf0 hw0 m0⊢
 refine ae (fn:=oK) rfl ?_
 simp[oK,hf0,hw0,m0]
theorem Dh {B:Nat}(hB:B≤1048576){x:XSite}(h:x.Ok B):ah Ph au 454 [.agg [.pv (.str x.name), .pv (.int .i64 x.version), .pv (.lst (x.files.map xA)), .pv (.bool x.shared)]]=some (.agg [.pv (.str x.name), .pv (.int .i64 x.version), .down 1 (x.files.map xA), .pv (.bool x.shared)]):=by
 obtain⟨h_name,h_version,h_files⟩:=h
 have F0:Flat 1 (x.files.map xA):=⟨ep (e:=xA) (fun _=>rfl) _,dQ (e:=xA) (z:=1) (fun _=>rfl) _,by rw[Zs];have:=h_files.1;omega⟩
 have hf0:=F0.flat
 have hw0:=F0.wid
 have m0:=ew (m:=(x.files.map xA).length) (z:=16) (by have:=F0.len;omega) (by omega)
 generalize (x.files.map xA)=R0 at F0 hf0 hw0 m0⊢
 refine ae (fn:=pS) rfl ?_
 simp[pS,hf0,hw0,m0]
theorem xp {B:Nat}(hB:B≤1048576){x:XServer}(h:x.Ok B):ah Ph au 461 [.agg [.pv (.str x.store.name), .pv (.lst (x.store.items.map XItem.e)), .pv (.int .i64 x.store.auto), .pv (.lst (x.applied.map XApplied.e)), .pv (.lst (x.changes.map XWrite.e))]]=some (.agg [.pv (.str x.store.name),nd 4 (x.store.items.map XItem.e), .pv (.int .i64 x.store.auto), .down 2 (x.applied.map XApplied.e), .down 7 (x.changes.map XWrite.e)]):=by
 obtain⟨h_store,h_applied,h_changes⟩:=h
 have c0:=mN hB h_store
 have F0:Flat 2 (x.applied.map XApplied.e):=⟨ep (e:=XApplied.e) (fun _=>rfl) _,dQ (e:=XApplied.e) (z:=2) (fun _=>rfl) _,by rw[Zs];have:=h_applied.1;omega⟩
 have hf0:=F0.flat
 have hw0:=F0.wid
 have m0:=ew (m:=(x.applied.map XApplied.e).length) (z:=16) (by have:=F0.len;omega) (by omega)
 generalize (x.applied.map XApplied.e)=R0 at F0 hf0 hw0 m0⊢
 have F1:Flat 7 (x.changes.map XWrite.e):=⟨ep (e:=XWrite.e) (fun _=>rfl) _,dQ (e:=XWrite.e) (z:=7) (fun _=>rfl) _,by rw[Zs];have:=h_changes.1;omega⟩
 have hf1:=F1.flat
 have hw1:=F1.wid
 have m1:=ew (m:=(x.changes.map XWrite.e).length) (z:=72) (by have:=F1.len;omega) (by omega)
 generalize (x.changes.map XWrite.e)=R1 at F1 hf1 hw1 m1⊢
 have N0:=eu 4 (x.store.items.map XItem.e)
 generalize nd 4 (x.store.items.map XItem.e)=n0 at N0 c0⊢
 rcases N0 with⟨-,rfl⟩|⟨-,rfl⟩<;>(refine ae (fn:=mB) rfl ?_;simp[mB,c0,hf0,hw0,m0,hf1,hw1,m1])
theorem Dk {B:Nat}(hB:B≤1048576){x:XServer}(h:x.Ok B):ah Ph au 455 [.agg [.pv (.str x.store.name), .pv (.lst (x.store.items.map XItem.e)), .pv (.int .i64 x.store.auto), .pv (.lst (x.applied.map XApplied.e)), .pv (.lst (x.changes.map XWrite.e))]]=some (.agg [.pv (.str x.store.name),nd 4 (x.store.items.map XItem.e), .pv (.int .i64 x.store.auto), .down 2 (x.applied.map XApplied.e), .down 7 (x.changes.map XWrite.e)]):=by
 obtain⟨h_store,h_applied,h_changes⟩:=h
 have c0:=qi hB h_store
 have F0:Flat 2 (x.applied.map XApplied.e):=⟨ep (e:=XApplied.e) (fun _=>rfl) _,dQ (e:=XApplied.e) (z:=2) (fun _=>rfl) _,by rw[Zs];have:=h_applied.1;omega⟩
 have hf0:=F0.flat
 have hw0:=F0.wid
 have m0:=ew (m:=(x.applied.map XApplied.e).length) (z:=16) (by have:=F0.len;omega) (by omega)
 generalize (x.applied.map XApplied.e)=R0 at F0 hf0 hw0 m0⊢
 have F1:Flat 7 (x.changes.map XWrite.e):=⟨ep (e:=XWrite.e) (fun _=>rfl) _,dQ (e:=XWrite.e) (z:=7) (fun _=>rfl) _,by rw[Zs];have:=h_changes.1;omega⟩
 have hf1:=F1.flat
 have hw1:=F1.wid
 have m1:=ew (m:=(x.changes.map XWrite.e).length) (z:=72) (by have:=F1.len;omega) (by omega)
 generalize (x.changes.map XWrite.e)=R1 at F1 hf1 hw1 m1⊢
 have N0:=eu 4 (x.store.items.map XItem.e)
 generalize nd 4 (x.store.items.map XItem.e)=n0 at N0 c0⊢
 rcases N0 with⟨-,rfl⟩|⟨-,rfl⟩<;>(refine ae (fn:=pW) rfl ?_;simp[pW,c0,hf0,hw0,m0,hf1,hw1,m1])
theorem vO {B:Nat}(hB:B≤1048576){x:XReplica}(h:x.Ok B):ah Ph au 492 [.agg [.pv (.str x.base.name), .pv (.lst (x.base.items.map XItem.e)), .pv (.int .i64 x.base.auto), .pv (.int .i64 x.seen), .pv (.int .i64 x.sync.outbox.dev), .pv (.int .i64 x.sync.outbox.next), .pv (.lst (x.sync.outbox.writes.map XWrite.e)), .pv (.int .i64 x.sync.tries), .pv (.int .i64 x.sync.wait)]]=some (.agg [.pv (.str x.base.name),nd 4 (x.base.items.map XItem.e), .pv (.int .i64 x.base.auto), .pv (.int .i64 x.seen), .pv (.int .i64 x.sync.outbox.dev), .pv (.int .i64 x.sync.outbox.next), .down 7 (x.sync.outbox.writes.map XWrite.e), .pv (.int .i64 x.sync.tries), .pv (.int .i64 x.sync.wait)]):=by
 obtain⟨h_base,h_seen,h_sync⟩:=h
 have c0:=mN hB h_base
 have c1:=Bc hB h_sync
 have N0:=eu 4 (x.base.items.map XItem.e)
 generalize nd 4 (x.base.items.map XItem.e)=n0 at N0 c0 c1⊢
 rcases N0 with⟨-,rfl⟩|⟨-,rfl⟩<;>(refine ae (fn:=lH) rfl ?_;simp[lH,c0,c1])
theorem Dm {B:Nat}(hB:B≤1048576){x:XReplica}(h:x.Ok B):ah Ph au 488 [.agg [.pv (.str x.base.name), .pv (.lst (x.base.items.map XItem.e)), .pv (.int .i64 x.base.auto), .pv (.int .i64 x.seen), .pv (.int .i64 x.sync.outbox.dev), .pv (.int .i64 x.sync.outbox.next), .pv (.lst (x.sync.outbox.writes.map XWrite.e)), .pv (.int .i64 x.sync.tries), .pv (.int .i64 x.sync.wait)]]=some (.agg [.pv (.str x.base.name),nd 4 (x.base.items.map XItem.e), .pv (.int .i64 x.base.auto), .pv (.int .i64 x.seen), .pv (.int .i64 x.sync.outbox.dev), .pv (.int .i64 x.sync.outbox.next), .down 7 (x.sync.outbox.writes.map XWrite.e), .pv (.int .i64 x.sync.tries), .pv (.int .i64 x.sync.wait)]):=by
 obtain⟨h_base,h_seen,h_sync⟩:=h
 have c0:=qi hB h_base
 have c1:=Dl hB h_sync
 have N0:=eu 4 (x.base.items.map XItem.e)
 generalize nd 4 (x.base.items.map XItem.e)=n0 at N0 c0 c1⊢
 rcases N0 with⟨-,rfl⟩|⟨-,rfl⟩<;>(refine ae (fn:=pY) rfl ?_;simp[pY,c0,c1])
theorem nN {B:Nat}(hB:B≤1048576){x:XDisk}(h:x.Ok B):ah Ph au 491 [.agg [.pv (.str x.base.name), .pv (.int .i64 x.base.version), .pv (.lst (x.base.stores.map XStore.e)), .pv (.lst (x.base.unique.map XIndexDef.e)), .pv (.lst (ag x.log)), .pv (.int .i64 x.count)]]=some (.agg [.pv (.str x.base.name), .pv (.int .i64 x.base.version),nd 3 (x.base.stores.map XStore.e), .down 2 (x.base.unique.map XIndexDef.e), .down 1 (ag x.log), .pv (.int .i64 x.count)]):=by
 obtain⟨h_base,h_log,h_count⟩:=h
 have c0:=uE hB h_base
 have c1:=fY (R:=ag x.log) ⟨ji _,dy _,by rw[ak];omega⟩
 have N0:=eu 3 (x.base.stores.map XStore.e)
 generalize nd 3 (x.base.stores.map XStore.e)=n0 at N0 c0 c1⊢
 rcases N0 with⟨-,rfl⟩|⟨-,rfl⟩<;>(refine ae (fn:=oH) rfl ?_;simp[oH,c0,c1])
theorem oZ {B:Nat}(hB:B≤1048576){x:XDisk}(h:x.Ok B):ah Ph au 487 [.agg [.pv (.str x.base.name), .pv (.int .i64 x.base.version), .pv (.lst (x.base.stores.map XStore.e)), .pv (.lst (x.base.unique.map XIndexDef.e)), .pv (.lst (ag x.log)), .pv (.int .i64 x.count)]]=some (.agg [.pv (.str x.base.name), .pv (.int .i64 x.base.version),nd 3 (x.base.stores.map XStore.e), .down 2 (x.base.unique.map XIndexDef.e), .down 1 (ag x.log), .pv (.int .i64 x.count)]):=by
 obtain⟨h_base,h_log,h_count⟩:=h
 have c0:=FQ hB h_base
 have F0:Flat 1 (ag x.log):=⟨ji _,dy _,by rw[ak];omega⟩
 have hf0:=F0.flat
 have hw0:=F0.wid
 have m0:=ew (m:=(ag x.log).length) (z:=1) (by have:=F0.len;omega) (by omega)
 rw[Nat.mul_one]at m0
 generalize (ag x.log)=R0 at F0 hf0 hw0 m0⊢
 have N0:=eu 3 (x.base.stores.map XStore.e)
 generalize nd 3 (x.base.stores.map XStore.e)=n0 at N0 c0⊢
 rcases N0 with⟨-,rfl⟩|⟨-,rfl⟩<;>(refine ae (fn:=pP) rfl ?_;simp[pP,c0,hf0,hw0,m0])
def gW (b0 b1:AObj)(ver:Int)(rows:List (List PV)):Nat→List AObj
 |0=>[b0,b1, .box [.pv (.int .i64 ver), .nil]]
 |k+1=>[b0,b1, .box [.pv (.int .i64 ver), .arr 3], .darr 7 (rows.take (k+1))]
theorem Bz {B:Nat}(hB:B≤1048576){x:XCache}(h:x.Ok B):ah Ph au 495 [.agg [.pv (.int .i64 x.version), .pv (.lst (x.entries.map XCached.e))]]=some (.agg [.pv (.int .i64 x.version),nd 7 (x.entries.map XCached.e)]):=by
 obtain⟨h_version,h_entries⟩:=h
 have e1:∀k(hk:k<x.entries.length),_:=fun k hk=>Dg hB (h_entries.2 _ (Zg hk)).2.2
 have hl:x.entries.length≤1048576:=Zc h_entries.1 hB
 refine ae (fn:=oT) rfl ?_
 simp[oT]
 refine cO aU Cl.fin x.entries.length [.f,.t,.t,.t,.t,.f,.f,.f,.f,.f,.f,.f,.f,.f,.f,.f,.f,.f,.f,.f,.f,.f,.f,.f,.f,.f,.f,.f,.f,.f,.f,.f,.f,.f,.f,.f] (fun k=>[(4,aa .i64 k)]) (gW (.box [.pv (.int .i64 x.version), .pv (.lst (x.entries.map XCached.e))]) (.box [.pv (.int .i64 0), .nil]) x.version (x.entries.map XCached.e)) rfl ?_ ?_ ?_
 ·exact Kn.q [0,1,2] (by simp[gW,aS,aQ,aR,eJ,bp,aW,bm,aF,dz,bL,bf,bS,L.ren,aT])
 ·intro k hk
  have ek:=e1 k hk
  have hx:=XCached.e.eq_1 x.entries[k]
  have ht:=cu (e:=XCached.e) hk
  rw[hx]at ht
  cases k with
  |zero=>
   simp only[gW,ht]
   simp[fW,hk,hx,ek,cz]
   exact Kn.q [0,1,2,6]
  |succ k=>
   obtain⟨i1,i2,i3,i4,i5,i6⟩:=od (n:=x.entries.length) (by unfold maxLen;omega) hk
   have b1:min (k+1) x.entries.length=k+1:=by omega
   have m1:=ew (m:=k+1+1) (z:=88) (by omega) (by omega)
   simp only[gW,ht]
   generalize hT:List.take (k+1) _=T
   have hTl:T.length=k+1:=by rw[←hT];simp;omega
   simp[fW,hk,hx,ek,i1,i2,i3,i4,i5,i6,hTl,m1]
   exact Kn.q [0,1,2,7]
 ·cases hq:x.entries with
  |nil=>simp[fW,gW,nd]
  |cons q qs=>
   have hT:(x.entries.map XCached.e).take (qs.length+1)=x.entries.map XCached.e:=Zt (by rw[hq];simp)
   rw[hq]at hT
   simp only[Zn,gW,hT]
   simp[fW,nd]
def iL (b0 b1:AObj)(rows:List (List PV)):Nat→List AObj
 |0=>[b0,b1, .box [.nil]]
 |k+1=>[b0,b1, .box [.arr 3], .darr 2 (rows.take (k+1))]
theorem tE {B:Nat}(hB:B≤1048576){x:XCacheSet}(h:x.Ok B):ah Ph au 486 [.agg [.pv (.lst (x.caches.map XCache.e))]]=some (.agg [nd 2 (x.caches.map XCache.e)]):=by
 have h_caches:=h
 have e1:∀k(hk:k<x.caches.length),_:=fun k hk=>Bz hB (h_caches.2 _ (Zg hk))
 have hl:x.caches.length≤1048576:=Zc h_caches.1 hB
 refine ae (fn:=pT) rfl ?_
 simp[pT]
 refine cO aU Cl.fin x.caches.length [.f,.t,.t,.t,.t,.f,.f,.f,.f,.f,.f,.f,.f,.f,.f,.f,.f,.f,.f,.f,.f,.f,.f,.f,.f] (fun k=>[(4,aa .i64 k)]) (iL (.box [.pv (.lst (x.caches.map XCache.e))]) (.box [.nil]) (x.caches.map XCache.e)) rfl ?_ ?_ ?_
 ·exact Kn.q [0,1,2] (by simp[iL,aS,aQ,aR,eJ,bp,aW,bm,aF,dz,bL,bf,bS,L.ren,aT])
 ·intro k hk
  have ek:=e1 k hk
  have hx:=XCache.e.eq_1 x.caches[k]
  have ht:=cu (e:=XCache.e) hk
  rw[hx]at ht
  have N0:=eu 7 (x.caches[k].entries.map XCached.e)
  generalize nd 7 (x.caches[k].entries.map XCached.e)=n0 at N0 ek
  cases k with
  |zero=>
   simp only[iL,ht]
   rcases N0 with⟨q0,rfl⟩|⟨q0,rfl⟩
   ·simp only[q0]at ek
    simp[eR,hk,hx,ek,cz,q0]
    exact Kn.q [0,1,2,4]
   ·simp[eR,hk,hx,ek,cz]
    exact Kn.q [0,1,2,5]
  |succ k=>
   obtain⟨i1,i2,i3,i4,i5,i6⟩:=od (n:=x.caches.length) (by unfold maxLen;omega) hk
   have b1:min (k+1) x.caches.length=k+1:=by omega
   have m1:=ew (m:=k+1+1) (z:=32) (by omega) (by omega)
   simp only[iL,ht]
   generalize hT:List.take (k+1) _=T
   have hTl:T.length=k+1:=by rw[←hT];simp;omega
   rcases N0 with⟨q0,rfl⟩|⟨q0,rfl⟩
   ·simp only[q0]at ek
    simp[eR,hk,hx,ek,i1,i2,i3,i4,i5,i6,hTl,m1,q0]
    exact Kn.q [0,1,2,5]
   ·simp[eR,hk,hx,ek,i1,i2,i3,i4,i5,i6,hTl,m1]
    exact Kn.q [0,1,2,6]
 ·cases hq:x.caches with
  |nil=>simp[eR,iL,nd]
  |cons q qs=>
   have hT:(x.caches.map XCache.e).take (qs.length+1)=x.caches.map XCache.e:=Zt (by rw[hq];simp)
   rw[hq]at hT
   simp only[Zn,iL,hT]
   simp[eR,nd]
def PM (b0 b1:AObj)(rows:List (List PV)):Nat→List AObj
 |0=>[b0,b1, .box [.nil]]
 |k+1=>[b0,b1, .box [.arr 3], .darr 2 (rows.take (k+1))]
def C5 (p:Nat)(pre:List AObj)(b5:AObj)(ver:Int)(rows:List (List PV)):Nat→List AObj
 |0=>pre++[b5, .box [.pv (.int .i64 ver), .nil]]
 |j+1=>pre++[b5, .box [.pv (.int .i64 ver), .arr (p+2)], .darr 7 (rows.take (j+1))]
theorem oe {B:Nat}(hB:B≤1048576){x:XCacheSet}(h:x.Ok B):ah Ph au 490 [.agg [.pv (.lst (x.caches.map XCache.e))]]=some (.agg [nd 2 (x.caches.map XCache.e)]):=by
 have hl:x.caches.length≤1048576:=Zc h.1 hB
 refine ae (fn:=kC) rfl ?_
 simp[kC]
 refine cO aU Cl.fin x.caches.length [.f,.f,.t,.t,.f,.f,.f,.f,.f,.f,.f,.t,.t,.t,.f,.f,.f,.f,.f,.f,.f,.f,.f,.f,.f,.f,.f,.f,.f,.f,.f,.f,.f,.f,.f,.f,.f,.f,.f,.f,.f,.f,.f,.f,.f,.f] (fun k=>[(13,aa .i64 k)]) (PM (.box [.pv (.lst (x.caches.map XCache.e))]) (.box [.nil]) (x.caches.map XCache.e)) rfl ?_ ?_ ?_
 ·exact Kn.q [0,1,2] (by simp[PM,aS,aQ,aR,eJ,bp,aW,bm,aF,dz,bL,bf,bS,L.ren,aT])
 ·intro k hk
  have hcx:=h.2 _ (Zg hk)
  have hx:=XCache.e.eq_1 x.caches[k]
  have ht:=cu (e:=XCache.e) hk
  rw[hx]at ht
  have hel:x.caches[k].entries.length≤1048576:=Zc hcx.2.1 hB
  have e1:∀j(hj:j<x.caches[k].entries.length),_:=fun j hj=>uF hB (hcx.2.2 _ (Zg hj)).2.2
  cases k with
  |zero=>
   simp only[PM,ht]
   generalize hE:x.caches[0].entries=E at hx e1 hel⊢
   generalize hv:x.caches[0].version=ver at hx⊢
   simp[eH,hk,hx,cz]
   refine cO aU Cl.kn E.length [.f,.f,.t,.t,.f,.f,.t,.f,.f,.f,.f,.t,.t,.t,.f,.f,.f,.f,.f,.f,.f,.t,.t,.t,.f,.f,.f,.f,.f,.f,.f,.f,.f,.f,.f,.f,.f,.f,.f,.f,.f,.f,.f,.f,.f,.f] (fun j=>[(23,aa .i64 j)]) (C5 3 [.box [.pv (.lst (x.caches.map XCache.e))], .box [.nil], .box [.nil]] (.box [.pv (.int .i64 ver), .pv (.lst (E.map XCached.e))]) ver (E.map XCached.e)) rfl ?_ ?_ ?_
   ·exact Kn.q [0,1,2,3,4] (by simp[C5,aS,aQ,aR,eJ,bp,aW,bm,aF,dz,bL,bf,bS,L.ren,aT])
   ·intro j hj
    have ek:=e1 j hj
    have hy:=XCached.e.eq_1 E[j]
    have hu:=cu (e:=XCached.e) hj
    rw[hy]at hu
    cases j with
    |zero=>
     simp only[C5,hu]
     simp[bT,hj,hy,ek,cz]
     exact Kn.q [0,1,2,3,4,8]
    |succ j=>
     obtain⟨i1,i2,i3,i4,i5,i6⟩:=od (n:=E.length) (by unfold maxLen;omega) hj
     have m1:=ew (m:=j+1+1) (z:=88) (by omega) (by omega)
     simp only[C5,hu]
     generalize hU:List.take (j+1) _=U
     have hUl:U.length=j+1:=by rw[←hU];simp;omega
     simp[bT,hj,hy,ek,i1,i2,i3,i4,i5,i6,hUl,m1]
     exact Kn.q [0,1,2,3,4,9]
   ·cases hq:E with
    |nil=>
     simp[bT,C5,hk,hx,cz]
     exact Kn.q [0,1,2,6]
    |cons q qs=>
     have hT2:(E.map XCached.e).take (qs.length+1)=E.map XCached.e:=Zt (by rw[hq];simp)
     rw[hq]at hT2
     simp only[Zn,C5,hT2]
     simp[bT,hk,hx,cz]
     exact Kn.q [0,1,2,7]
  |succ k=>
   obtain⟨i1,i2,i3,i4,i5,i6⟩:=od (n:=x.caches.length) (by unfold maxLen;omega) hk
   have m1:=ew (m:=k+1+1) (z:=32) (by omega) (by omega)
   simp only[PM,ht]
   generalize hT:List.take (k+1) _=T
   have hTl:T.length=k+1:=by rw[←hT];simp;omega
   generalize hE:x.caches[k+1].entries=E at hx e1 hel⊢
   generalize hv:x.caches[k+1].version=ver at hx⊢
   simp[eH,hk,hx,i1,i2,i3,i4,i5,i6,hTl,m1]
   refine cO aU Cl.kn E.length [.f,.f,.t,.t,.f,.f,.t,.f,.f,.f,.f,.t,.t,.t,.f,.f,.f,.f,.f,.f,.f,.t,.t,.t,.f,.f,.f,.f,.f,.f,.f,.f,.f,.f,.f,.f,.f,.f,.f,.f,.f,.f,.f,.f,.f,.f] (fun j=>[(23,aa .i64 j)]) (C5 4 [.box [.pv (.lst (x.caches.map XCache.e))], .box [.nil], .box [.arr 3], .darr 2 T] (.box [.pv (.int .i64 ver), .pv (.lst (E.map XCached.e))]) ver (E.map XCached.e)) rfl ?_ ?_ ?_
   ·exact Kn.q [0,1,2,3,4,5] (by simp[C5,aS,aQ,aR,eJ,bp,aW,bm,aF,dz,bL,bf,bS,L.ren,aT])
   ·intro j hj
    have ek:=e1 j hj
    have hy:=XCached.e.eq_1 E[j]
    have hu:=cu (e:=XCached.e) hj
    rw[hy]at hu
    cases j with
    |zero=>
     simp only[C5,hu]
     simp[bT,hj,hy,ek,cz]
     exact Kn.q [0,1,2,3,4,5,9]
    |succ j=>
     obtain⟨i1,i2,i3,i4,i5,i6⟩:=od (n:=E.length) (by unfold maxLen;omega) hj
     have m1:=ew (m:=j+1+1) (z:=88) (by omega) (by omega)
     simp only[C5,hu]
     generalize hU:List.take (j+1) _=U
     have hUl:U.length=j+1:=by rw[←hU];simp;omega
     simp[bT,hj,hy,ek,i1,i2,i3,i4,i5,i6,hUl,m1]
     exact Kn.q [0,1,2,3,4,5,10]
   ·cases hq:E with
    |nil=>
     simp[bT,C5,hk,hx,i1,i2,i3,i4,i5,i6,hTl,m1]
     exact Kn.q [0,1,2,7]
    |cons q qs=>
     have hT2:(E.map XCached.e).take (qs.length+1)=E.map XCached.e:=Zt (by rw[hq];simp)
     rw[hq]at hT2
     simp only[Zn,C5,hT2]
     simp[bT,hk,hx,i1,i2,i3,i4,i5,i6,hTl,m1]
     exact Kn.q [0,1,2,8]
 ·cases hq:x.caches with
  |nil=>simp[eH,PM,nd]
  |cons q qs=>
   have hT:(x.caches.map XCache.e).take (qs.length+1)=x.caches.map XCache.e:=Zt (by rw[hq];simp)
   rw[hq]at hT
   simp only[Zn,PM,hT]
   simp[eH,nd]
theorem xl {B:Nat}(hB:B≤1048576){x:XBucket}(h:x.Ok B):ah Ph au 478 [.agg [.pv (.str x.site), .pv (.str x.top), .pv (.str x.reg.site), .pv (.int .i64 x.reg.installing), .pv (.int .i64 x.reg.waiting), .pv (.int .i64 x.reg.active), .pv (.lst (x.caches.caches.map XCache.e)), .pv (.str x.disk.base.name), .pv (.int .i64 x.disk.base.version), .pv (.lst (x.disk.base.stores.map XStore.e)), .pv (.lst (x.disk.base.unique.map XIndexDef.e)), .pv (.lst (ag x.disk.log)), .pv (.int .i64 x.disk.count), .pv (.str x.replica.base.name), .pv (.lst (x.replica.base.items.map XItem.e)), .pv (.int .i64 x.replica.base.auto), .pv (.int .i64 x.replica.seen), .pv (.int .i64 x.replica.sync.outbox.dev), .pv (.int .i64 x.replica.sync.outbox.next), .pv (.lst (x.replica.sync.outbox.writes.map XWrite.e)), .pv (.int .i64 x.replica.sync.tries), .pv (.int .i64 x.replica.sync.wait), .pv (.int .i64 x.lastUsed), .pv (.bool x.persistent)]]=some (.agg [.pv (.str x.site), .pv (.str x.top), .pv (.str x.reg.site), .pv (.int .i64 x.reg.installing), .pv (.int .i64 x.reg.waiting), .pv (.int .i64 x.reg.active),nd 2 (x.caches.caches.map XCache.e), .pv (.str x.disk.base.name), .pv (.int .i64 x.disk.base.version),nd 3 (x.disk.base.stores.map XStore.e), .down 2 (x.disk.base.unique.map XIndexDef.e), .down 1 (ag x.disk.log), .pv (.int .i64 x.disk.count), .pv (.str x.replica.base.name),nd 4 (x.replica.base.items.map XItem.e), .pv (.int .i64 x.replica.base.auto), .pv (.int .i64 x.replica.seen), .pv (.int .i64 x.replica.sync.outbox.dev), .pv (.int .i64 x.replica.sync.outbox.next), .down 7 (x.replica.sync.outbox.writes.map XWrite.e), .pv (.int .i64 x.replica.sync.tries), .pv (.int .i64 x.replica.sync.wait), .pv (.int .i64 x.lastUsed), .pv (.bool x.persistent)]):=by
 obtain⟨h_site,h_top,h_reg,h_caches,h_disk,h_replica,h_lastUsed⟩:=h
 have c0:=oe hB h_caches
 have c1:=nN hB h_disk
 have c2:=vO hB h_replica
 have N0:=eu 2 (x.caches.caches.map XCache.e)
 generalize nd 2 (x.caches.caches.map XCache.e)=n0 at N0 c0 c1 c2⊢
 have N1:=eu 3 (x.disk.base.stores.map XStore.e)
 generalize nd 3 (x.disk.base.stores.map XStore.e)=n1 at N1 c0 c1 c2⊢
 have N2:=eu 4 (x.replica.base.items.map XItem.e)
 generalize nd 4 (x.replica.base.items.map XItem.e)=n2 at N2 c0 c1 c2⊢
 rcases N0 with⟨-,rfl⟩|⟨-,rfl⟩<;>rcases N1 with⟨-,rfl⟩|⟨-,rfl⟩<;>rcases N2 with⟨-,rfl⟩|⟨-,rfl⟩<;>(refine ae (fn:=mr) rfl ?_;simp[mr,c0,c1,c2])
theorem Dp {B:Nat}(hB:B≤1048576){x:XBucket}(h:x.Ok B):ah Ph au 476 [.agg [.pv (.str x.site), .pv (.str x.top), .pv (.str x.reg.site), .pv (.int .i64 x.reg.installing), .pv (.int .i64 x.reg.waiting), .pv (.int .i64 x.reg.active), .pv (.lst (x.caches.caches.map XCache.e)), .pv (.str x.disk.base.name), .pv (.int .i64 x.disk.base.version), .pv (.lst (x.disk.base.stores.map XStore.e)), .pv (.lst (x.disk.base.unique.map XIndexDef.e)), .pv (.lst (ag x.disk.log)), .pv (.int .i64 x.disk.count), .pv (.str x.replica.base.name), .pv (.lst (x.replica.base.items.map XItem.e)), .pv (.int .i64 x.replica.base.auto), .pv (.int .i64 x.replica.seen), .pv (.int .i64 x.replica.sync.outbox.dev), .pv (.int .i64 x.replica.sync.outbox.next), .pv (.lst (x.replica.sync.outbox.writes.map XWrite.e)), .pv (.int .i64 x.replica.sync.tries), .pv (.int .i64 x.replica.sync.wait), .pv (.int .i64 x.lastUsed), .pv (.bool x.persistent)]]=some (.agg [.pv (.str x.site), .pv (.str x.top), .pv (.str x.reg.site), .pv (.int .i64 x.reg.installing), .pv (.int .i64 x.reg.waiting), .pv (.int .i64 x.reg.active),nd 2 (x.caches.caches.map XCache.e), .pv (.str x.disk.base.name), .pv (.int .i64 x.disk.base.version),nd 3 (x.disk.base.stores.map XStore.e), .down 2 (x.disk.base.unique.map XIndexDef.e), .down 1 (ag x.disk.log), .pv (.int .i64 x.disk.count), .pv (.str x.replica.base.name),nd 4 (x.replica.base.items.map XItem.e), .pv (.int .i64 x.replica.base.auto), .pv (.int .i64 x.replica.seen), .pv (.int .i64 x.replica.sync.outbox.dev), .pv (.int .i64 x.replica.sync.outbox.next), .down 7 (x.replica.sync.outbox.writes.map XWrite.e), .pv (.int .i64 x.replica.sync.tries), .pv (.int .i64 x.replica.sync.wait), .pv (.int .i64 x.lastUsed), .pv (.bool x.persistent)]):=by
 obtain⟨h_site,h_top,h_reg,h_caches,h_disk,h_replica,h_lastUsed⟩:=h
 have c0:=tE hB h_caches
 have c1:=oZ hB h_disk
 have c2:=Dm hB h_replica
 have N0:=eu 2 (x.caches.caches.map XCache.e)
 generalize nd 2 (x.caches.caches.map XCache.e)=n0 at N0 c0 c1 c2⊢
 have N1:=eu 3 (x.disk.base.stores.map XStore.e)
 generalize nd 3 (x.disk.base.stores.map XStore.e)=n1 at N1 c0 c1 c2⊢
 have N2:=eu 4 (x.replica.base.items.map XItem.e)
 generalize nd 4 (x.replica.base.items.map XItem.e)=n2 at N2 c0 c1 c2⊢
 rcases N0 with⟨-,rfl⟩|⟨-,rfl⟩<;>rcases N1 with⟨-,rfl⟩|⟨-,rfl⟩<;>rcases N2 with⟨-,rfl⟩|⟨-,rfl⟩<;>(refine ae (fn:=p5) rfl ?_;simp[p5,c0,c1,c2])
end Gi
namespace Gi
open Go Go.RowKit
theorem XKey.Ok.mono {A B:Nat}(hAB:A≤B){x:XKey}(h:x.Ok A):x.Ok B:=by
 obtain⟨h0,h1,h2⟩:=h
 exact⟨h0,h1,Zc h2 hAB⟩
theorem XField.Ok.mono {A B:Nat}(hAB:A≤B){x:XField}(h:x.Ok A):x.Ok B:=by
 obtain⟨h0,h1⟩:=h
 exact⟨Zc h0 hAB,h1⟩
theorem XRecord.Ok.mono {A B:Nat}(hAB:A≤B){x:XRecord}(h:x.Ok A):x.Ok B:=by
 have h0:=h
 exact⟨Zc h0.1 hAB,fun y m=>XField.Ok.mono hAB (h0.2 y m)⟩
theorem XItem.Ok.mono {A B:Nat}(hAB:A≤B){x:XItem}(h:x.Ok A):x.Ok B:=by
 obtain⟨h0,h1⟩:=h
 exact⟨XKey.Ok.mono hAB h0,XRecord.Ok.mono hAB h1⟩
theorem XStore.Ok.mono {A B:Nat}(hAB:A≤B){x:XStore}(h:x.Ok A):x.Ok B:=by
 obtain⟨h0,h1,h2⟩:=h
 exact⟨Zc h0 hAB,⟨Zc h1.1 hAB,fun y m=>XItem.Ok.mono hAB (h1.2 y m)⟩,h2⟩
theorem XWrite.Ok.mono {A B:Nat}(hAB:A≤B){x:XWrite}(h:x.Ok A):x.Ok B:=by
 obtain⟨h0,h1,h2,h3,h4⟩:=h
 exact⟨h0,h1,XKey.Ok.mono hAB h2,Zc h3 hAB,h4⟩
theorem XApplied.Ok.mono {A B:Nat}(hAB:A≤B){x:XApplied}(h:x.Ok A):x.Ok B:=by
 obtain⟨h0,h1⟩:=h
 exact⟨h0,h1⟩
theorem XServer.Ok.mono {A B:Nat}(hAB:A≤B){x:XServer}(h:x.Ok A):x.Ok B:=by
 obtain⟨h0,h1,h2⟩:=h
 exact⟨XStore.Ok.mono hAB h0,⟨Zc h1.1 hAB,fun y m=>XApplied.Ok.mono hAB (h1.2 y m)⟩,⟨Zc h2.1 hAB,fun y m=>XWrite.Ok.mono hAB (h2.2 y m)⟩⟩
theorem XOutbox.Ok.mono {A B:Nat}(hAB:A≤B){x:XOutbox}(h:x.Ok A):x.Ok B:=by
 obtain⟨h0,h1,h2⟩:=h
 exact⟨h0,h1,⟨Zc h2.1 hAB,fun y m=>XWrite.Ok.mono hAB (h2.2 y m)⟩⟩
theorem XSync.Ok.mono {A B:Nat}(hAB:A≤B){x:XSync}(h:x.Ok A):x.Ok B:=by
 obtain⟨h0,h1,h2⟩:=h
 exact⟨XOutbox.Ok.mono hAB h0,h1,h2⟩
theorem XReplica.Ok.mono {A B:Nat}(hAB:A≤B){x:XReplica}(h:x.Ok A):x.Ok B:=by
 obtain⟨h0,h1,h2⟩:=h
 exact⟨XStore.Ok.mono hAB h0,h1,XSync.Ok.mono hAB h2⟩
theorem XResponse.Ok.mono {A B:Nat}(hAB:A≤B){x:XResponse}(h:x.Ok A):x.Ok B:=by
 obtain⟨h0,h1,h2,h3⟩:=h
 exact⟨h0,h1,h2,Zc h3 hAB⟩
theorem XCached.Ok.mono {A B:Nat}(hAB:A≤B){x:XCached}(h:x.Ok A):x.Ok B:=by
 obtain⟨h0,h1,h2⟩:=h
 exact⟨Zc h0 hAB,Zc h1 hAB,XResponse.Ok.mono hAB h2⟩
theorem XCache.Ok.mono {A B:Nat}(hAB:A≤B){x:XCache}(h:x.Ok A):x.Ok B:=by
 obtain⟨h0,h1⟩:=h
 exact⟨h0,⟨Zc h1.1 hAB,fun y m=>XCached.Ok.mono hAB (h1.2 y m)⟩⟩
theorem XCacheSet.Ok.mono {A B:Nat}(hAB:A≤B){x:XCacheSet}(h:x.Ok A):x.Ok B:=by
 have h0:=h
 exact⟨Zc h0.1 hAB,fun y m=>XCache.Ok.mono hAB (h0.2 y m)⟩
theorem XRegistration.Ok.mono {A B:Nat}(hAB:A≤B){x:XRegistration}(h:x.Ok A):x.Ok B:=by
 obtain⟨h0,h1,h2,h3⟩:=h
 exact⟨Zc h0 hAB,h1,h2,h3⟩
theorem XLoaded.Ok.mono {A B:Nat}(hAB:A≤B){x:XLoaded}(h:x.Ok A):x.Ok B:=by
 obtain⟨h0,h1⟩:=h
 exact⟨Zc h0 hAB,h1⟩
theorem XInstr.Ok.mono {A B:Nat}(hAB:A≤B){x:XInstr}(h:x.Ok A):x.Ok B:=by
 obtain⟨h0,h1,h2,h3⟩:=h
 exact⟨h0,h1,h2,Zc h3 hAB⟩
theorem XMachine.Ok.mono {A B:Nat}(hAB:A≤B){x:XMachine}(h:x.Ok A):x.Ok B:=by
 obtain⟨h0,h1,h2,h3⟩:=h
 exact⟨⟨Zc h0.1 hAB,fun y m=>XInstr.Ok.mono hAB (h0.2 y m)⟩,h1,⟨Zc h2.1 hAB,h2.2⟩,h3⟩
theorem XPage.Ok.mono {A B:Nat}(hAB:A≤B){x:XPage}(h:x.Ok A):x.Ok B:=by
 obtain⟨h0,h1,h2,h3,h4,h5⟩:=h
 exact⟨h0,Zc h1 hAB,Zc h2 hAB,h3,⟨Zc h4.1 hAB,fun y m=>XLoaded.Ok.mono hAB (h4.2 y m)⟩,XMachine.Ok.mono hAB h5⟩
theorem XIndexDef.Ok.mono {A B:Nat}(hAB:A≤B){x:XIndexDef}(h:x.Ok A):x.Ok B:=by
 obtain⟨h0,h1⟩:=h
 exact⟨Zc h0 hAB,Zc h1 hAB⟩
theorem XDatabase.Ok.mono {A B:Nat}(hAB:A≤B){x:XDatabase}(h:x.Ok A):x.Ok B:=by
 obtain⟨h0,h1,h2,h3⟩:=h
 exact⟨Zc h0 hAB,h1,⟨Zc h2.1 hAB,fun y m=>XStore.Ok.mono hAB (h2.2 y m)⟩,⟨Zc h3.1 hAB,fun y m=>XIndexDef.Ok.mono hAB (h3.2 y m)⟩⟩
theorem XDisk.Ok.mono {A B:Nat}(hAB:A≤B){x:XDisk}(h:x.Ok A):x.Ok B:=by
 obtain⟨h0,h1,h2⟩:=h
 exact⟨XDatabase.Ok.mono hAB h0,Zc h1 hAB,h2⟩
theorem XBucket.Ok.mono {A B:Nat}(hAB:A≤B){x:XBucket}(h:x.Ok A):x.Ok B:=by
 obtain⟨h0,h1,h2,h3,h4,h5,h6⟩:=h
 exact⟨Zc h0 hAB,Zc h1 hAB,XRegistration.Ok.mono hAB h2,XCacheSet.Ok.mono hAB h3,XDisk.Ok.mono hAB h4,XReplica.Ok.mono hAB h5,h6⟩
theorem XStorage.Ok.mono {A B:Nat}(hAB:A≤B){x:XStorage}(h:x.Ok A):x.Ok B:=by
 have h0:=h
 exact⟨Zc h0.1 hAB,fun y m=>XBucket.Ok.mono hAB (h0.2 y m)⟩
theorem XLock.Ok.mono {A B:Nat}(hAB:A≤B){x:XLock}(h:x.Ok A):x.Ok B:=by
 obtain⟨h0,h1⟩:=h
 exact⟨Zc h0 hAB,h1⟩
theorem XLockTable.Ok.mono {A B:Nat}(hAB:A≤B){x:XLockTable}(h:x.Ok A):x.Ok B:=by
 have h0:=h
 exact⟨Zc h0.1 hAB,fun y m=>XLock.Ok.mono hAB (h0.2 y m)⟩
theorem XMail.Ok.mono {A B:Nat}(hAB:A≤B){x:XMail}(h:x.Ok A):x.Ok B:=by
 obtain⟨h0,h1,h2⟩:=h
 exact⟨h0,h1,h2⟩
theorem XChannel.Ok.mono {A B:Nat}(hAB:A≤B){x:XChannel}(h:x.Ok A):x.Ok B:=by
 have h0:=h
 exact⟨Zc h0.1 hAB,fun y m=>XMail.Ok.mono hAB (h0.2 y m)⟩
theorem XSite.Ok.mono {A B:Nat}(hAB:A≤B){x:XSite}(h:x.Ok A):x.Ok B:=by
 obtain⟨h0,h1,h2⟩:=h
 exact⟨Zc h0 hAB,h1,⟨Zc h2.1 hAB,fun y m=>Zc (h2.2 y m) hAB⟩⟩
theorem XWorld.Ok.mono {A B:Nat}(hAB:A≤B){x:XWorld}(h:x.Ok A):x.Ok B:=by
 obtain⟨h0,h2,h3,h4,h5,h6,h7,h8,h9⟩:=h
 exact⟨h0,h2,XStorage.Ok.mono hAB h3,⟨Zc h4.1 hAB,fun y m=>XPage.Ok.mono hAB (h4.2 y m)⟩,h5,XLockTable.Ok.mono hAB h6,XChannel.Ok.mono hAB h7,⟨Zc h8.1 hAB,fun y m=>XSite.Ok.mono hAB (h8.2 y m)⟩,⟨Zc h9.1 hAB,fun y m=>XServer.Ok.mono hAB (h9.2 y m)⟩⟩
end Gi
namespace Gi
open Go Go.RowKit
set_option maxHeartbeats 8000000
set_option maxRecDepth 4000
attribute [local simp] start rB bj cf dG fp dF fo fx fw tJ tT tK tU tL tV tM tW tN tX tO tY tP tZ tQ t6 tR t7 V.cells plain bo gn isInt isStr isBool bin cC iT cD iU fq un asList L.view am V.view viewL aY ar cH bP bM comp aJ bH df bY bz bw bx bG bc ca aN bB aT aO bE cd bD bA bF V.flat L.flat dO di bv putAt thaw thawL thawT V.ow fv dK dL cE fu cF dJ freezeVs freezeLs freezeL V.mut L.mut aG ez ie aW bm aF dz bL bf bS L.ren aV dA ce dM bO bh wp_seq wp_block bt dP cI bR cJ wp_skip wp_exit wp_ret cA cy cP cB cW cX cV bX aM L.notArr aS aQ aR dN bp storeD aX fD br ct bd m9 L.mov L.closed V.closed PV.bare PV.flat
def Uq (fs:List XField)(nm:List UInt8):Nat:=fs.findIdx fun f=> !(Op.bytesLess f.name nm)
def UT (fs:List XField)(nm:List UInt8)(n:Int):List XField:=match fs[Uq fs nm]? with
 |some f=>if f.name=nm then fs.set (Uq fs nm) ⟨nm,n⟩else fs.take (Uq fs nm)++(⟨nm,n⟩::fs.drop (Uq fs nm))
 |none=>fs.take (Uq fs nm)++(⟨nm,n⟩::fs.drop (Uq fs nm))
def setR (fs:List XField)(nm:List UInt8)(n:Int):List XField×Bool:=cond (o5 fs&&o5 (UT fs nm n)) (UT fs nm n,true) (fs,false)
theorem SJ {α:Type}{p:α→Bool}{xs:List α}(h:gu p xs= -1):∀x∈xs,p x=false:=fun x hx=>by
 unfold gu at h
 cases q:xs.findIdx? p with
 |none=>rw[Y9]at q;exact q x hx
 |some i=>rw[q]at h;simp only at h;omega
theorem Fp {j:Nat}:cQ (j:Int) 0=false:=kQ (by omega)
end Gi
