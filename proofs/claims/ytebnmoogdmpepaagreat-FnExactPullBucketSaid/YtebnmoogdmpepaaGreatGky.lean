/- Of this proof. -/
import Derived.Test.YtebnmoogdmpepaaGreatGkm
import Derived.Test.YtebnmoogdmpepaaGreatGoB
import Derived.Test.YtebnmoogdmpepaaGreatGoP
set_option linter.unusedSimpArgs false
set_option linter.unusedVariables false
namespace Gi
open Go Go.RowKit
set_option maxHeartbeats 8000000
set_option maxRecDepth 4000
attribute [local simp] start ah aJ bf bJ cI Opd.ev put V.cells plain bA fR isInt isStr isBool bin cK qh qg un asList L.view aj V.view viewL aW am cF bS comp aQ bI cH bP bq bo bp aC aq aY al aB aI au bi bF aE br bt V.flat L.flat db da bB putAt thaw thawL thawT freezeVs freezeLs freezeL V.mut L.mut aH aP dg bW dq bU bH wp_seq wp_block qb wp_cond wp_skip wp_exit wp_ret ct cr cz cu cC cD cB bO aF L.notArr aU aS aT eV bz storeD bc eP bu co ba k8 L.mov L.closed V.closed PV.bare PV.flat
theorem vl {B:Nat}(hB:B≤1048576){x:XResponse}(h:x.Ok B):ag Ph aM 334 [.agg [.pv (.int .i64 x.type), .pv (.int .i64 x.status), .pv (.int .i64 x.version), .pv (.lst (ar x.body)), .pv (.bool x.shares)]]=some (.agg [.pv (.int .i64 x.type), .pv (.int .i64 x.status), .pv (.int .i64 x.version), .down 1 (ar x.body), .pv (.bool x.shares)]):=by
 obtain⟨h_type,h_status,h_version,h_body⟩:=h
 have c0:=ny (R:=ar x.body) ⟨qM _,jM _,by rw[cy];omega⟩
 refine ae (fn:=lu) rfl ?_
 simp[lu,c0]
theorem DC {B:Nat}(hB:B≤1048576){x:XResponse}(h:x.Ok B):ag Ph aM 329 [.agg [.pv (.int .i64 x.type), .pv (.int .i64 x.status), .pv (.int .i64 x.version), .pv (.lst (ar x.body)), .pv (.bool x.shares)]]=some (.agg [.pv (.int .i64 x.type), .pv (.int .i64 x.status), .pv (.int .i64 x.version), .down 1 (ar x.body), .pv (.bool x.shares)]):=by
 obtain⟨h_type,h_status,h_version,h_body⟩:=h
 have F0:Flat 1 (ar x.body):=⟨qM _,jM _,by rw[cy];omega⟩
 have hf0:=F0.flat
 have hw0:=F0.wid
 have m0:=eR (m:=(ar x.body).length) (z:=1) (by have:=F0.len;omega) (by omega)
 rw[Nat.mul_one]at m0
 generalize (ar x.body)=R0 at F0 hf0 hw0 m0⊢
 refine ae (fn:=qz) rfl ?_
 simp[qz,hf0,hw0,m0]
theorem qP {B:Nat}(hB:B≤1048576){x:XOutbox}(h:x.Ok B):ag Ph aM 501 [.agg [.pv (.int .i64 x.dev), .pv (.int .i64 x.next), .pv (.lst (x.writes.map XWrite.e))]]=some (.agg [.pv (.int .i64 x.dev), .pv (.int .i64 x.next), .down 7 (x.writes.map XWrite.e)]):=by
 obtain⟨h_dev,h_next,h_writes⟩:=h
 have F0:Flat 7 (x.writes.map XWrite.e):=⟨eL (e:=XWrite.e) (fun _=>rfl) _,dC (e:=XWrite.e) (z:=7) (fun _=>rfl) _,by rw[Zt];have:=h_writes.1;omega⟩
 have hf0:=F0.flat
 have hw0:=F0.wid
 have m0:=eR (m:=(x.writes.map XWrite.e).length) (z:=72) (by have:=F0.len;omega) (by omega)
 generalize (x.writes.map XWrite.e)=R0 at F0 hf0 hw0 m0⊢
 refine ae (fn:=m9) rfl ?_
 simp[m9,hf0,hw0,m0]
theorem uD {B:Nat}(hB:B≤1048576){x:XOutbox}(h:x.Ok B):ag Ph aM 500 [.agg [.pv (.int .i64 x.dev), .pv (.int .i64 x.next), .pv (.lst (x.writes.map XWrite.e))]]=some (.agg [.pv (.int .i64 x.dev), .pv (.int .i64 x.next), .down 7 (x.writes.map XWrite.e)]):=by
 obtain⟨h_dev,h_next,h_writes⟩:=h
 have F0:Flat 7 (x.writes.map XWrite.e):=⟨eL (e:=XWrite.e) (fun _=>rfl) _,dC (e:=XWrite.e) (z:=7) (fun _=>rfl) _,by rw[Zt];have:=h_writes.1;omega⟩
 have hf0:=F0.flat
 have hw0:=F0.wid
 have m0:=eR (m:=(x.writes.map XWrite.e).length) (z:=72) (by have:=F0.len;omega) (by omega)
 generalize (x.writes.map XWrite.e)=R0 at F0 hf0 hw0 m0⊢
 refine ae (fn:=qD) rfl ?_
 simp[qD,hf0,hw0,m0]
theorem BA {B:Nat}(hB:B≤1048576){x:XSync}(h:x.Ok B):ag Ph aM 499 [.agg [.pv (.int .i64 x.outbox.dev), .pv (.int .i64 x.outbox.next), .pv (.lst (x.outbox.writes.map XWrite.e)), .pv (.int .i64 x.tries), .pv (.int .i64 x.wait)]]=some (.agg [.pv (.int .i64 x.outbox.dev), .pv (.int .i64 x.outbox.next), .down 7 (x.outbox.writes.map XWrite.e), .pv (.int .i64 x.tries), .pv (.int .i64 x.wait)]):=by
 obtain⟨h_outbox,h_tries,h_wait⟩:=h
 have c0:=qP hB h_outbox
 refine ae (fn:=pb) rfl ?_
 simp[pb,c0]
theorem DH {B:Nat}(hB:B≤1048576){x:XSync}(h:x.Ok B):ag Ph aM 497 [.agg [.pv (.int .i64 x.outbox.dev), .pv (.int .i64 x.outbox.next), .pv (.lst (x.outbox.writes.map XWrite.e)), .pv (.int .i64 x.tries), .pv (.int .i64 x.wait)]]=some (.agg [.pv (.int .i64 x.outbox.dev), .pv (.int .i64 x.outbox.next), .down 7 (x.outbox.writes.map XWrite.e), .pv (.int .i64 x.tries), .pv (.int .i64 x.wait)]):=by
 obtain⟨h_outbox,h_tries,h_wait⟩:=h
 have c0:=uD hB h_outbox
 refine ae (fn:=qF) rfl ?_
 simp[qF,c0]
theorem zG {B:Nat}(hB:B≤1048576){x:XLockTable}(h:x.Ok B):ag Ph aM 458 [.agg [.pv (.lst (x.locks.map XLock.e))]]=some (.agg [.down 4 (x.locks.map XLock.e)]):=by
 have h_locks:=h
 have F0:Flat 4 (x.locks.map XLock.e):=⟨eL (e:=XLock.e) (fun _=>rfl) _,dC (e:=XLock.e) (z:=4) (fun _=>rfl) _,by rw[Zt];have:=h_locks.1;omega⟩
 have hf0:=F0.flat
 have hw0:=F0.wid
 have m0:=eR (m:=(x.locks.map XLock.e).length) (z:=32) (by have:=F0.len;omega) (by omega)
 generalize (x.locks.map XLock.e)=R0 at F0 hf0 hw0 m0⊢
 refine ae (fn:=nY) rfl ?_
 simp[nY,hf0,hw0,m0]
theorem DI {B:Nat}(hB:B≤1048576){x:XLockTable}(h:x.Ok B):ag Ph aM 452 [.agg [.pv (.lst (x.locks.map XLock.e))]]=some (.agg [.down 4 (x.locks.map XLock.e)]):=by
 have h_locks:=h
 have F0:Flat 4 (x.locks.map XLock.e):=⟨eL (e:=XLock.e) (fun _=>rfl) _,dC (e:=XLock.e) (z:=4) (fun _=>rfl) _,by rw[Zt];have:=h_locks.1;omega⟩
 have hf0:=F0.flat
 have hw0:=F0.wid
 have m0:=eR (m:=(x.locks.map XLock.e).length) (z:=32) (by have:=F0.len;omega) (by omega)
 generalize (x.locks.map XLock.e)=R0 at F0 hf0 hw0 m0⊢
 refine ae (fn:=qH) rfl ?_
 simp[qH,hf0,hw0,m0]
theorem wK {B:Nat}(hB:B≤1048576){x:XChannel}(h:x.Ok B):ag Ph aM 459 [.agg [.pv (.lst (x.mails.map XMail.e))]]=some (.agg [.down 3 (x.mails.map XMail.e)]):=by
 have h_mails:=h
 have F0:Flat 3 (x.mails.map XMail.e):=⟨eL (e:=XMail.e) (fun _=>rfl) _,dC (e:=XMail.e) (z:=3) (fun _=>rfl) _,by rw[Zt];have:=h_mails.1;omega⟩
 have hf0:=F0.flat
 have hw0:=F0.wid
 have m0:=eR (m:=(x.mails.map XMail.e).length) (z:=24) (by have:=F0.len;omega) (by omega)
 generalize (x.mails.map XMail.e)=R0 at F0 hf0 hw0 m0⊢
 refine ae (fn:=mj) rfl ?_
 simp[mj,hf0,hw0,m0]
theorem DJ {B:Nat}(hB:B≤1048576){x:XChannel}(h:x.Ok B):ag Ph aM 453 [.agg [.pv (.lst (x.mails.map XMail.e))]]=some (.agg [.down 3 (x.mails.map XMail.e)]):=by
 have h_mails:=h
 have F0:Flat 3 (x.mails.map XMail.e):=⟨eL (e:=XMail.e) (fun _=>rfl) _,dC (e:=XMail.e) (z:=3) (fun _=>rfl) _,by rw[Zt];have:=h_mails.1;omega⟩
 have hf0:=F0.flat
 have hw0:=F0.wid
 have m0:=eR (m:=(x.mails.map XMail.e).length) (z:=24) (by have:=F0.len;omega) (by omega)
 generalize (x.mails.map XMail.e)=R0 at F0 hf0 hw0 m0⊢
 refine ae (fn:=qI) rfl ?_
 simp[qI,hf0,hw0,m0]
theorem Bz {B:Nat}(hB:B≤1048576){x:XSite}(h:x.Ok B):ag Ph aM 460 [.agg [.pv (.str x.name), .pv (.int .i64 x.version), .pv (.lst (x.files.map vC)), .pv (.bool x.shared)]]=some (.agg [.pv (.str x.name), .pv (.int .i64 x.version), .down 1 (x.files.map vC), .pv (.bool x.shared)]):=by
 obtain⟨h_name,h_version,h_files⟩:=h
 have F0:Flat 1 (x.files.map vC):=⟨eL (e:=vC) (fun _=>rfl) _,dC (e:=vC) (z:=1) (fun _=>rfl) _,by rw[Zt];have:=h_files.1;omega⟩
 have hf0:=F0.flat
 have hw0:=F0.wid
 have m0:=eR (m:=(x.files.map vC).length) (z:=16) (by have:=F0.len;omega) (by omega)
 generalize (x.files.map vC)=R0 at F0 hf0 hw0 m0⊢
 refine ae (fn:=pa) rfl ?_
 simp[pa,hf0,hw0,m0]
theorem DD {B:Nat}(hB:B≤1048576){x:XSite}(h:x.Ok B):ag Ph aM 454 [.agg [.pv (.str x.name), .pv (.int .i64 x.version), .pv (.lst (x.files.map vC)), .pv (.bool x.shared)]]=some (.agg [.pv (.str x.name), .pv (.int .i64 x.version), .down 1 (x.files.map vC), .pv (.bool x.shared)]):=by
 obtain⟨h_name,h_version,h_files⟩:=h
 have F0:Flat 1 (x.files.map vC):=⟨eL (e:=vC) (fun _=>rfl) _,dC (e:=vC) (z:=1) (fun _=>rfl) _,by rw[Zt];have:=h_files.1;omega⟩
 have hf0:=F0.flat
 have hw0:=F0.wid
 have m0:=eR (m:=(x.files.map vC).length) (z:=16) (by have:=F0.len;omega) (by omega)
 generalize (x.files.map vC)=R0 at F0 hf0 hw0 m0⊢
 refine ae (fn:=qA) rfl ?_
 simp[qA,hf0,hw0,m0]
theorem yb {B:Nat}(hB:B≤1048576){x:XServer}(h:x.Ok B):ag Ph aM 461 [.agg [.pv (.str x.store.name), .pv (.lst (x.store.items.map XItem.e)), .pv (.int .i64 x.store.auto), .pv (.lst (x.applied.map XApplied.e)), .pv (.lst (x.changes.map XWrite.e))]]=some (.agg [.pv (.str x.store.name),nd 4 (x.store.items.map XItem.e), .pv (.int .i64 x.store.auto), .down 2 (x.applied.map XApplied.e), .down 7 (x.changes.map XWrite.e)]):=by
 obtain⟨h_store,h_applied,h_changes⟩:=h
 have c0:=gu hB h_store
 have F0:Flat 2 (x.applied.map XApplied.e):=⟨eL (e:=XApplied.e) (fun _=>rfl) _,dC (e:=XApplied.e) (z:=2) (fun _=>rfl) _,by rw[Zt];have:=h_applied.1;omega⟩
 have hf0:=F0.flat
 have hw0:=F0.wid
 have m0:=eR (m:=(x.applied.map XApplied.e).length) (z:=16) (by have:=F0.len;omega) (by omega)
 generalize (x.applied.map XApplied.e)=R0 at F0 hf0 hw0 m0⊢
 have F1:Flat 7 (x.changes.map XWrite.e):=⟨eL (e:=XWrite.e) (fun _=>rfl) _,dC (e:=XWrite.e) (z:=7) (fun _=>rfl) _,by rw[Zt];have:=h_changes.1;omega⟩
 have hf1:=F1.flat
 have hw1:=F1.wid
 have m1:=eR (m:=(x.changes.map XWrite.e).length) (z:=72) (by have:=F1.len;omega) (by omega)
 generalize (x.changes.map XWrite.e)=R1 at F1 hf1 hw1 m1⊢
 have N0:=dM 4 (x.store.items.map XItem.e)
 generalize nd 4 (x.store.items.map XItem.e)=n0 at N0 c0⊢
 rcases N0 with⟨-,rfl⟩|⟨-,rfl⟩<;>(refine ae (fn:=nc) rfl ?_;simp[nc,c0,hf0,hw0,m0,hf1,hw1,m1])
theorem DG {B:Nat}(hB:B≤1048576){x:XServer}(h:x.Ok B):ag Ph aM 455 [.agg [.pv (.str x.store.name), .pv (.lst (x.store.items.map XItem.e)), .pv (.int .i64 x.store.auto), .pv (.lst (x.applied.map XApplied.e)), .pv (.lst (x.changes.map XWrite.e))]]=some (.agg [.pv (.str x.store.name),nd 4 (x.store.items.map XItem.e), .pv (.int .i64 x.store.auto), .down 2 (x.applied.map XApplied.e), .down 7 (x.changes.map XWrite.e)]):=by
 obtain⟨h_store,h_applied,h_changes⟩:=h
 have c0:=jh hB h_store
 have F0:Flat 2 (x.applied.map XApplied.e):=⟨eL (e:=XApplied.e) (fun _=>rfl) _,dC (e:=XApplied.e) (z:=2) (fun _=>rfl) _,by rw[Zt];have:=h_applied.1;omega⟩
 have hf0:=F0.flat
 have hw0:=F0.wid
 have m0:=eR (m:=(x.applied.map XApplied.e).length) (z:=16) (by have:=F0.len;omega) (by omega)
 generalize (x.applied.map XApplied.e)=R0 at F0 hf0 hw0 m0⊢
 have F1:Flat 7 (x.changes.map XWrite.e):=⟨eL (e:=XWrite.e) (fun _=>rfl) _,dC (e:=XWrite.e) (z:=7) (fun _=>rfl) _,by rw[Zt];have:=h_changes.1;omega⟩
 have hf1:=F1.flat
 have hw1:=F1.wid
 have m1:=eR (m:=(x.changes.map XWrite.e).length) (z:=72) (by have:=F1.len;omega) (by omega)
 generalize (x.changes.map XWrite.e)=R1 at F1 hf1 hw1 m1⊢
 have N0:=dM 4 (x.store.items.map XItem.e)
 generalize nd 4 (x.store.items.map XItem.e)=n0 at N0 c0⊢
 rcases N0 with⟨-,rfl⟩|⟨-,rfl⟩<;>(refine ae (fn:=qE) rfl ?_;simp[qE,c0,hf0,hw0,m0,hf1,hw1,m1])
theorem py {B:Nat}(hB:B≤1048576){x:XReplica}(h:x.Ok B):ag Ph aM 492 [.agg [.pv (.str x.base.name), .pv (.lst (x.base.items.map XItem.e)), .pv (.int .i64 x.base.auto), .pv (.int .i64 x.seen), .pv (.int .i64 x.sync.outbox.dev), .pv (.int .i64 x.sync.outbox.next), .pv (.lst (x.sync.outbox.writes.map XWrite.e)), .pv (.int .i64 x.sync.tries), .pv (.int .i64 x.sync.wait)]]=some (.agg [.pv (.str x.base.name),nd 4 (x.base.items.map XItem.e), .pv (.int .i64 x.base.auto), .pv (.int .i64 x.seen), .pv (.int .i64 x.sync.outbox.dev), .pv (.int .i64 x.sync.outbox.next), .down 7 (x.sync.outbox.writes.map XWrite.e), .pv (.int .i64 x.sync.tries), .pv (.int .i64 x.sync.wait)]):=by
 obtain⟨h_base,h_seen,h_sync⟩:=h
 have c0:=gu hB h_base
 have c1:=BA hB h_sync
 have N0:=dM 4 (x.base.items.map XItem.e)
 generalize nd 4 (x.base.items.map XItem.e)=n0 at N0 c0 c1⊢
 rcases N0 with⟨-,rfl⟩|⟨-,rfl⟩<;>(refine ae (fn:=mn) rfl ?_;simp[mn,c0,c1])
theorem pt {B:Nat}(hB:B≤1048576){x:XReplica}(h:x.Ok B):ag Ph aM 488 [.agg [.pv (.str x.base.name), .pv (.lst (x.base.items.map XItem.e)), .pv (.int .i64 x.base.auto), .pv (.int .i64 x.seen), .pv (.int .i64 x.sync.outbox.dev), .pv (.int .i64 x.sync.outbox.next), .pv (.lst (x.sync.outbox.writes.map XWrite.e)), .pv (.int .i64 x.sync.tries), .pv (.int .i64 x.sync.wait)]]=some (.agg [.pv (.str x.base.name),nd 4 (x.base.items.map XItem.e), .pv (.int .i64 x.base.auto), .pv (.int .i64 x.seen), .pv (.int .i64 x.sync.outbox.dev), .pv (.int .i64 x.sync.outbox.next), .down 7 (x.sync.outbox.writes.map XWrite.e), .pv (.int .i64 x.sync.tries), .pv (.int .i64 x.sync.wait)]):=by
 obtain⟨h_base,h_seen,h_sync⟩:=h
 have c0:=jh hB h_base
 have c1:=DH hB h_sync
 have N0:=dM 4 (x.base.items.map XItem.e)
 generalize nd 4 (x.base.items.map XItem.e)=n0 at N0 c0 c1⊢
 rcases N0 with⟨-,rfl⟩|⟨-,rfl⟩<;>(refine ae (fn:=qG) rfl ?_;simp[qG,c0,c1])
end Gi
namespace Gi
open Go Go.RowKit
set_option maxHeartbeats 8000000
set_option maxRecDepth 4000
attribute [local simp] start oH bJ cI cS ed cR dZ eu ep pz pI pA pJ pB pK pC pL pD pM pE pO pF pP pG pQ pH pR V.cells plain bA fR isInt isStr isBool bin bY gj bZ gl ee un asList L.view aj V.view viewL aW am ce bD bS comp aQ bI cH bP bq bo bp aC aq aY al aB aI au bi bF aE br bt V.flat L.flat db da bB putAt thaw thawL thawT V.ow ej cV cW ca eh cd cU freezeVs freezeLs freezeL V.mut L.mut aH dE fK aZ bC aN dv bR bj bV L.ren aP dg bW dq bU bH wp_seq wp_block bg cZ cf bE cj wp_skip wp_exit wp_ret ct cr cz cu cC cD cB bO aF L.notArr aU aS aT cY bz storeD bc eP bu co ba k8 L.mov L.closed V.closed PV.bare PV.flat
def OI (d:Int)(a:XApplied):Bool:=a.dev==d
def r9 (s:XServer)(d:Int):Int:=match s.applied.find? (OI d)with
 |some a=>a.seq
 |none=>0
theorem OL {s:XServer}{d:Int}{k:Nat}(hk:k<s.applied.length)(h:dR (OI d) s.applied=(k:Int)):r9 s d=s.applied[k].seq:=by
 unfold r9
 rcases om (OI d) s.applied with⟨q1,q2⟩|⟨j,hj,q1,q2⟩
 ·omega
 ·obtain rfl:j=k:=by omega
  rw[q2]
theorem OK {s:XServer}{d:Int}(h:dR (OI d) s.applied= -1):r9 s d=0:=by
 unfold r9
 rcases om (OI d) s.applied with⟨q1,q2⟩|⟨j,hj,q1,q2⟩
 ·rw[q2]
 ·omega
theorem Dp {s:XServer}(h:s.applied.length≤maxLen)(d:Int):ag Ph aM 148 [s.v,aa .i64 d]=some (aa .i64 (r9 s d)):=by
 have e1:=BC (e:=XApplied.e) (p:=OI d) (xs:=s.applied) (k:=211) (z:=2) (kc:=212) (caps:=[[.int .i64 d]]) rfl h (fun _=>rfl) (fun x _=>by
  refine ae (fn:=nf) rfl ?_
  simp +contextual (maxSteps:=9999999) [nf,XApplied.e.eq_1,tR,OI])
 have e2:ag Ph aM 176 [s.v,aa .i64 d]=some (aa .i64 (dR (OI d) s.applied)):=by
  refine ae (fn:=pd) rfl ?_
  simp +contextual (maxSteps:=9999999) [pd,la,qi,e1]
 rcases om (OI d) s.applied with⟨q1,q2⟩|⟨j,hj,q1,q2⟩
 ·have l0:cT (-1) 0=true:=rfl
  rw[OK q1]
  rw[q1]at e2
  refine ae (fn:=kw) rfl ?_
  simp(maxSteps:=9999999) [kw,e2,l0]
 ·have l0:cT (j:Int) 0=false:=kE (by omega)
  have hx:=XApplied.e.eq_1 s.applied[j]
  rw[OL hj q1]
  rw[q1]at e2
  refine ae (fn:=kw) rfl ?_
  simp(maxSteps:=9999999) [kw,e2,l0,hj,hx]
theorem Dx {s:XServer}(h:s.applied.length≤maxLen)(d:Int):ag Ph aM 147 [s.v,aa .i64 d]=some (aa .i64 (r9 s d)):=by
 refine ae (fn:=qv) rfl ?_
 simp +contextual (maxSteps:=9999999) [qv]
 refine aG bm Cl.fin [.f,.t,.t,.f,.f,.t,.f,.f,.f,.f,.f,.f,.f,.f,.f,.f,.f,.f,.f,.f,.f,.f,.f,.f,.f,.f,.f] (fun k=>[(5,aa .i64 k)]) s.applied.length (ir (OI d) s.applied) rfl (by simp) (fun k hk hj=> ?_) (fun hj _=> ?_)
 ·have hf:=sI hk hj
  have hx:=XApplied.e.eq_1 s.applied[k]
  have hs:(OI d s.applied[k])=(s.applied[k].dev==d):=rfl
  cases hg:OI d s.applied[k]
  ·rw[hg]at hs
   simp(maxSteps:=9999999) [iT,ir,hk,hg,←hs,hx,aR h hk,bd hk]
  ·have hf2:=OL hk (hf hg)
   have ha:ir (OI d) s.applied k=true:=by simp only[ir,hk,Zn,hg]
   rw[hg]at hs
   generalize r9 s d=F at hf2⊢
   generalize ir (OI d) s.applied k=A at ha⊢
   simp(maxSteps:=9999999) [iT,ha,hk,←hs,hf2,hx,aR h hk,bd hk]
 ·simp +contextual (maxSteps:=9999999) [iT,OK (sH hj)]
def Qt (q:Int)(w:XWrite):Bool:=cT q w.seq
def CC (o:XOutbox)(q:Int):XOutbox×Int:=bif qQ o then(⟨o.dev,o.next,o.writes.filter (Qt q)⟩,(o.writes.length:Int)-((o.writes.filter (Qt q)).length:Nat))else(o,0)
theorem Uc {α:Type}{e:α→List PV}{call:Nat→List V→Option V}{c:Nat}{caps:List V}{p:α→Bool}:∀{xs:List α},(∀x∈xs,call c (.agg ((e x).map .pv)::caps)=some (aA (!(p x))))→ft call c caps (xs.map e)=some ((xs.filter p).map e)
 |[],_=>rfl
 |x::xs,h=>by
  have ih:=Uc (xs:=xs) fun y hy=>h y (Y5 _ hy)
  have hx:=h x Xq
  rw[Zv,ft,hx,ih]
  cases hp:p x<;>simp[aA,List.filter_cons,hp]
abbrev UF (x:XOutbox×Int):V:= .tup [(true,[.pv (.int .i64 x.1.dev), .pv (.int .i64 x.1.next), .own 7 (x.1.writes.map XWrite.e)]),(false,[.pv (.int .i64 x.2)])]
theorem zB {B:Nat}(hB:B≤1048576){o:XOutbox}(h:o.Ok B)(q:Int):ag Ph aM 673 [o.v,aa .i64 q]=some (UF (CC o q)):=by
 have hl:o.writes.length≤1048576:=Zc h.2.2.1 hB
 have e1:=qP hB h
 have e2:=te (XOutbox.Ok.mono (show B≤maxLen by unfold maxLen;omega) h)
 have c2:ft (ag Ph aM) 689 [tR [.int .i64 q]] (o.writes.map XWrite.e)=some ((o.writes.filter (Qt q)).map XWrite.e):=Uc (p:=Qt q) fun x hx=>by
  refine ae (fn:=ma) rfl ?_
  simp(maxSteps:=9999999) [ma,XWrite.e.eq_1 x,tR,Qt,Vj]
 have hf:(o.writes.filter (Qt q)).length≤o.writes.length:=List.length_filter_le _ _
 have w1:IntKind.i64.wrap ((o.writes.length:Int)-((o.writes.filter (Qt q)).length:Nat))=(o.writes.length:Int)-((o.writes.filter (Qt q)).length:Nat):=by rw[IntKind.wrap_i64];omega
 unfold CC
 cases c1:qQ o<;>rw[c1]at e2
 ·simp only[cond_false]
  refine ae (fn:=iV) rfl ?_
  simp(maxSteps:=9999999) [iV,e1,e2]
 ·simp only[cond_true]
  refine ae (fn:=iV) rfl ?_
  simp(maxSteps:=9999999) [iV,e1,e2,c2,la,qi,BN,tP,w1]
theorem TO {o:XOutbox}(h:qQ o=true){k:Nat}(hk:k<o.writes.length):o.writes[k].seq=o.next-(o.writes.length:Int)+(k:Int):=by
 simp only[qQ,Zh,Yb,vA]at h
 obtain⟨_,h2,h3,h4⟩:=h
 have h3:=of_decide_eq_false h3
 have:=uQ h4 hk
 simp only[Pz,hk,Zn,Yp,Y6,beq_iff_eq]at this
 rw[this.2.2,IntKind.wrap_i64,IntKind.wrap_i64]
 omega
theorem B5 {q:Int}:∀(ws:List XWrite)(a:Int),(∀k(hk:k<ws.length),ws[k].seq=a+(k:Int))→∀n,n≤ws.length→(∀k(hk:k<ws.length),k<n→ws[k].seq≤q)→(∀(hn:n<ws.length),q<ws[n].seq)→ws.filter (Qt q)=ws.drop n
 |[],a,_,n,_,_,_=>by simp
 |w::ws,a,hs,n,hn,h1,h2=>by
  have h0:=hs 0 (by simp)
  have hs':∀k(hk:k<ws.length),ws[k].seq=(a+1)+(k:Int):=fun k hk=>by
   have:=hs (k+1) (by simp;omega)
   simp only[List.getElem_cons_succ]at this
   rw[this];push_cast;omega
  simp only[Xm]at h0
  cases n with
  |zero=>
   have hq:=h2 (by simp)
   simp only[Xm]at hq
   have all:∀x∈w::ws,Qt q x=true:=by
    intro x m
    obtain⟨j,hj,rfl⟩:=Y4.1 m
    have:=hs j hj
    unfold Qt
    exact jH (by omega)
   rw[List.filter_eq_self.2 all,List.drop_zero]
  |succ n=>
   have hq:=h1 0 (by simp) (by omega)
   simp only[Xm]at hq
   have hw:Qt q w=false:=kE hq
   rw[List.filter_cons,hw,List.drop_succ_cons]
   simp only[Zy,if_false]
   refine B5 ws (a+1) hs' n (by simp only[Zo]at hn;omega) (fun k hk hkn=> ?_) (fun hn'=> ?_)
   ·have:=h1 (k+1) (by simp;omega) (by omega)
    simpa using this
   ·have:=h2 (by simp;omega)
    simpa using this
def IB (o:XOutbox)(q:Int)(k:Nat):Option Nat:=match o.writes[k]? with
 |some w=>bif cT q w.seq then none else some (k+1)
 |none=>none
def V9 (o:XOutbox)(q:Int)(k:Nat):Prop:=k≤o.writes.length∧∀j(hj:j<o.writes.length),j<k→o.writes[j].seq≤q
theorem Ac {B:Nat}(hB:B≤1048576){o:XOutbox}(h:o.Ok B)(q:Int):ag Ph aM 670 [o.v,aa .i64 q]=some (UF (CC o q)):=by
 have hl:o.writes.length≤1048576:=Zc h.2.2.1 hB
 have hlm:o.writes.length≤maxLen:=by unfold maxLen;omega
 have e1:=uD hB h
 have e2:=tz (XOutbox.Ok.mono (show B≤maxLen by unfold maxLen;omega) h)
 unfold CC
 cases c1:qQ o<;>rw[c1]at e2
 ·simp only[cond_false]
  refine ae (fn:=i7) rfl ?_
  simp(maxSteps:=9999999) [i7,e1,e2]
 simp only[cond_true]
 refine ae (fn:=i7) rfl ?_
 simp(maxSteps:=9999999) [i7,e1,e2]
 refine Ol bm Cl.fin [.f,.t,.t,.f,.t,.f,.t,.t,.f,.f,.f,.f,.f,.f,.f,.f,.f,.f,.f,.f,.f,.f,.f,.f,.f,.f,.f,.f,.f,.f,.f,.f,.f,.f,.f,.f,.f,.f,.f,.f] (fun a=>[(7,aa .i64 (a:Nat))]) (fun a=>[.box [.pv (.int .i64 o.dev), .pv (.int .i64 o.next), .pv (.lst (o.writes.map XWrite.e))], .box [.pv (.int .i64 0), .pv (.int .i64 0), .nil], .arr 7 (o.writes.map XWrite.e), .box [.pv (.int .i64 o.dev), .pv (.int .i64 o.next), .arr 2]]) (IB o q) (fun a=>o.writes.length-a) (V9 o q) 0 ⟨by omega,fun j hj h0=>by omega⟩ rfl (by simp) (fun k b ia ha=> ?_) (fun k ia ha=> ?_)
 ·unfold IB at ha
  by_cases hk:k<o.writes.length
  ·simp only[Zn hk]at ha
   cases q1:cT q o.writes[k].seq<;>rw[q1]at ha<;>simp only[cond_true,cond_false]at ha
   ·cases ha
    have hx:=XWrite.e.eq_1 o.writes[k]
    have hq:=of_decide_eq_false q1
    refine⟨by omega,⟨by omega,fun j hj hjk=> ?_⟩,?_⟩
    ·rcases Nat.lt_or_ge j k with h'|h'
     ·exact ia.2 j hj h'
     ·obtain rfl:j=k:=by omega
      omega
    ·simp(maxSteps:=9999999) [gZ,hk,hx,Vj,q1,aR hlm hk,bd hk]
   ·cases ha
  ·rw[Yl (by omega)]at ha
   cases ha
 ·have hn:o.writes.filter (Qt q)=o.writes.drop k:=B5 o.writes (o.next-(o.writes.length:Int)) (fun j hj=>TO c1 hj) k ia.1 (fun j hj hjk=>ia.2 j hj hjk) (fun hk=>by
   unfold IB at ha
   simp only[Zn hk]at ha
   cases q1:cT q o.writes[k].seq<;>rw[q1]at ha<;>simp only[cond_true,cond_false]at ha
   ·cases ha
   ·exact of_decide_eq_true q1)
  have hkl:=ia.1
  rw[hn]
  have hd:(o.writes.length:Int)-((o.writes.drop k).length:Nat)=(k:Int):=by rw[List.length_drop];omega
  rw[hd]
  simp only[UF]
  rw[List.map_drop]
  have hR:(o.writes.map XWrite.e).length=o.writes.length:=by simp
  have m1:=eR (m:=((o.writes.map XWrite.e).drop k).length) (z:=72) (by rw[List.length_drop];omega) (by omega)
  have wd:((o.writes.map XWrite.e).all fun r=>r.length==7)=true:=dC (e:=XWrite.e) (fun _=>rfl) _
  have t1:((o.writes.map XWrite.e).drop k).take (o.writes.length-k)=(o.writes.map XWrite.e).drop k:=Zs (by rw[List.length_drop,Zt];exact Zm _)
  have t2:∀x∈(o.writes.map XWrite.e).drop k,x.length=7:=fun x m=>by
   obtain⟨y,_,rfl⟩:=Yt.1 (Yw m)
   rfl
  have t3:(o.writes.length-k)*72≤140737488355328:=by omega
  have t4:o.writes.length≤9223372036854775807+k:=by omega
  have t5:∀x:XWrite,x.e.length=7:=fun _=>rfl
  by_cases hk:k<o.writes.length
  ·have q1:cT q o.writes[k].seq=true:=by
    cases q1:cT q o.writes[k].seq
    ·exact absurd ha (by simp[IB,Zn hk,q1])
    ·rfl
   have hx:=XWrite.e.eq_1 o.writes[k]
   have lk:=bd hk
   simp(maxSteps:=9999999) [gZ,hk,hx,Vj,q1,lk,hkl,t1,eq_true t2,t3,t4,t5,bH]
  ·obtain rfl:k=o.writes.length:=by omega
   simp(maxSteps:=9999999) [gZ,Vj,t5,bH]
abbrev Vr (x:XReplica):List L:=[.pv (.str x.base.name),oI (x.base.items.map XItem.e), .pv (.int .i64 x.base.auto), .pv (.int .i64 x.seen), .pv (.int .i64 x.sync.outbox.dev), .pv (.int .i64 x.sync.outbox.next), .pv (.lst (x.sync.outbox.writes.map XWrite.e)), .pv (.int .i64 x.sync.tries), .pv (.int .i64 x.sync.wait)]
theorem L6 (x:XReplica):db (.agg [.pv (.str x.base.name),nd 4 (x.base.items.map XItem.e), .pv (.int .i64 x.base.auto), .pv (.int .i64 x.seen), .pv (.int .i64 x.sync.outbox.dev), .pv (.int .i64 x.sync.outbox.next), .down 7 (x.sync.outbox.writes.map XWrite.e), .pv (.int .i64 x.sync.tries), .pv (.int .i64 x.sync.wait)])= .agg (Vr x):=by simp[db, ↓bF,da]
def LO (r:XReplica)(s:XServer):XReplica:=⟨Kr r.base (s.changes.drop r.seen.toNat),(s.changes.length:Nat),⟨(CC r.sync.outbox (r9 s r.sync.outbox.dev)).1,r.sync.tries,r.sync.wait⟩⟩
def kg (r:XReplica)(s:XServer):XReplica×Int:=bif qR r&&(r7 s&& !(cT (s.changes.length:Nat) r.seen))then(LO r s,(s.changes.length:Int)-r.seen)else(r,0)
abbrev Uf (x:XReplica×Int):V:= .tup [(true,Vr x.1),(false,[.pv (.int .i64 x.2)])]
theorem Te {B:Nat}{o:XOutbox}(h:o.Ok B)(q:Int):(CC o q).1.Ok B:=by
 unfold CC
 cases qQ o<;>simp only[cond_true,cond_false]
 ·exact h
 ·exact⟨h.1,h.2.1,Zc (List.length_filter_le _ _) h.2.2.1,fun x m=>h.2.2.2 x (List.mem_filter.1 m).1⟩
theorem FW {r:XReplica}(h:r.Ok 1048576){s:XServer}(hs:s.Ok 1048576):(kg r s).1.Ok 1048576:=by
 unfold kg
 cases qR r&&(r7 s&& !(cT (s.changes.length:Nat) r.seen))<;>simp only[cond_true,cond_false]
 ·exact h
 ·refine⟨MR (by omega) h.1 (fun w m=>hs.2.2.2 w (Yw m)),?_,Te h.2.2.1 _,h.2.2.2.1,h.2.2.2.2⟩
  have:=hs.2.2.1
  simp only[LO,ou]
  omega
theorem wH {r:XReplica}(h:r.Ok 1048576){s:XServer}(hs:s.Ok 1048576):ag Ph aM 649 [r.v,s.v]=some (Uf (kg r s)):=by
 have e1:=py (Zm 1048576) h
 have e2:=L6 r
 have e3:=rX (XReplica.Ok.mono (show 1048576≤maxLen by unfold maxLen;omega) h)
 have e4:=tf (XServer.Ok.mono (show 1048576≤maxLen by unfold maxLen;omega) hs)
 have e6:=Dp (s:=s) (Zc hs.2.1.1 (by unfold maxLen;omega)) r.sync.outbox.dev
 have e7:=zB (Zm 1048576) h.2.2.1 (r9 s r.sync.outbox.dev)
 have hcl:=hs.2.2.1
 unfold kg
 generalize V.agg [.pv (.str r.base.name),nd 4 (r.base.items.map XItem.e), .pv (.int .i64 r.base.auto), .pv (.int .i64 r.seen), .pv (.int .i64 r.sync.outbox.dev), .pv (.int .i64 r.sync.outbox.next), .down 7 (r.sync.outbox.writes.map XWrite.e), .pv (.int .i64 r.sync.tries), .pv (.int .i64 r.sync.wait)]=nv at*
 cases c1:qR r<;>rw[c1]at e3
 ·simp only[Xr,cond_false]
  refine ae (fn:=dN) rfl ?_
  simp(maxSteps:=9999999) [dN,e1, ↓e2,e3, ↓aE, ↓aB, ↓aq, ↓aC, ↓al, ↓aY, ↓au]
 cases c2:r7 s<;>rw[c2]at e4
 ·simp only[Xr,Xk,cond_false]
  refine ae (fn:=dN) rfl ?_
  simp(maxSteps:=9999999) [dN,e1, ↓e2,e3,e4, ↓aE, ↓aB, ↓aq, ↓aC, ↓al, ↓aY, ↓au]
 cases c3:cT (s.changes.length:Nat) r.seen
 rotate_left
 ·simp only[Y0,Xj,cond_false]
  refine ae (fn:=dN) rfl ?_
  simp(maxSteps:=9999999) [dN,e1, ↓e2,e3,e4,c3, ↓aE, ↓aB, ↓aq, ↓aC, ↓al, ↓aY, ↓au]
 have hge:r.seen≤(s.changes.length:Int):=by have:=of_decide_eq_false c3;omega
 have h0:0≤r.seen:=by
  simp only[qR,Zh,vA]at c1
  omega
 have e5:=Ds (by omega) (Zm 1048576) h.1 (ws:=s.changes.drop r.seen.toNat) (fun w m=>hs.2.2.2 w (Yw m)) (by rw[List.length_drop];unfold maxLen;omega)
 have t5:∀x:XWrite,x.e.length=7:=fun _=>rfl
 have t1:((s.changes.map XWrite.e).drop r.seen.toNat).take (s.changes.length-r.seen.toNat)=(s.changes.drop r.seen.toNat).map XWrite.e:=by
  rw[←List.map_drop];exact Zs (by simp)
 have w1:IntKind.i64.wrap ((s.changes.length:Int)-r.seen)=(s.changes.length:Int)-r.seen:=by rw[IntKind.wrap_i64];omega
 simp only[Y0,Bool.not_false,cond_true,LO]
 simp only[GJ]at e5
 generalize Kr r.base (s.changes.drop r.seen.toNat)=ap at*
 generalize (s.changes.drop r.seen.toNat).map XWrite.e=D at*
 generalize CC r.sync.outbox (r9 s r.sync.outbox.dev)=ak at*
 refine ae (fn:=dN) rfl ?_
 simp(maxSteps:=9999999) [dN,e1, ↓e2,e3,e4,c3,h0,hge,t1,t5,e5,e6,e7,w1,bH,tP, ↓aE, ↓aB, ↓aq, ↓aC, ↓al, ↓aY, ↓au]
theorem wV {r:XReplica}(h:r.Ok 1048576){s:XServer}(hs:s.Ok 1048576):ag Ph aM 646 [r.v,s.v]=some (Uf (kg r s)):=by
 have e1:=pt (Zm 1048576) h
 have e2:=L6 r
 have e3:=sd (XReplica.Ok.mono (show 1048576≤maxLen by unfold maxLen;omega) h)
 have e4:=tA (XServer.Ok.mono (show 1048576≤maxLen by unfold maxLen;omega) hs)
 have e6:=Dx (s:=s) (Zc hs.2.1.1 (by unfold maxLen;omega)) r.sync.outbox.dev
 have e7:=Ac (Zm 1048576) h.2.2.1 (r9 s r.sync.outbox.dev)
 have hcl:=hs.2.2.1
 unfold kg
 generalize V.agg [.pv (.str r.base.name),nd 4 (r.base.items.map XItem.e), .pv (.int .i64 r.base.auto), .pv (.int .i64 r.seen), .pv (.int .i64 r.sync.outbox.dev), .pv (.int .i64 r.sync.outbox.next), .down 7 (r.sync.outbox.writes.map XWrite.e), .pv (.int .i64 r.sync.tries), .pv (.int .i64 r.sync.wait)]=nv at*
 cases c1:qR r<;>rw[c1]at e3
 ·simp only[Xr,cond_false]
  refine ae (fn:=dP) rfl ?_
  simp(maxSteps:=9999999) [dP,e1, ↓e2,e3, ↓aE, ↓aB, ↓aq, ↓aC, ↓al, ↓aY, ↓au]
 cases c2:r7 s<;>rw[c2]at e4
 ·simp only[Xr,Xk,cond_false]
  refine ae (fn:=dP) rfl ?_
  simp(maxSteps:=9999999) [dP,e1, ↓e2,e3,e4, ↓aE, ↓aB, ↓aq, ↓aC, ↓al, ↓aY, ↓au]
 cases c3:cT (s.changes.length:Nat) r.seen
 rotate_left
 ·simp only[Y0,Xj,cond_false]
  refine ae (fn:=dP) rfl ?_
  simp(maxSteps:=9999999) [dP,e1, ↓e2,e3,e4,c3, ↓aE, ↓aB, ↓aq, ↓aC, ↓al, ↓aY, ↓au]
 have hge:r.seen≤(s.changes.length:Int):=by have:=of_decide_eq_false c3;omega
 have h0:0≤r.seen:=by
  simp only[qR,Zh,vA]at c1
  omega
 have e5:=BU (by omega) (Zm 1048576) h.1 (ws:=s.changes.drop r.seen.toNat) (fun w m=>hs.2.2.2 w (Yw m)) (by rw[List.length_drop];unfold maxLen;omega)
 have t5:∀x:XWrite,x.e.length=7:=fun _=>rfl
 have t1:((s.changes.map XWrite.e).drop r.seen.toNat).take (s.changes.length-r.seen.toNat)=(s.changes.drop r.seen.toNat).map XWrite.e:=by
  rw[←List.map_drop];exact Zs (by simp)
 have w1:IntKind.i64.wrap ((s.changes.length:Int)-r.seen)=(s.changes.length:Int)-r.seen:=by rw[IntKind.wrap_i64];omega
 simp only[Y0,Bool.not_false,cond_true,LO]
 simp only[GJ]at e5
 generalize Kr r.base (s.changes.drop r.seen.toNat)=ap at*
 generalize (s.changes.drop r.seen.toNat).map XWrite.e=D at*
 generalize CC r.sync.outbox (r9 s r.sync.outbox.dev)=ak at*
 refine ae (fn:=dP) rfl ?_
 simp(maxSteps:=9999999) [dP,e1, ↓e2,e3,e4,c3,h0,hge,t1,t5,e5,e6,e7,w1,bH,tP, ↓aE, ↓aB, ↓aq, ↓aC, ↓al, ↓aY, ↓au]
theorem Ik {z:Nat}{r:List (List PV)}:db (.one (.own z r))=cA r:=rfl
def jj {α:Type}(f:α→Nat)(xs:List α):Nat:=(xs.map f).sum
theorem oM {α:Type}{f:α→Nat}{xs:List α}{k:Nat}(hk:k<xs.length):jj f (xs.take (k+1))=jj f (xs.take k)+f xs[k]:=by
 unfold jj;rw[Yf hk,List.map_append,List.sum_append];simp
theorem sO {α:Type}{f:α→Nat}{c:Nat}(h:∀x,f x≤c):∀(xs:List α),jj f xs≤c*xs.length
 |[]=>by simp[jj]
 |x::xs=>by
  have:=sO h xs
  have:=h x
  simp only[jj,Zv,List.sum_cons,Zo,Nat.mul_add]at*
  omega
def vE (x:XItem):Nat:=(mV x.key).length+(uI x.rcd).length
theorem nF (x:XItem):vE x≤110:=by have:=El x.key;have:=Em x.rcd;unfold vE;omega
def mN (s:XStore):Nat:=jj vE s.items
theorem rY {s:XStore}(h:s.Ok 1048576):ag Ph aM 197 [s.v]=some (aa .i64 (mN s:Nat)):=by
 refine ae (fn:=nW) rfl ?_
 simp +contextual (maxSteps:=9999999) [nW]
 refine aG bm Cl.fin [.f,.f,.f,.t,.f,.f,.f,.t,.t,.t,.f,.f,.f,.f,.f,.f,.f,.f,.f,.f,.f,.f,.f,.f,.f,.f] (fun k=>[(3,aa .i64 (jj vE (s.items.take k):Nat)),(9,aa .i64 k)]) s.items.length (fun _=>false) rfl (by simp[jj]) (fun k hk _=> ?_) (fun _ _=> ?_)
 ·have hx:=XItem.e.eq_1 s.items[k]
  have hi:=XItem.Ok.mono (B:=maxLen) (by unfold maxLen;omega) (h.2.1.2 _ (Zf hk))
  have e1:=zD hi.1
  have e2:=ve hi.2
  have l1:=El s.items[k].key
  have l2:=Em s.items[k].rcd
  have l3:=sO nF (s.items.take k)
  have l4:(s.items.take k).length≤1048576:=by rw[Yd];have:=h.2.1.1;omega
  have ht:jj vE (s.items.take (k+1))=jj vE (s.items.take k)+((mV s.items[k].key).length+(uI s.items[k].rcd).length):=oM hk
  rw[ht]
  generalize jj vE (s.items.take k)=A at l3⊢
  have g:=F6 s.items[k].rcd
  generalize B6 s.items[k].rcd=W at e2 g
  have q1:(ar (mV s.items[k].key)).length=(mV s.items[k].key).length:=cy
  have q2:(ar (uI s.items[k].rcd)).length=(uI s.items[k].rcd).length:=cy
  generalize (mV s.items[k].key).length=a at l1 q1⊢
  generalize (uI s.items[k].rcd).length=b at l2 q2⊢
  have w1:IntKind.i64.wrap ((a:Int)+(b:Int))=(a:Int)+(b:Int):=by rw[IntKind.wrap_i64];omega
  have w2:IntKind.i64.wrap ((A:Int)+((a:Int)+(b:Int)))=(A:Int)+((a:Int)+(b:Int)):=by rw[IntKind.wrap_i64];omega
  have w3:IntKind.i64.wrap ((A:Int)+(a:Int))=(A:Int)+(a:Int):=by rw[IntKind.wrap_i64];omega
  have w4:IntKind.i64.wrap ((A:Int)+(a:Int)+(b:Int))=(A:Int)+((a:Int)+(b:Int)):=by rw[IntKind.wrap_i64];omega
  simp(maxSteps:=9999999) [jr,hk,hx,e1,e2,Ik, ↓g,q1,q2,w1,w2,w3,w4,aR (n:=s.items.length) (by have:=h.2.1.1;unfold maxLen;omega) hk,bd hk,-db]
 ·rw[Yq]
  simp(maxSteps:=9999999) [jr,mN]
theorem se {s:XStore}(h:s.Ok 1048576):ag Ph aM 194 [s.v]=some (aa .i64 (mN s:Nat)):=by
 refine ae (fn:=oh) rfl ?_
 simp +contextual (maxSteps:=9999999) [oh]
 refine aG bm Cl.fin [.f,.t,.f,.t,.t,.f,.f,.f,.f,.f,.f,.f,.f,.f,.f,.f,.f,.f,.f,.f,.f,.f,.f,.f,.f,.f,.f,.f,.f,.f,.f,.f] (fun k=>[(3,aa .i64 (jj vE (s.items.take k):Nat)),(4,aa .i64 k)]) s.items.length (fun _=>false) rfl (by simp[jj]) (fun k hk _=> ?_) (fun _ _=> ?_)
 ·have hx:=XItem.e.eq_1 s.items[k]
  have hi:=XItem.Ok.mono (B:=maxLen) (by unfold maxLen;omega) (h.2.1.2 _ (Zf hk))
  have e1:=Ad hi.1
  have e2:=vG hi.2
  have l1:=El s.items[k].key
  have l2:=Em s.items[k].rcd
  have l3:=sO nF (s.items.take k)
  have l4:(s.items.take k).length≤1048576:=by rw[Yd];have:=h.2.1.1;omega
  have ht:jj vE (s.items.take (k+1))=jj vE (s.items.take k)+((mV s.items[k].key).length+(uI s.items[k].rcd).length):=oM hk
  rw[ht]
  generalize jj vE (s.items.take k)=A at l3⊢
  have g:=F6 s.items[k].rcd
  generalize B6 s.items[k].rcd=W at e2 g
  have q1:(ar (mV s.items[k].key)).length=(mV s.items[k].key).length:=cy
  have q2:(ar (uI s.items[k].rcd)).length=(uI s.items[k].rcd).length:=cy
  generalize (mV s.items[k].key).length=a at l1 q1⊢
  generalize (uI s.items[k].rcd).length=b at l2 q2⊢
  have w1:IntKind.i64.wrap ((a:Int)+(b:Int))=(a:Int)+(b:Int):=by rw[IntKind.wrap_i64];omega
  have w2:IntKind.i64.wrap ((A:Int)+((a:Int)+(b:Int)))=(A:Int)+((a:Int)+(b:Int)):=by rw[IntKind.wrap_i64];omega
  have w3:IntKind.i64.wrap ((A:Int)+(a:Int))=(A:Int)+(a:Int):=by rw[IntKind.wrap_i64];omega
  have w4:IntKind.i64.wrap ((A:Int)+(a:Int)+(b:Int))=(A:Int)+((a:Int)+(b:Int)):=by rw[IntKind.wrap_i64];omega
  simp(maxSteps:=9999999) [jv,hk,hx,e1,e2,Ik, ↓g,q1,q2,w1,w2,w3,w4,aR (n:=s.items.length) (by have:=h.2.1.1;unfold maxLen;omega) hk,bd hk,-db]
 ·rw[Yq]
  simp(maxSteps:=9999999) [jv,mN]
end Gi
