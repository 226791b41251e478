/- Of this proof. -/
import Derived.Test.YtgmnakghjemjlabGreatGmA
set_option linter.unusedSimpArgs false
set_option linter.unusedVariables false
namespace Gi
open Go Go.RowKit
set_option maxHeartbeats 8000000
set_option maxRecDepth 4000
attribute [local simp] bw ah aw aH bg bY Opd.ev put V.cells plain bo gr isInt isStr isBool bin bN oe od un asList L.view ap V.view viewL aU ar bz bP comp aK bu dz cr bD bB bC bx bc bU aO bH aS aX bJ bV bI bG bK V.flat L.flat dJ dk bt putAt thaw thawL thawT freezeVs freezeLs freezeL V.mut L.mut aJ aV dL ce dO bQ bF wp_seq wp_block n5 wp_cond wp_skip wp_exit wp_ret cK cI cS cL df dg de cq aW L.notArr aR aP aQ dY bp storeD a9 fT br cE bh nK L.mov L.closed V.closed PV.bare PV.flat
theorem yW {B:Nat}(hB:B≤1048576){x:XDisk}(h:x.Ok B):ag Ph aE 491 [.agg [.pv (.str x.base.name), .pv (.int .i64 x.base.version), .pv (.lst (x.base.stores.map XStore.e)), .pv (.lst (x.base.unique.map XIndexDef.e)), .pv (.lst (am x.log)), .pv (.int .i64 x.count)]]=some (.agg [.pv (.str x.base.name), .pv (.int .i64 x.base.version),nd 3 (x.base.stores.map XStore.e), .down 2 (x.base.unique.map XIndexDef.e), .down 1 (am x.log), .pv (.int .i64 x.count)]):=by
 obtain⟨h_base,h_log,h_count⟩:=h
 have c0:=sp hB h_base
 have c1:=lS (R:=am x.log) ⟨oR _,iP _,by rw[bv];omega⟩
 have N0:=eG 3 (x.base.stores.map XStore.e)
 generalize nd 3 (x.base.stores.map XStore.e)=n0 at N0 c0 c1⊢
 rcases N0 with⟨-,rfl⟩|⟨-,rfl⟩<;>(refine ae (fn:=nj) rfl ?_;simp[nj,c0,c1])
theorem Bc {B:Nat}(hB:B≤1048576){x:XDisk}(h:x.Ok B):ag Ph aE 487 [.agg [.pv (.str x.base.name), .pv (.int .i64 x.base.version), .pv (.lst (x.base.stores.map XStore.e)), .pv (.lst (x.base.unique.map XIndexDef.e)), .pv (.lst (am x.log)), .pv (.int .i64 x.count)]]=some (.agg [.pv (.str x.base.name), .pv (.int .i64 x.base.version),nd 3 (x.base.stores.map XStore.e), .down 2 (x.base.unique.map XIndexDef.e), .down 1 (am x.log), .pv (.int .i64 x.count)]):=by
 obtain⟨h_base,h_log,h_count⟩:=h
 have c0:=DE hB h_base
 have F0:Flat 1 (am x.log):=⟨oR _,iP _,by rw[bv];omega⟩
 have hf0:=F0.flat
 have hw0:=F0.wid
 have m0:=eF (m:=(am x.log).length) (z:=1) (by have:=F0.len;omega) (by omega)
 rw[Nat.mul_one]at m0
 generalize (am x.log)=R0 at F0 hf0 hw0 m0⊢
 have N0:=eG 3 (x.base.stores.map XStore.e)
 generalize nd 3 (x.base.stores.map XStore.e)=n0 at N0 c0⊢
 rcases N0 with⟨-,rfl⟩|⟨-,rfl⟩<;>(refine ae (fn:=oB) rfl ?_;simp[oB,c0,hf0,hw0,m0])
def gz (b0 b1:AObj)(ver:Int)(rows:List (List PV)):Nat→List AObj
 |0=>[b0,b1, .box [.pv (.int .i64 ver), .nil]]
 |k+1=>[b0,b1, .box [.pv (.int .i64 ver), .arr 3], .darr 7 (rows.take (k+1))]
theorem zz {B:Nat}(hB:B≤1048576){x:XCache}(h:x.Ok B):ag Ph aE 495 [.agg [.pv (.int .i64 x.version), .pv (.lst (x.entries.map XCached.e))]]=some (.agg [.pv (.int .i64 x.version),nd 7 (x.entries.map XCached.e)]):=by
 obtain⟨h_version,h_entries⟩:=h
 have e1:∀k(hk:k<x.entries.length),_:=fun k hk=>Be hB (h_entries.2 _ (List.getElem_mem hk)).2.2
 have hl:x.entries.length≤1048576:=Nat.le_trans h_entries.1 hB
 refine ae (fn:=nA) rfl ?_
 simp[nA]
 refine cF aT Cl.fin x.entries.length [.f,.t,.t,.t,.t,.f,.f,.f,.f,.f,.f,.f,.f,.f,.f,.f,.f,.f,.f,.f,.f,.f,.f,.f,.f,.f,.f,.f,.f,.f,.f,.f,.f,.f,.f,.f] (fun k=>[(4,aa .i64 k)]) (gz (.box [.pv (.int .i64 x.version), .pv (.lst (x.entries.map XCached.e))]) (.box [.pv (.int .i64 0), .nil]) x.version (x.entries.map XCached.e)) rfl ?_ ?_ ?_
 ·exact Kn.q [0,1,2] (by simp[gz,aR,aP,aQ,dY,bp,aN,be,aG,dv,bM,bi,bS,L.ren,aS])
 ·intro k hk
  have ek:=e1 k hk
  have hx:=XCached.e.eq_1 x.entries[k]
  have ht:=bW (e:=XCached.e) hk
  rw[hx]at ht
  cases k with
  |zero=>
   simp only[gz,ht]
   simp[fE,hk,hx,ek,bX]
   exact Kn.q [0,1,2,6]
  |succ k=>
   obtain⟨i1,i2,i3,i4,i5,i6⟩:=mZ (n:=x.entries.length) (by unfold maxLen;omega) hk
   have b1:min (k+1) x.entries.length=k+1:=by omega
   have m1:=eF (m:=k+1+1) (z:=88) (by omega) (by omega)
   simp only[gz,ht]
   generalize hT:List.take (k+1) _=T
   have hTl:T.length=k+1:=by rw[←hT];simp;omega
   simp[fE,hk,hx,ek,i1,i2,i3,i4,i5,i6,hTl,m1]
   exact Kn.q [0,1,2,7]
 ·cases hq:x.entries with
  |nil=>simp[fE,gz,nd]
  |cons q qs=>
   have hT:(x.entries.map XCached.e).take (qs.length+1)=x.entries.map XCached.e:=List.take_of_length_le (by rw[hq];simp)
   rw[hq]at hT
   simp only[List.length_cons,gz,hT]
   simp[fE,nd]
def ic (b0 b1:AObj)(rows:List (List PV)):Nat→List AObj
 |0=>[b0,b1, .box [.nil]]
 |k+1=>[b0,b1, .box [.arr 3], .darr 2 (rows.take (k+1))]
theorem Bg {B:Nat}(hB:B≤1048576){x:XCacheSet}(h:x.Ok B):ag Ph aE 486 [.agg [.pv (.lst (x.caches.map XCache.e))]]=some (.agg [nd 2 (x.caches.map XCache.e)]):=by
 have h_caches:=h
 have e1:∀k(hk:k<x.caches.length),_:=fun k hk=>zz hB (h_caches.2 _ (List.getElem_mem hk))
 have hl:x.caches.length≤1048576:=Nat.le_trans h_caches.1 hB
 refine ae (fn:=oF) rfl ?_
 simp[oF]
 refine cF aT Cl.fin x.caches.length [.f,.t,.t,.t,.t,.f,.f,.f,.f,.f,.f,.f,.f,.f,.f,.f,.f,.f,.f,.f,.f,.f,.f,.f,.f] (fun k=>[(4,aa .i64 k)]) (ic (.box [.pv (.lst (x.caches.map XCache.e))]) (.box [.nil]) (x.caches.map XCache.e)) rfl ?_ ?_ ?_
 ·exact Kn.q [0,1,2] (by simp[ic,aR,aP,aQ,dY,bp,aN,be,aG,dv,bM,bi,bS,L.ren,aS])
 ·intro k hk
  have ek:=e1 k hk
  have hx:=XCache.e.eq_1 x.caches[k]
  have ht:=bW (e:=XCache.e) hk
  rw[hx]at ht
  have N0:=eG 7 (x.caches[k].entries.map XCached.e)
  generalize nd 7 (x.caches[k].entries.map XCached.e)=n0 at N0 ek
  cases k with
  |zero=>
   simp only[ic,ht]
   rcases N0 with⟨q0,rfl⟩|⟨q0,rfl⟩
   ·simp only[q0]at ek
    simp[eC,hk,hx,ek,bX,q0]
    exact Kn.q [0,1,2,4]
   ·simp[eC,hk,hx,ek,bX]
    exact Kn.q [0,1,2,5]
  |succ k=>
   obtain⟨i1,i2,i3,i4,i5,i6⟩:=mZ (n:=x.caches.length) (by unfold maxLen;omega) hk
   have b1:min (k+1) x.caches.length=k+1:=by omega
   have m1:=eF (m:=k+1+1) (z:=32) (by omega) (by omega)
   simp only[ic,ht]
   generalize hT:List.take (k+1) _=T
   have hTl:T.length=k+1:=by rw[←hT];simp;omega
   rcases N0 with⟨q0,rfl⟩|⟨q0,rfl⟩
   ·simp only[q0]at ek
    simp[eC,hk,hx,ek,i1,i2,i3,i4,i5,i6,hTl,m1,q0]
    exact Kn.q [0,1,2,5]
   ·simp[eC,hk,hx,ek,i1,i2,i3,i4,i5,i6,hTl,m1]
    exact Kn.q [0,1,2,6]
 ·cases hq:x.caches with
  |nil=>simp[eC,ic,nd]
  |cons q qs=>
   have hT:(x.caches.map XCache.e).take (qs.length+1)=x.caches.map XCache.e:=List.take_of_length_le (by rw[hq];simp)
   rw[hq]at hT
   simp only[List.length_cons,ic,hT]
   simp[eC,nd]
def ME (b0 b1:AObj)(rows:List (List PV)):Nat→List AObj
 |0=>[b0,b1, .box [.nil]]
 |k+1=>[b0,b1, .box [.arr 3], .darr 2 (rows.take (k+1))]
def A0 (p:Nat)(pre:List AObj)(b5:AObj)(ver:Int)(rows:List (List PV)):Nat→List AObj
 |0=>pre++[b5, .box [.pv (.int .i64 ver), .nil]]
 |j+1=>pre++[b5, .box [.pv (.int .i64 ver), .arr (p+2)], .darr 7 (rows.take (j+1))]
theorem so {B:Nat}(hB:B≤1048576){x:XCacheSet}(h:x.Ok B):ag Ph aE 490 [.agg [.pv (.lst (x.caches.map XCache.e))]]=some (.agg [nd 2 (x.caches.map XCache.e)]):=by
 have hl:x.caches.length≤1048576:=Nat.le_trans h.1 hB
 refine ae (fn:=jU) rfl ?_
 simp[jU]
 refine cF aT Cl.fin x.caches.length [.f,.f,.t,.t,.f,.f,.f,.f,.f,.f,.f,.t,.t,.t,.f,.f,.f,.f,.f,.f,.f,.f,.f,.f,.f,.f,.f,.f,.f,.f,.f,.f,.f,.f,.f,.f,.f,.f,.f,.f,.f,.f,.f,.f,.f,.f] (fun k=>[(13,aa .i64 k)]) (ME (.box [.pv (.lst (x.caches.map XCache.e))]) (.box [.nil]) (x.caches.map XCache.e)) rfl ?_ ?_ ?_
 ·exact Kn.q [0,1,2] (by simp[ME,aR,aP,aQ,dY,bp,aN,be,aG,dv,bM,bi,bS,L.ren,aS])
 ·intro k hk
  have hcx:=h.2 _ (List.getElem_mem hk)
  have hx:=XCache.e.eq_1 x.caches[k]
  have ht:=bW (e:=XCache.e) hk
  rw[hx]at ht
  have hel:x.caches[k].entries.length≤1048576:=Nat.le_trans hcx.2.1 hB
  have e1:∀j(hj:j<x.caches[k].entries.length),_:=fun j hj=>sr hB (hcx.2.2 _ (List.getElem_mem hj)).2.2
  cases k with
  |zero=>
   simp only[ME,ht]
   generalize hE:x.caches[0].entries=E at hx e1 hel⊢
   generalize hv:x.caches[0].version=ver at hx⊢
   simp[dQ,hk,hx,bX]
   refine cF aT Cl.kn E.length [.f,.f,.t,.t,.f,.f,.t,.f,.f,.f,.f,.t,.t,.t,.f,.f,.f,.f,.f,.f,.f,.t,.t,.t,.f,.f,.f,.f,.f,.f,.f,.f,.f,.f,.f,.f,.f,.f,.f,.f,.f,.f,.f,.f,.f,.f] (fun j=>[(23,aa .i64 j)]) (A0 3 [.box [.pv (.lst (x.caches.map XCache.e))], .box [.nil], .box [.nil]] (.box [.pv (.int .i64 ver), .pv (.lst (E.map XCached.e))]) ver (E.map XCached.e)) rfl ?_ ?_ ?_
   ·exact Kn.q [0,1,2,3,4] (by simp[A0,aR,aP,aQ,dY,bp,aN,be,aG,dv,bM,bi,bS,L.ren,aS])
   ·intro j hj
    have ek:=e1 j hj
    have hy:=XCached.e.eq_1 E[j]
    have hu:=bW (e:=XCached.e) hj
    rw[hy]at hu
    cases j with
    |zero=>
     simp only[A0,hu]
     simp[bE,hj,hy,ek,bX]
     exact Kn.q [0,1,2,3,4,8]
    |succ j=>
     obtain⟨i1,i2,i3,i4,i5,i6⟩:=mZ (n:=E.length) (by unfold maxLen;omega) hj
     have m1:=eF (m:=j+1+1) (z:=88) (by omega) (by omega)
     simp only[A0,hu]
     generalize hU:List.take (j+1) _=U
     have hUl:U.length=j+1:=by rw[←hU];simp;omega
     simp[bE,hj,hy,ek,i1,i2,i3,i4,i5,i6,hUl,m1]
     exact Kn.q [0,1,2,3,4,9]
   ·cases hq:E with
    |nil=>
     simp[bE,A0,hk,hx,bX]
     exact Kn.q [0,1,2,6]
    |cons q qs=>
     have hT2:(E.map XCached.e).take (qs.length+1)=E.map XCached.e:=List.take_of_length_le (by rw[hq];simp)
     rw[hq]at hT2
     simp only[List.length_cons,A0,hT2]
     simp[bE,hk,hx,bX]
     exact Kn.q [0,1,2,7]
  |succ k=>
   obtain⟨i1,i2,i3,i4,i5,i6⟩:=mZ (n:=x.caches.length) (by unfold maxLen;omega) hk
   have m1:=eF (m:=k+1+1) (z:=32) (by omega) (by omega)
   simp only[ME,ht]
   generalize hT:List.take (k+1) _=T
   have hTl:T.length=k+1:=by rw[←hT];simp;omega
   generalize hE:x.caches[k+1].entries=E at hx e1 hel⊢
   generalize hv:x.caches[k+1].version=ver at hx⊢
   simp[dQ,hk,hx,i1,i2,i3,i4,i5,i6,hTl,m1]
   refine cF aT Cl.kn E.length [.f,.f,.t,.t,.f,.f,.t,.f,.f,.f,.f,.t,.t,.t,.f,.f,.f,.f,.f,.f,.f,.t,.t,.t,.f,.f,.f,.f,.f,.f,.f,.f,.f,.f,.f,.f,.f,.f,.f,.f,.f,.f,.f,.f,.f,.f] (fun j=>[(23,aa .i64 j)]) (A0 4 [.box [.pv (.lst (x.caches.map XCache.e))], .box [.nil], .box [.arr 3], .darr 2 T] (.box [.pv (.int .i64 ver), .pv (.lst (E.map XCached.e))]) ver (E.map XCached.e)) rfl ?_ ?_ ?_
   ·exact Kn.q [0,1,2,3,4,5] (by simp[A0,aR,aP,aQ,dY,bp,aN,be,aG,dv,bM,bi,bS,L.ren,aS])
   ·intro j hj
    have ek:=e1 j hj
    have hy:=XCached.e.eq_1 E[j]
    have hu:=bW (e:=XCached.e) hj
    rw[hy]at hu
    cases j with
    |zero=>
     simp only[A0,hu]
     simp[bE,hj,hy,ek,bX]
     exact Kn.q [0,1,2,3,4,5,9]
    |succ j=>
     obtain⟨i1,i2,i3,i4,i5,i6⟩:=mZ (n:=E.length) (by unfold maxLen;omega) hj
     have m1:=eF (m:=j+1+1) (z:=88) (by omega) (by omega)
     simp only[A0,hu]
     generalize hU:List.take (j+1) _=U
     have hUl:U.length=j+1:=by rw[←hU];simp;omega
     simp[bE,hj,hy,ek,i1,i2,i3,i4,i5,i6,hUl,m1]
     exact Kn.q [0,1,2,3,4,5,10]
   ·cases hq:E with
    |nil=>
     simp[bE,A0,hk,hx,i1,i2,i3,i4,i5,i6,hTl,m1]
     exact Kn.q [0,1,2,7]
    |cons q qs=>
     have hT2:(E.map XCached.e).take (qs.length+1)=E.map XCached.e:=List.take_of_length_le (by rw[hq];simp)
     rw[hq]at hT2
     simp only[List.length_cons,A0,hT2]
     simp[bE,hk,hx,i1,i2,i3,i4,i5,i6,hTl,m1]
     exact Kn.q [0,1,2,8]
 ·cases hq:x.caches with
  |nil=>simp[dQ,ME,nd]
  |cons q qs=>
   have hT:(x.caches.map XCache.e).take (qs.length+1)=x.caches.map XCache.e:=List.take_of_length_le (by rw[hq];simp)
   rw[hq]at hT
   simp only[List.length_cons,ME,hT]
   simp[dQ,nd]
theorem oU {B:Nat}(hB:B≤1048576){x:XBucket}(h:x.Ok B):ag Ph aE 478 [.agg [.pv (.str x.site), .pv (.str x.top), .pv (.str x.reg.site), .pv (.int .i64 x.reg.installing), .pv (.int .i64 x.reg.waiting), .pv (.int .i64 x.reg.active), .pv (.lst (x.caches.caches.map XCache.e)), .pv (.str x.disk.base.name), .pv (.int .i64 x.disk.base.version), .pv (.lst (x.disk.base.stores.map XStore.e)), .pv (.lst (x.disk.base.unique.map XIndexDef.e)), .pv (.lst (am x.disk.log)), .pv (.int .i64 x.disk.count), .pv (.str x.replica.base.name), .pv (.lst (x.replica.base.items.map XItem.e)), .pv (.int .i64 x.replica.base.auto), .pv (.int .i64 x.replica.seen), .pv (.int .i64 x.replica.sync.outbox.dev), .pv (.int .i64 x.replica.sync.outbox.next), .pv (.lst (x.replica.sync.outbox.writes.map XWrite.e)), .pv (.int .i64 x.replica.sync.tries), .pv (.int .i64 x.replica.sync.wait), .pv (.int .i64 x.lastUsed), .pv (.bool x.persistent)]]=some (.agg [.pv (.str x.site), .pv (.str x.top), .pv (.str x.reg.site), .pv (.int .i64 x.reg.installing), .pv (.int .i64 x.reg.waiting), .pv (.int .i64 x.reg.active),nd 2 (x.caches.caches.map XCache.e), .pv (.str x.disk.base.name), .pv (.int .i64 x.disk.base.version),nd 3 (x.disk.base.stores.map XStore.e), .down 2 (x.disk.base.unique.map XIndexDef.e), .down 1 (am x.disk.log), .pv (.int .i64 x.disk.count), .pv (.str x.replica.base.name),nd 4 (x.replica.base.items.map XItem.e), .pv (.int .i64 x.replica.base.auto), .pv (.int .i64 x.replica.seen), .pv (.int .i64 x.replica.sync.outbox.dev), .pv (.int .i64 x.replica.sync.outbox.next), .down 7 (x.replica.sync.outbox.writes.map XWrite.e), .pv (.int .i64 x.replica.sync.tries), .pv (.int .i64 x.replica.sync.wait), .pv (.int .i64 x.lastUsed), .pv (.bool x.persistent)]):=by
 obtain⟨h_site,h_top,h_reg,h_caches,h_disk,h_replica,h_lastUsed⟩:=h
 have c0:=so hB h_caches
 have c1:=yW hB h_disk
 have c2:=tL hB h_replica
 have N0:=eG 2 (x.caches.caches.map XCache.e)
 generalize nd 2 (x.caches.caches.map XCache.e)=n0 at N0 c0 c1 c2⊢
 have N1:=eG 3 (x.disk.base.stores.map XStore.e)
 generalize nd 3 (x.disk.base.stores.map XStore.e)=n1 at N1 c0 c1 c2⊢
 have N2:=eG 4 (x.replica.base.items.map XItem.e)
 generalize nd 4 (x.replica.base.items.map XItem.e)=n2 at N2 c0 c1 c2⊢
 rcases N0 with⟨-,rfl⟩|⟨-,rfl⟩<;>rcases N1 with⟨-,rfl⟩|⟨-,rfl⟩<;>rcases N2 with⟨-,rfl⟩|⟨-,rfl⟩<;>(refine ae (fn:=lD) rfl ?_;simp[lD,c0,c1,c2])
theorem rE {B:Nat}(hB:B≤1048576){x:XBucket}(h:x.Ok B):ag Ph aE 476 [.agg [.pv (.str x.site), .pv (.str x.top), .pv (.str x.reg.site), .pv (.int .i64 x.reg.installing), .pv (.int .i64 x.reg.waiting), .pv (.int .i64 x.reg.active), .pv (.lst (x.caches.caches.map XCache.e)), .pv (.str x.disk.base.name), .pv (.int .i64 x.disk.base.version), .pv (.lst (x.disk.base.stores.map XStore.e)), .pv (.lst (x.disk.base.unique.map XIndexDef.e)), .pv (.lst (am x.disk.log)), .pv (.int .i64 x.disk.count), .pv (.str x.replica.base.name), .pv (.lst (x.replica.base.items.map XItem.e)), .pv (.int .i64 x.replica.base.auto), .pv (.int .i64 x.replica.seen), .pv (.int .i64 x.replica.sync.outbox.dev), .pv (.int .i64 x.replica.sync.outbox.next), .pv (.lst (x.replica.sync.outbox.writes.map XWrite.e)), .pv (.int .i64 x.replica.sync.tries), .pv (.int .i64 x.replica.sync.wait), .pv (.int .i64 x.lastUsed), .pv (.bool x.persistent)]]=some (.agg [.pv (.str x.site), .pv (.str x.top), .pv (.str x.reg.site), .pv (.int .i64 x.reg.installing), .pv (.int .i64 x.reg.waiting), .pv (.int .i64 x.reg.active),nd 2 (x.caches.caches.map XCache.e), .pv (.str x.disk.base.name), .pv (.int .i64 x.disk.base.version),nd 3 (x.disk.base.stores.map XStore.e), .down 2 (x.disk.base.unique.map XIndexDef.e), .down 1 (am x.disk.log), .pv (.int .i64 x.disk.count), .pv (.str x.replica.base.name),nd 4 (x.replica.base.items.map XItem.e), .pv (.int .i64 x.replica.base.auto), .pv (.int .i64 x.replica.seen), .pv (.int .i64 x.replica.sync.outbox.dev), .pv (.int .i64 x.replica.sync.outbox.next), .down 7 (x.replica.sync.outbox.writes.map XWrite.e), .pv (.int .i64 x.replica.sync.tries), .pv (.int .i64 x.replica.sync.wait), .pv (.int .i64 x.lastUsed), .pv (.bool x.persistent)]):=by
 obtain⟨h_site,h_top,h_reg,h_caches,h_disk,h_replica,h_lastUsed⟩:=h
 have c0:=Bg hB h_caches
 have c1:=Bc hB h_disk
 have c2:=Bl hB h_replica
 have N0:=eG 2 (x.caches.caches.map XCache.e)
 generalize nd 2 (x.caches.caches.map XCache.e)=n0 at N0 c0 c1 c2⊢
 have N1:=eG 3 (x.disk.base.stores.map XStore.e)
 generalize nd 3 (x.disk.base.stores.map XStore.e)=n1 at N1 c0 c1 c2⊢
 have N2:=eG 4 (x.replica.base.items.map XItem.e)
 generalize nd 4 (x.replica.base.items.map XItem.e)=n2 at N2 c0 c1 c2⊢
 rcases N0 with⟨-,rfl⟩|⟨-,rfl⟩<;>rcases N1 with⟨-,rfl⟩|⟨-,rfl⟩<;>rcases N2 with⟨-,rfl⟩|⟨-,rfl⟩<;>(refine ae (fn:=oN) rfl ?_;simp[oN,c0,c1,c2])
end Gi
