/- Of this proof. -/
import Derived.Test.YtpfadfkomcbecaaGreatGmB
set_option linter.unusedSimpArgs false
set_option linter.unusedVariables false
namespace Gi
open Go Go.RowKit
set_option maxHeartbeats 8000000
set_option maxRecDepth 4000
attribute [local simp] start ah az aH bf bU Opd.ev put V.cells plain bm gu isInt isStr isBool bin bM oE oD un asList L.view ap V.view viewL aV au bE bN comp aK bq dw co bz bw bx bI bi cq aW bD aR aX bG cr bF bC bH V.flat L.flat dG dk bt putAt thaw thawL thawT freezeVs freezeLs freezeL V.mut L.mut aJ aT dH ca dL bO bB wp_seq wp_block ov wp_cond wp_skip wp_exit wp_ret cG cE cP cH dd de db cj aU L.notArr aQ aO aP dW bn storeD a9 fR bo cD be nX L.mov L.closed V.closed PV.bare PV.flat
def fe (b0 b1:AObj)(rows:List (List PV)):Nat→List AObj
 |0=>[b0,b1, .box [.nil]]
 |k+1=>[b0,b1, .box [.arr 3], .darr 24 (rows.take (k+1))]
theorem t9 {B:Nat}(hB:B≤1048576){x:XStorage}(h:x.Ok B):ag Ph aF 456 [.agg [.pv (.lst (x.buckets.map XBucket.e))]]=some (.agg [nd 24 (x.buckets.map XBucket.e)]):=by
 have h_buckets:=h
 have e1:∀k(hk:k<x.buckets.length),_:=fun k hk=>vO hB (h_buckets.2 _ (List.getElem_mem hk))
 have hl:x.buckets.length≤1048576:=Nat.le_trans h_buckets.1 hB
 refine ae (fn:=kV) rfl ?_
 simp[kV]
 refine cy aM Cl.fin x.buckets.length [.f,.f,.t,.t,.f,.f,.f,.f,.t,.t,.t,.f,.f,.f,.f,.f,.f,.f,.f,.f,.f,.f,.f] (fun k=>[(10,aa .i64 k)]) (fe (.box [.pv (.lst (x.buckets.map XBucket.e))]) (.box [.nil]) (x.buckets.map XBucket.e)) rfl ?_ ?_ ?_
 ·exact Kn.q [0,1,2] (by simp[fe,aQ,aO,aP,dW,bn,aN,bd,aG,dj,bK,bg,bQ,L.ren,aR])
 ·intro k hk
  have ek:=e1 k hk
  have hx:=XBucket.e.eq_1 x.buckets[k]
  have ht:=bV (e:=XBucket.e) hk
  rw[hx]at ht
  have N0:=fi 2 (x.buckets[k].caches.caches.map XCache.e)
  generalize nd 2 (x.buckets[k].caches.caches.map XCache.e)=n0 at N0 ek
  have N1:=fi 3 (x.buckets[k].disk.base.stores.map XStore.e)
  generalize nd 3 (x.buckets[k].disk.base.stores.map XStore.e)=n1 at N1 ek
  have N2:=fi 4 (x.buckets[k].replica.base.items.map XItem.e)
  generalize nd 4 (x.buckets[k].replica.base.items.map XItem.e)=n2 at N2 ek
  cases k with
  |zero=>
   simp only[fe,ht]
   rcases N0 with⟨q0,rfl⟩|⟨q0,rfl⟩<;>rcases N1 with⟨q1,rfl⟩|⟨q1,rfl⟩<;>rcases N2 with⟨q2,rfl⟩|⟨q2,rfl⟩
   ·simp only[q0,q1,q2]at ek
    simp[aE,hk,hx,ek,bW,q0,q1,q2]
    exact Kn.q [0,1,2,8]
   ·simp only[q0,q1]at ek
    simp[aE,hk,hx,ek,bW,q0,q1]
    exact Kn.q [0,1,2,9]
   ·simp only[q0,q2]at ek
    simp[aE,hk,hx,ek,bW,q0,q2]
    exact Kn.q [0,1,2,9]
   ·simp only[q0]at ek
    simp[aE,hk,hx,ek,bW,q0]
    exact Kn.q [0,1,2,10]
   ·simp only[q1,q2]at ek
    simp[aE,hk,hx,ek,bW,q1,q2]
    exact Kn.q [0,1,2,9]
   ·simp only[q1]at ek
    simp[aE,hk,hx,ek,bW,q1]
    exact Kn.q [0,1,2,10]
   ·simp only[q2]at ek
    simp[aE,hk,hx,ek,bW,q2]
    exact Kn.q [0,1,2,10]
   ·simp[aE,hk,hx,ek,bW]
    exact Kn.q [0,1,2,11]
  |succ k=>
   obtain⟨i1,i2,i3,i4,i5,i6⟩:=nk (n:=x.buckets.length) (by unfold maxLen;omega) hk
   have b1:min (k+1) x.buckets.length=k+1:=by omega
   have m1:=eR (m:=k+1+1) (z:=328) (by omega) (by omega)
   simp only[fe,ht]
   generalize hT:List.take (k+1) _=T
   have hTl:T.length=k+1:=by rw[←hT];simp;omega
   rcases N0 with⟨q0,rfl⟩|⟨q0,rfl⟩<;>rcases N1 with⟨q1,rfl⟩|⟨q1,rfl⟩<;>rcases N2 with⟨q2,rfl⟩|⟨q2,rfl⟩
   ·simp only[q0,q1,q2]at ek
    simp[aE,hk,hx,ek,i1,i2,i3,i4,i5,i6,hTl,m1,q0,q1,q2]
    exact Kn.q [0,1,2,9]
   ·simp only[q0,q1]at ek
    simp[aE,hk,hx,ek,i1,i2,i3,i4,i5,i6,hTl,m1,q0,q1]
    exact Kn.q [0,1,2,10]
   ·simp only[q0,q2]at ek
    simp[aE,hk,hx,ek,i1,i2,i3,i4,i5,i6,hTl,m1,q0,q2]
    exact Kn.q [0,1,2,10]
   ·simp only[q0]at ek
    simp[aE,hk,hx,ek,i1,i2,i3,i4,i5,i6,hTl,m1,q0]
    exact Kn.q [0,1,2,11]
   ·simp only[q1,q2]at ek
    simp[aE,hk,hx,ek,i1,i2,i3,i4,i5,i6,hTl,m1,q1,q2]
    exact Kn.q [0,1,2,10]
   ·simp only[q1]at ek
    simp[aE,hk,hx,ek,i1,i2,i3,i4,i5,i6,hTl,m1,q1]
    exact Kn.q [0,1,2,11]
   ·simp only[q2]at ek
    simp[aE,hk,hx,ek,i1,i2,i3,i4,i5,i6,hTl,m1,q2]
    exact Kn.q [0,1,2,11]
   ·simp[aE,hk,hx,ek,i1,i2,i3,i4,i5,i6,hTl,m1]
    exact Kn.q [0,1,2,12]
 ·cases hq:x.buckets with
  |nil=>simp[aE,fe,nd]
  |cons q qs=>
   have hT:(x.buckets.map XBucket.e).take (qs.length+1)=x.buckets.map XBucket.e:=List.take_of_length_le (by rw[hq];simp)
   rw[hq]at hT
   simp only[List.length_cons,fe,hT]
   simp[aE,nd]
def ij (b0 b1:AObj)(rows:List (List PV)):Nat→List AObj
 |0=>[b0,b1, .box [.nil]]
 |k+1=>[b0,b1, .box [.arr 3], .darr 24 (rows.take (k+1))]
theorem BY {B:Nat}(hB:B≤1048576){x:XStorage}(h:x.Ok B):ag Ph aF 450 [.agg [.pv (.lst (x.buckets.map XBucket.e))]]=some (.agg [nd 24 (x.buckets.map XBucket.e)]):=by
 have h_buckets:=h
 have e1:∀k(hk:k<x.buckets.length),_:=fun k hk=>BX hB (h_buckets.2 _ (List.getElem_mem hk))
 have hl:x.buckets.length≤1048576:=Nat.le_trans h_buckets.1 hB
 refine ae (fn:=o7) rfl ?_
 simp[o7]
 refine cy aM Cl.fin x.buckets.length [.f,.t,.t,.t,.t,.f,.f,.f,.f,.f,.f,.f,.f,.f,.f,.f,.f,.f,.f,.f,.f,.f,.f,.f,.f] (fun k=>[(4,aa .i64 k)]) (ij (.box [.pv (.lst (x.buckets.map XBucket.e))]) (.box [.nil]) (x.buckets.map XBucket.e)) rfl ?_ ?_ ?_
 ·exact Kn.q [0,1,2] (by simp[ij,aQ,aO,aP,dW,bn,aN,bd,aG,dj,bK,bg,bQ,L.ren,aR])
 ·intro k hk
  have ek:=e1 k hk
  have hx:=XBucket.e.eq_1 x.buckets[k]
  have ht:=bV (e:=XBucket.e) hk
  rw[hx]at ht
  have N0:=fi 2 (x.buckets[k].caches.caches.map XCache.e)
  generalize nd 2 (x.buckets[k].caches.caches.map XCache.e)=n0 at N0 ek
  have N1:=fi 3 (x.buckets[k].disk.base.stores.map XStore.e)
  generalize nd 3 (x.buckets[k].disk.base.stores.map XStore.e)=n1 at N1 ek
  have N2:=fi 4 (x.buckets[k].replica.base.items.map XItem.e)
  generalize nd 4 (x.buckets[k].replica.base.items.map XItem.e)=n2 at N2 ek
  cases k with
  |zero=>
   simp only[ij,ht]
   rcases N0 with⟨q0,rfl⟩|⟨q0,rfl⟩<;>rcases N1 with⟨q1,rfl⟩|⟨q1,rfl⟩<;>rcases N2 with⟨q2,rfl⟩|⟨q2,rfl⟩
   ·simp only[q0,q1,q2]at ek
    simp[aY,hk,hx,ek,bW,q0,q1,q2]
    exact Kn.q [0,1,2,7]
   ·simp only[q0,q1]at ek
    simp[aY,hk,hx,ek,bW,q0,q1]
    exact Kn.q [0,1,2,8]
   ·simp only[q0,q2]at ek
    simp[aY,hk,hx,ek,bW,q0,q2]
    exact Kn.q [0,1,2,8]
   ·simp only[q0]at ek
    simp[aY,hk,hx,ek,bW,q0]
    exact Kn.q [0,1,2,9]
   ·simp only[q1,q2]at ek
    simp[aY,hk,hx,ek,bW,q1,q2]
    exact Kn.q [0,1,2,8]
   ·simp only[q1]at ek
    simp[aY,hk,hx,ek,bW,q1]
    exact Kn.q [0,1,2,9]
   ·simp only[q2]at ek
    simp[aY,hk,hx,ek,bW,q2]
    exact Kn.q [0,1,2,9]
   ·simp[aY,hk,hx,ek,bW]
    exact Kn.q [0,1,2,10]
  |succ k=>
   obtain⟨i1,i2,i3,i4,i5,i6⟩:=nk (n:=x.buckets.length) (by unfold maxLen;omega) hk
   have b1:min (k+1) x.buckets.length=k+1:=by omega
   have m1:=eR (m:=k+1+1) (z:=328) (by omega) (by omega)
   simp only[ij,ht]
   generalize hT:List.take (k+1) _=T
   have hTl:T.length=k+1:=by rw[←hT];simp;omega
   rcases N0 with⟨q0,rfl⟩|⟨q0,rfl⟩<;>rcases N1 with⟨q1,rfl⟩|⟨q1,rfl⟩<;>rcases N2 with⟨q2,rfl⟩|⟨q2,rfl⟩
   ·simp only[q0,q1,q2]at ek
    simp[aY,hk,hx,ek,i1,i2,i3,i4,i5,i6,hTl,m1,q0,q1,q2]
    exact Kn.q [0,1,2,8]
   ·simp only[q0,q1]at ek
    simp[aY,hk,hx,ek,i1,i2,i3,i4,i5,i6,hTl,m1,q0,q1]
    exact Kn.q [0,1,2,9]
   ·simp only[q0,q2]at ek
    simp[aY,hk,hx,ek,i1,i2,i3,i4,i5,i6,hTl,m1,q0,q2]
    exact Kn.q [0,1,2,9]
   ·simp only[q0]at ek
    simp[aY,hk,hx,ek,i1,i2,i3,i4,i5,i6,hTl,m1,q0]
    exact Kn.q [0,1,2,10]
   ·simp only[q1,q2]at ek
    simp[aY,hk,hx,ek,i1,i2,i3,i4,i5,i6,hTl,m1,q1,q2]
    exact Kn.q [0,1,2,9]
   ·simp only[q1]at ek
    simp[aY,hk,hx,ek,i1,i2,i3,i4,i5,i6,hTl,m1,q1]
    exact Kn.q [0,1,2,10]
   ·simp only[q2]at ek
    simp[aY,hk,hx,ek,i1,i2,i3,i4,i5,i6,hTl,m1,q2]
    exact Kn.q [0,1,2,10]
   ·simp[aY,hk,hx,ek,i1,i2,i3,i4,i5,i6,hTl,m1]
    exact Kn.q [0,1,2,11]
 ·cases hq:x.buckets with
  |nil=>simp[aY,ij,nd]
  |cons q qs=>
   have hT:(x.buckets.map XBucket.e).take (qs.length+1)=x.buckets.map XBucket.e:=List.take_of_length_le (by rw[hq];simp)
   rw[hq]at hT
   simp only[List.length_cons,ij,hT]
   simp[aY,nd]
def SE (rows:List (List PV))(k:Nat):List AObj:=[.darr 11 (rows.take k)]
theorem xr {B:Nat}(hB:B≤1048576){xs:List XPage}(h:xs.length≤B∧∀x∈xs,x.Ok B):ag Ph aF 457 [bu (xs.map XPage.e)]=some (.one (.down 11 (xs.map XPage.e))):=by
 have hl:xs.length≤1048576:=Nat.le_trans h.1 hB
 have e1:∀k(hk:k<xs.length),_:=fun k hk=>zE hB (h.2 _ (List.getElem_mem hk))
 refine ae (fn:=mU) rfl ?_
 simp[mU]
 refine cy aM Cl.fin xs.length [.f,.f,.f,.t,.f,.f,.f,.t,.t,.t,.f,.f,.f,.f,.f,.f,.f,.f,.f,.f] (fun k=>[(3, .one (.arr 0)),(9,aa .i64 k)]) (SE (xs.map XPage.e)) rfl ?_ ?_ ?_
 ·exact Kn.q [0] (by simp[SE,aQ,aO,aP,dW,bn,aN,bd,aG,dj,bK,bg,bQ,L.ren,aR])
 ·intro k hk
  have ek:=e1 k hk
  have hx:=XPage.e.eq_1 xs[k]
  have ht:=bV (e:=XPage.e) hk
  rw[hx]at ht
  cases k with
  |zero=>
   simp only[SE,ht]
   simp[gl,hk,hx,ek,bW]
   exact Kn.q [6]
  |succ k=>
   obtain⟨i1,i2,i3,i4,i5,i6⟩:=nk (n:=xs.length) (by unfold maxLen;omega) hk
   have m1:=eR (m:=k+1+1) (z:=144) (by omega) (by omega)
   simp only[SE,ht]
   generalize hT:List.take (k+1) _=T
   have hTl:T.length=k+1:=by rw[←hT];simp;omega
   simp[gl,hk,hx,ek,i1,i2,i3,i4,i5,i6,hTl,m1]
   exact Kn.q [6]
 ·have hT:(xs.map XPage.e).take xs.length=xs.map XPage.e:=List.take_of_length_le (by simp)
  simp only[SE,hT]
  simp[gl]
def hw (b0 b1:AObj)(o:L→AObj)(rest:List AObj)(n z:Nat)(rows:List (List PV)):Nat→List AObj
 |0=>b0::b1::o .nil::rest
 |k+1=>b0::b1::o (.arr n)::(rest++[.darr z (rows.take (k+1))])
theorem xt {B:Nat}(hB:B≤1048576){x:XWorld}(h:x.Ok B):ag Ph aF 434 [.agg [.pv (.int .i64 x.now), .pv (.bool x.online), .pv (.int .i64 x.device), .pv (.lst (x.storage.buckets.map XBucket.e)), .pv (.lst (x.pages.map XPage.e)), .pv (.int .i64 x.nextPage), .pv (.lst (x.locks.locks.map XLock.e)), .pv (.lst (x.channel.mails.map XMail.e)), .pv (.lst (x.sites.map XSite.e)), .pv (.lst (x.servers.map XServer.e))]]=some (.agg [.pv (.int .i64 x.now), .pv (.bool x.online), .pv (.int .i64 x.device),nd 24 (x.storage.buckets.map XBucket.e), .down 11 (x.pages.map XPage.e), .pv (.int .i64 x.nextPage), .down 4 (x.locks.locks.map XLock.e), .down 3 (x.channel.mails.map XMail.e),nd 4 (x.sites.map XSite.e),nd 5 (x.servers.map XServer.e)]):=by
 obtain⟨h_now,h_device,h_storage,h_pages,h_nextPage,h_locks,h_channel,h_sites,h_servers⟩:=h
 have c0:=t9 hB h_storage
 have c1:=xr hB h_pages
 have c2:=mf hB h_locks
 have c3:=t6 hB h_channel
 have e_sites:∀k(hk:k<x.sites.length),_:=fun k hk=>zF hB (h_sites.2 _ (List.getElem_mem hk))
 have e_servers:∀k(hk:k<x.servers.length),_:=fun k hk=>vR hB (h_servers.2 _ (List.getElem_mem hk))
 have hl1:x.sites.length≤1048576:=Nat.le_trans h_sites.1 hB
 have hl2:x.servers.length≤1048576:=Nat.le_trans h_servers.1 hB
 clear h_now h_device h_storage h_pages h_nextPage h_locks h_channel h_sites h_servers
 have N:=fi 24 (x.storage.buckets.map XBucket.e)
 generalize nd 24 (x.storage.buckets.map XBucket.e)=n at N c0⊢
 rcases N with⟨-,rfl⟩|⟨-,rfl⟩
 ·refine ae (fn:=ib) rfl ?_
  simp[ib,c0,c1,c2,c3]
  refine cy aM Cl.fin x.sites.length [.f,.t,.t,.t,.f,.f,.f,.f,.f,.f,.f,.f,.f,.f,.f,.f,.f,.f,.f,.f,.f,.f,.f,.f,.f,.f,.f,.t,.t,.t,.f,.f,.f,.f,.f,.f,.f,.f,.f,.f,.f,.f,.f,.f,.f,.f,.f,.f,.f,.f,.f,.f,.f,.f,.f,.f,.f,.f] (fun k=>[(29,aa .i64 k)]) (hw (.box [.pv (.int .i64 x.now), .pv (.bool x.online), .pv (.int .i64 x.device), .pv (.lst (x.storage.buckets.map XBucket.e)), .pv (.lst (x.pages.map XPage.e)), .pv (.int .i64 x.nextPage), .pv (.lst (x.locks.locks.map XLock.e)), .pv (.lst (x.channel.mails.map XMail.e)), .pv (.lst (x.sites.map XSite.e)), .pv (.lst (x.servers.map XServer.e))]) (.box [.pv (.int .i64 0), .pv (.bool false), .pv (.int .i64 0), .nil, .nil, .pv (.int .i64 0), .nil, .nil, .nil, .nil]) (fun c=> .box [.pv (.int .i64 x.now), .pv (.bool x.online), .pv (.int .i64 x.device), .nil, .arr 3, .pv (.int .i64 x.nextPage), .arr 4, .arr 5,c, .pv (.lst (x.servers.map XServer.e))]) [.darr 11 (x.pages.map XPage.e), .darr 4 (x.locks.locks.map XLock.e), .darr 3 (x.channel.mails.map XMail.e)] 6 4 (x.sites.map XSite.e)) rfl ?_ ?_ ?_
  ·exact Kn.q [0,1,2,3,4,5] (by simp[hw,List.cons_append,List.nil_append,aQ,aO,aP,dW,bn,aN,bd,aG,dj,bK,bg,bQ,L.ren,aR])
  ·intro k hk
   have ek:=e_sites k hk
   have hx:=XSite.e.eq_1 x.sites[k]
   have ht:=bV (e:=XSite.e) hk
   rw[hx]at ht
   cases k with
   |zero=>
    simp only[hw,List.cons_append,List.nil_append,ht]
    simp[bZ,hk,hx,ek,bW]
    exact Kn.q [0,1,2,3,4,5,9]
   |succ k=>
    obtain⟨i1,i2,i3,i4,i5,i6⟩:=nk (n:=x.sites.length) (by unfold maxLen;omega) hk
    have m1:=eR (m:=k+1+1) (z:=56) (by omega) (by omega)
    simp only[hw,List.cons_append,List.nil_append,ht]
    generalize hT:List.take (k+1) _=T
    have hTl:T.length=k+1:=by rw[←hT];simp;omega
    simp[bZ,hk,hx,ek,i1,i2,i3,i4,i5,i6,hTl,m1]
    exact Kn.q [0,1,2,3,4,5,10]
  ·cases hq:x.sites with
   |nil=>
    simp only[List.length_nil,hw]
    simp[bZ,nd]
    refine cy aM Cl.fin x.servers.length [.f,.f,.t,.t,.f,.f,.f,.f,.f,.f,.f,.f,.f,.f,.f,.f,.f,.f,.f,.f,.f,.f,.f,.f,.f,.f,.f,.f,.f,.f,.f,.f,.f,.f,.f,.f,.f,.f,.f,.f,.f,.f,.f,.t,.t,.t,.f,.f,.f,.f,.f,.f,.f,.f,.f,.f,.f,.f] (fun k=>[(45,aa .i64 k)]) (hw (.box [.pv (.int .i64 x.now), .pv (.bool x.online), .pv (.int .i64 x.device), .pv (.lst (x.storage.buckets.map XBucket.e)), .pv (.lst (x.pages.map XPage.e)), .pv (.int .i64 x.nextPage), .pv (.lst (x.locks.locks.map XLock.e)), .pv (.lst (x.channel.mails.map XMail.e)), .pv (.lst []), .pv (.lst (x.servers.map XServer.e))]) (.box [.pv (.int .i64 0), .pv (.bool false), .pv (.int .i64 0), .nil, .nil, .pv (.int .i64 0), .nil, .nil, .nil, .nil]) (fun c=> .box [.pv (.int .i64 x.now), .pv (.bool x.online), .pv (.int .i64 x.device), .nil, .arr 3, .pv (.int .i64 x.nextPage), .arr 4, .arr 5, .nil,c]) [.darr 11 (x.pages.map XPage.e), .darr 4 (x.locks.locks.map XLock.e), .darr 3 (x.channel.mails.map XMail.e)] 6 5 (x.servers.map XServer.e)) rfl ?_ ?_ ?_
    ·exact Kn.q [0,1,2,3,4,5] (by simp[hw,List.cons_append,List.nil_append,aQ,aO,aP,dW,bn,aN,bd,aG,dj,bK,bg,bQ,L.ren,aR])
    ·intro k hk
     have ek:=e_servers k hk
     have hx:=XServer.e.eq_1 x.servers[k]
     have ht:=bV (e:=XServer.e) hk
     rw[hx]at ht
     have N0:=fi 4 (x.servers[k].store.items.map XItem.e)
     generalize nd 4 (x.servers[k].store.items.map XItem.e)=n0 at N0 ek
     cases k with
     |zero=>
      simp only[hw,List.cons_append,List.nil_append,ht]
      rcases N0 with⟨q0,rfl⟩|⟨q0,rfl⟩
      ·simp only[q0]at ek
       simp[aw,hk,hx,ek,bW,q0]
       exact Kn.q [0,1,2,3,4,5,10]
      ·simp[aw,hk,hx,ek,bW]
       exact Kn.q [0,1,2,3,4,5,11]
     |succ k=>
      obtain⟨i1,i2,i3,i4,i5,i6⟩:=nk (n:=x.servers.length) (by unfold maxLen;omega) hk
      have m1:=eR (m:=k+1+1) (z:=96) (by omega) (by omega)
      simp only[hw,List.cons_append,List.nil_append,ht]
      generalize hT:List.take (k+1) _=T
      have hTl:T.length=k+1:=by rw[←hT];simp;omega
      rcases N0 with⟨q0,rfl⟩|⟨q0,rfl⟩
      ·simp only[q0]at ek
       simp[aw,hk,hx,ek,i1,i2,i3,i4,i5,i6,hTl,m1,q0]
       exact Kn.q [0,1,2,3,4,5,11]
      ·simp[aw,hk,hx,ek,i1,i2,i3,i4,i5,i6,hTl,m1]
       exact Kn.q [0,1,2,3,4,5,12]
    ·cases hq2:x.servers with
     |nil=>simp[aw,hw,nd]
     |cons u us=>
      have hT2:(x.servers.map XServer.e).take (us.length+1)=x.servers.map XServer.e:=List.take_of_length_le (by rw[hq2];simp)
      rw[hq2]at hT2
      simp only[List.length_cons,hw,hT2,List.cons_append,List.nil_append]
      simp[aw,nd]
   |cons q qs=>
    have hT:(x.sites.map XSite.e).take (qs.length+1)=x.sites.map XSite.e:=List.take_of_length_le (by rw[hq];simp)
    rw[hq]at hT
    simp only[List.length_cons,hw,hT,List.cons_append,List.nil_append]
    simp[bZ,nd]
    refine cy aM Cl.fin x.servers.length [.f,.f,.t,.t,.f,.f,.f,.f,.f,.f,.f,.f,.f,.f,.f,.f,.f,.f,.f,.f,.f,.f,.f,.f,.f,.f,.f,.f,.f,.f,.f,.f,.f,.f,.f,.f,.f,.f,.f,.f,.f,.f,.f,.t,.t,.t,.f,.f,.f,.f,.f,.f,.f,.f,.f,.f,.f,.f] (fun k=>[(45,aa .i64 k)]) (hw (.box [.pv (.int .i64 x.now), .pv (.bool x.online), .pv (.int .i64 x.device), .pv (.lst (x.storage.buckets.map XBucket.e)), .pv (.lst (x.pages.map XPage.e)), .pv (.int .i64 x.nextPage), .pv (.lst (x.locks.locks.map XLock.e)), .pv (.lst (x.channel.mails.map XMail.e)), .pv (.lst (XSite.e q::qs.map XSite.e)), .pv (.lst (x.servers.map XServer.e))]) (.box [.pv (.int .i64 0), .pv (.bool false), .pv (.int .i64 0), .nil, .nil, .pv (.int .i64 0), .nil, .nil, .nil, .nil]) (fun c=> .box [.pv (.int .i64 x.now), .pv (.bool x.online), .pv (.int .i64 x.device), .nil, .arr 3, .pv (.int .i64 x.nextPage), .arr 4, .arr 5, .arr 6,c]) [.darr 11 (x.pages.map XPage.e), .darr 4 (x.locks.locks.map XLock.e), .darr 3 (x.channel.mails.map XMail.e), .darr 4 (XSite.e q::qs.map XSite.e)] 7 5 (x.servers.map XServer.e)) rfl ?_ ?_ ?_
    ·exact Kn.q [0,1,2,3,4,5,6] (by simp[hw,List.cons_append,List.nil_append,aQ,aO,aP,dW,bn,aN,bd,aG,dj,bK,bg,bQ,L.ren,aR])
    ·intro k hk
     have ek:=e_servers k hk
     have hx:=XServer.e.eq_1 x.servers[k]
     have ht:=bV (e:=XServer.e) hk
     rw[hx]at ht
     have N0:=fi 4 (x.servers[k].store.items.map XItem.e)
     generalize nd 4 (x.servers[k].store.items.map XItem.e)=n0 at N0 ek
     cases k with
     |zero=>
      simp only[hw,List.cons_append,List.nil_append,ht]
      rcases N0 with⟨q0,rfl⟩|⟨q0,rfl⟩
      ·simp only[q0]at ek
       simp[aw,hk,hx,ek,bW,q0]
       exact Kn.q [0,1,2,3,4,5,6,11]
      ·simp[aw,hk,hx,ek,bW]
       exact Kn.q [0,1,2,3,4,5,6,12]
     |succ k=>
      obtain⟨i1,i2,i3,i4,i5,i6⟩:=nk (n:=x.servers.length) (by unfold maxLen;omega) hk
      have m1:=eR (m:=k+1+1) (z:=96) (by omega) (by omega)
      simp only[hw,List.cons_append,List.nil_append,ht]
      generalize hT:List.take (k+1) _=T
      have hTl:T.length=k+1:=by rw[←hT];simp;omega
      rcases N0 with⟨q0,rfl⟩|⟨q0,rfl⟩
      ·simp only[q0]at ek
       simp[aw,hk,hx,ek,i1,i2,i3,i4,i5,i6,hTl,m1,q0]
       exact Kn.q [0,1,2,3,4,5,6,12]
      ·simp[aw,hk,hx,ek,i1,i2,i3,i4,i5,i6,hTl,m1]
       exact Kn.q [0,1,2,3,4,5,6,13]
    ·cases hq2:x.servers with
     |nil=>simp[aw,hw,nd]
     |cons u us=>
      have hT2:(x.servers.map XServer.e).take (us.length+1)=x.servers.map XServer.e:=List.take_of_length_le (by rw[hq2];simp)
      rw[hq2]at hT2
      simp only[List.length_cons,hw,hT2,List.cons_append,List.nil_append]
      simp[aw,nd]
 ·refine ae (fn:=ib) rfl ?_
  simp[ib,c0,c1,c2,c3]
  refine cy aM Cl.fin x.sites.length [.f,.t,.t,.t,.f,.f,.f,.f,.f,.f,.f,.f,.f,.f,.f,.f,.f,.f,.f,.f,.f,.f,.f,.f,.f,.f,.f,.t,.t,.t,.f,.f,.f,.f,.f,.f,.f,.f,.f,.f,.f,.f,.f,.f,.f,.f,.f,.f,.f,.f,.f,.f,.f,.f,.f,.f,.f,.f] (fun k=>[(29,aa .i64 k)]) (hw (.box [.pv (.int .i64 x.now), .pv (.bool x.online), .pv (.int .i64 x.device), .pv (.lst (x.storage.buckets.map XBucket.e)), .pv (.lst (x.pages.map XPage.e)), .pv (.int .i64 x.nextPage), .pv (.lst (x.locks.locks.map XLock.e)), .pv (.lst (x.channel.mails.map XMail.e)), .pv (.lst (x.sites.map XSite.e)), .pv (.lst (x.servers.map XServer.e))]) (.box [.pv (.int .i64 0), .pv (.bool false), .pv (.int .i64 0), .nil, .nil, .pv (.int .i64 0), .nil, .nil, .nil, .nil]) (fun c=> .box [.pv (.int .i64 x.now), .pv (.bool x.online), .pv (.int .i64 x.device), .arr 3, .arr 4, .pv (.int .i64 x.nextPage), .arr 5, .arr 6,c, .pv (.lst (x.servers.map XServer.e))]) [.darr 24 (x.storage.buckets.map XBucket.e), .darr 11 (x.pages.map XPage.e), .darr 4 (x.locks.locks.map XLock.e), .darr 3 (x.channel.mails.map XMail.e)] 7 4 (x.sites.map XSite.e)) rfl ?_ ?_ ?_
  ·exact Kn.q [0,1,2,3,4,5,6] (by simp[hw,List.cons_append,List.nil_append,aQ,aO,aP,dW,bn,aN,bd,aG,dj,bK,bg,bQ,L.ren,aR])
  ·intro k hk
   have ek:=e_sites k hk
   have hx:=XSite.e.eq_1 x.sites[k]
   have ht:=bV (e:=XSite.e) hk
   rw[hx]at ht
   cases k with
   |zero=>
    simp only[hw,List.cons_append,List.nil_append,ht]
    simp[bZ,hk,hx,ek,bW]
    exact Kn.q [0,1,2,3,4,5,6,10]
   |succ k=>
    obtain⟨i1,i2,i3,i4,i5,i6⟩:=nk (n:=x.sites.length) (by unfold maxLen;omega) hk
    have m1:=eR (m:=k+1+1) (z:=56) (by omega) (by omega)
    simp only[hw,List.cons_append,List.nil_append,ht]
    generalize hT:List.take (k+1) _=T
    have hTl:T.length=k+1:=by rw[←hT];simp;omega
    simp[bZ,hk,hx,ek,i1,i2,i3,i4,i5,i6,hTl,m1]
    exact Kn.q [0,1,2,3,4,5,6,11]
  ·cases hq:x.sites with
   |nil=>
    simp only[List.length_nil,hw]
    simp[bZ,nd]
    refine cy aM Cl.fin x.servers.length [.f,.f,.t,.t,.f,.f,.f,.f,.f,.f,.f,.f,.f,.f,.f,.f,.f,.f,.f,.f,.f,.f,.f,.f,.f,.f,.f,.f,.f,.f,.f,.f,.f,.f,.f,.f,.f,.f,.f,.f,.f,.f,.f,.t,.t,.t,.f,.f,.f,.f,.f,.f,.f,.f,.f,.f,.f,.f] (fun k=>[(45,aa .i64 k)]) (hw (.box [.pv (.int .i64 x.now), .pv (.bool x.online), .pv (.int .i64 x.device), .pv (.lst (x.storage.buckets.map XBucket.e)), .pv (.lst (x.pages.map XPage.e)), .pv (.int .i64 x.nextPage), .pv (.lst (x.locks.locks.map XLock.e)), .pv (.lst (x.channel.mails.map XMail.e)), .pv (.lst []), .pv (.lst (x.servers.map XServer.e))]) (.box [.pv (.int .i64 0), .pv (.bool false), .pv (.int .i64 0), .nil, .nil, .pv (.int .i64 0), .nil, .nil, .nil, .nil]) (fun c=> .box [.pv (.int .i64 x.now), .pv (.bool x.online), .pv (.int .i64 x.device), .arr 3, .arr 4, .pv (.int .i64 x.nextPage), .arr 5, .arr 6, .nil,c]) [.darr 24 (x.storage.buckets.map XBucket.e), .darr 11 (x.pages.map XPage.e), .darr 4 (x.locks.locks.map XLock.e), .darr 3 (x.channel.mails.map XMail.e)] 7 5 (x.servers.map XServer.e)) rfl ?_ ?_ ?_
    ·exact Kn.q [0,1,2,3,4,5,6] (by simp[hw,List.cons_append,List.nil_append,aQ,aO,aP,dW,bn,aN,bd,aG,dj,bK,bg,bQ,L.ren,aR])
    ·intro k hk
     have ek:=e_servers k hk
     have hx:=XServer.e.eq_1 x.servers[k]
     have ht:=bV (e:=XServer.e) hk
     rw[hx]at ht
     have N0:=fi 4 (x.servers[k].store.items.map XItem.e)
     generalize nd 4 (x.servers[k].store.items.map XItem.e)=n0 at N0 ek
     cases k with
     |zero=>
      simp only[hw,List.cons_append,List.nil_append,ht]
      rcases N0 with⟨q0,rfl⟩|⟨q0,rfl⟩
      ·simp only[q0]at ek
       simp[aw,hk,hx,ek,bW,q0]
       exact Kn.q [0,1,2,3,4,5,6,11]
      ·simp[aw,hk,hx,ek,bW]
       exact Kn.q [0,1,2,3,4,5,6,12]
     |succ k=>
      obtain⟨i1,i2,i3,i4,i5,i6⟩:=nk (n:=x.servers.length) (by unfold maxLen;omega) hk
      have m1:=eR (m:=k+1+1) (z:=96) (by omega) (by omega)
      simp only[hw,List.cons_append,List.nil_append,ht]
      generalize hT:List.take (k+1) _=T
      have hTl:T.length=k+1:=by rw[←hT];simp;omega
      rcases N0 with⟨q0,rfl⟩|⟨q0,rfl⟩
      ·simp only[q0]at ek
       simp[aw,hk,hx,ek,i1,i2,i3,i4,i5,i6,hTl,m1,q0]
       exact Kn.q [0,1,2,3,4,5,6,12]
      ·simp[aw,hk,hx,ek,i1,i2,i3,i4,i5,i6,hTl,m1]
       exact Kn.q [0,1,2,3,4,5,6,13]
    ·cases hq2:x.servers with
     |nil=>simp[aw,hw,nd]
     |cons u us=>
      have hT2:(x.servers.map XServer.e).take (us.length+1)=x.servers.map XServer.e:=List.take_of_length_le (by rw[hq2];simp)
      rw[hq2]at hT2
      simp only[List.length_cons,hw,hT2,List.cons_append,List.nil_append]
      simp[aw,nd]
   |cons q qs=>
    have hT:(x.sites.map XSite.e).take (qs.length+1)=x.sites.map XSite.e:=List.take_of_length_le (by rw[hq];simp)
    rw[hq]at hT
    simp only[List.length_cons,hw,hT,List.cons_append,List.nil_append]
    simp[bZ,nd]
    refine cy aM Cl.fin x.servers.length [.f,.f,.t,.t,.f,.f,.f,.f,.f,.f,.f,.f,.f,.f,.f,.f,.f,.f,.f,.f,.f,.f,.f,.f,.f,.f,.f,.f,.f,.f,.f,.f,.f,.f,.f,.f,.f,.f,.f,.f,.f,.f,.f,.t,.t,.t,.f,.f,.f,.f,.f,.f,.f,.f,.f,.f,.f,.f] (fun k=>[(45,aa .i64 k)]) (hw (.box [.pv (.int .i64 x.now), .pv (.bool x.online), .pv (.int .i64 x.device), .pv (.lst (x.storage.buckets.map XBucket.e)), .pv (.lst (x.pages.map XPage.e)), .pv (.int .i64 x.nextPage), .pv (.lst (x.locks.locks.map XLock.e)), .pv (.lst (x.channel.mails.map XMail.e)), .pv (.lst (XSite.e q::qs.map XSite.e)), .pv (.lst (x.servers.map XServer.e))]) (.box [.pv (.int .i64 0), .pv (.bool false), .pv (.int .i64 0), .nil, .nil, .pv (.int .i64 0), .nil, .nil, .nil, .nil]) (fun c=> .box [.pv (.int .i64 x.now), .pv (.bool x.online), .pv (.int .i64 x.device), .arr 3, .arr 4, .pv (.int .i64 x.nextPage), .arr 5, .arr 6, .arr 7,c]) [.darr 24 (x.storage.buckets.map XBucket.e), .darr 11 (x.pages.map XPage.e), .darr 4 (x.locks.locks.map XLock.e), .darr 3 (x.channel.mails.map XMail.e), .darr 4 (XSite.e q::qs.map XSite.e)] 8 5 (x.servers.map XServer.e)) rfl ?_ ?_ ?_
    ·exact Kn.q [0,1,2,3,4,5,6,7] (by simp[hw,List.cons_append,List.nil_append,aQ,aO,aP,dW,bn,aN,bd,aG,dj,bK,bg,bQ,L.ren,aR])
    ·intro k hk
     have ek:=e_servers k hk
     have hx:=XServer.e.eq_1 x.servers[k]
     have ht:=bV (e:=XServer.e) hk
     rw[hx]at ht
     have N0:=fi 4 (x.servers[k].store.items.map XItem.e)
     generalize nd 4 (x.servers[k].store.items.map XItem.e)=n0 at N0 ek
     cases k with
     |zero=>
      simp only[hw,List.cons_append,List.nil_append,ht]
      rcases N0 with⟨q0,rfl⟩|⟨q0,rfl⟩
      ·simp only[q0]at ek
       simp[aw,hk,hx,ek,bW,q0]
       exact Kn.q [0,1,2,3,4,5,6,7,12]
      ·simp[aw,hk,hx,ek,bW]
       exact Kn.q [0,1,2,3,4,5,6,7,13]
     |succ k=>
      obtain⟨i1,i2,i3,i4,i5,i6⟩:=nk (n:=x.servers.length) (by unfold maxLen;omega) hk
      have m1:=eR (m:=k+1+1) (z:=96) (by omega) (by omega)
      simp only[hw,List.cons_append,List.nil_append,ht]
      generalize hT:List.take (k+1) _=T
      have hTl:T.length=k+1:=by rw[←hT];simp;omega
      rcases N0 with⟨q0,rfl⟩|⟨q0,rfl⟩
      ·simp only[q0]at ek
       simp[aw,hk,hx,ek,i1,i2,i3,i4,i5,i6,hTl,m1,q0]
       exact Kn.q [0,1,2,3,4,5,6,7,13]
      ·simp[aw,hk,hx,ek,i1,i2,i3,i4,i5,i6,hTl,m1]
       exact Kn.q [0,1,2,3,4,5,6,7,14]
    ·cases hq2:x.servers with
     |nil=>simp[aw,hw,nd]
     |cons u us=>
      have hT2:(x.servers.map XServer.e).take (us.length+1)=x.servers.map XServer.e:=List.take_of_length_le (by rw[hq2];simp)
      rw[hq2]at hT2
      simp only[List.length_cons,hw,hT2,List.cons_append,List.nil_append]
      simp[aw,nd]
end Gi
