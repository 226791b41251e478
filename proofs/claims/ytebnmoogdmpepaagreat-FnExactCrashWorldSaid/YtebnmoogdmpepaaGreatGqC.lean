/- Of this proof. -/
import Derived.Test.YtebnmoogdmpepaaGreatGmC
import Derived.Test.YtebnmoogdmpepaaGreatGkz
set_option linter.unusedSimpArgs false
set_option linter.unusedVariables false
namespace Gi
open Go Go.RowKit
set_option maxHeartbeats 8000000
set_option maxRecDepth 4000
attribute [local simp] start ai az aK bj cf Opd.ev put V.cells plain bo gn isInt isStr isBool bin bV pC pB un asList L.view am V.view viewL aY ar bQ bM comp aJ bH df bY bz bw bx bG bc ca aN bB aT aO bE cd bD bA bF V.flat L.flat dO di bv putAt thaw thawL thawT freezeVs freezeLs freezeL V.mut L.mut aG aV dA ce dM bO bh wp_seq wp_block py wp_cond wp_skip wp_exit wp_ret cA cy cP cB cW cX cV bX aM L.notArr aS aQ aR eJ bp storeD aX fD br ct bd m9 L.mov L.closed V.closed PV.bare PV.flat
def hv (b0 b1 b2:AObj)(rest:List AObj)(z:Nat)(rows:List (List PV))(k:Nat):List AObj:=b0::b1::b2::(rest++[.darr z (rows.take k)])
theorem tF {B:Nat}(hB:B≤1048576){x:XWorld}(h:x.Ok B):ah Ph au 433 [.agg [.pv (.int .i64 x.now), .pv (.bool x.online), .pv (.int .i64 x.device), .pv (.lst (x.storage.buckets.map XBucket.e)), .pv (.lst (x.pages.map XPage.e)), .pv (.int .i64 x.nextPage), .pv (.lst (x.locks.locks.map XLock.e)), .pv (.lst (x.channel.mails.map XMail.e)), .pv (.lst (x.sites.map XSite.e)), .pv (.lst (x.servers.map XServer.e))]]=some (.agg [.pv (.int .i64 x.now), .pv (.bool x.online), .pv (.int .i64 x.device),nd 24 (x.storage.buckets.map XBucket.e), .down 11 (x.pages.map XPage.e), .pv (.int .i64 x.nextPage), .down 4 (x.locks.locks.map XLock.e), .down 3 (x.channel.mails.map XMail.e), .down 4 (x.sites.map XSite.e), .down 5 (x.servers.map XServer.e)]):=by
 obtain⟨h_now,h_device,h_storage,h_pages,h_nextPage,h_locks,h_channel,h_sites,h_servers⟩:=h
 have c0:=Dq hB h_storage
 have c2:=Dn hB h_locks
 have c3:=Do hB h_channel
 have e_pages:∀k(hk:k<x.pages.length),_:=fun k hk=>Di hB (h_pages.2 _ (Zg hk))
 have hl_pages:x.pages.length≤1048576:=Zc h_pages.1 hB
 have e_sites:∀k(hk:k<x.sites.length),_:=fun k hk=>Dh hB (h_sites.2 _ (Zg hk))
 have hl_sites:x.sites.length≤1048576:=Zc h_sites.1 hB
 have e_servers:∀k(hk:k<x.servers.length),_:=fun k hk=>Dk hB (h_servers.2 _ (Zg hk))
 have hl_servers:x.servers.length≤1048576:=Zc h_servers.1 hB
 clear h_now h_device h_storage h_pages h_nextPage h_locks h_channel h_sites h_servers
 have N:=eu 24 (x.storage.buckets.map XBucket.e)
 generalize nd 24 (x.storage.buckets.map XBucket.e)=n at N c0⊢
 rcases N with⟨-,rfl⟩|⟨-,rfl⟩
 ·refine ae (fn:=jV) rfl ?_
  simp[jV,c0,c2,c3]
  refine cO aU Cl.fin x.pages.length [.f,.t,.t,.t,.t,.f,.f,.f,.f,.f,.f,.f,.f,.f,.f,.f,.f,.f,.f,.f,.f,.f,.f,.f,.f,.f,.f,.f,.f,.f,.f,.f,.f,.f,.f,.f,.f,.f,.f,.f,.f,.f,.f,.f,.f,.f,.f,.f,.f,.f,.f,.f,.f,.f,.f,.f,.f,.f,.f,.f,.f,.f,.f,.f,.f,.f,.f,.f,.f,.f,.f,.f,.f,.f,.f,.f,.f,.f,.f,.f,.f] (fun k=>[(4,aa .i64 k)]) (hv (.box [.pv (.int .i64 x.now), .pv (.bool x.online), .pv (.int .i64 x.device), .pv (.lst (x.storage.buckets.map XBucket.e)), .pv (.lst (x.pages.map XPage.e)), .pv (.int .i64 x.nextPage), .pv (.lst (x.locks.locks.map XLock.e)), .pv (.lst (x.channel.mails.map XMail.e)), .pv (.lst (x.sites.map XSite.e)), .pv (.lst (x.servers.map XServer.e))]) (.box [.pv (.int .i64 0), .pv (.bool false), .pv (.int .i64 0), .nil, .nil, .pv (.int .i64 0), .nil, .nil, .nil, .nil]) (.box [.pv (.int .i64 x.now), .pv (.bool x.online), .pv (.int .i64 x.device), .nil, .arr 3, .pv (.int .i64 x.nextPage), .pv (.lst (x.locks.locks.map XLock.e)), .pv (.lst (x.channel.mails.map XMail.e)), .pv (.lst (x.sites.map XSite.e)), .pv (.lst (x.servers.map XServer.e))]) [] 11 (x.pages.map XPage.e)) rfl ?_ ?_ ?_
  ·exact Kn.q [0,1,2,3] (by simp[hv,Zf,Zi,Ya,aS,aQ,aR,eJ,bp,aW,bm,aF,dz,bL,bf,bS,L.ren,aT])
  ·intro k hk
   have ek:=e_pages k hk
   have hx:=XPage.e.eq_1 x.pages[k]
   have ht:=cu (e:=XPage.e) hk
   rw[hx]at ht
   cases k with
   |zero=>
    simp only[hv,Zf,Zi,Ya,ht]
    simp[dR,hk,hx,ek,cz]
    exact Kn.q [0,1,2,8]
   |succ k=>
    obtain⟨i1,i2,i3,i4,i5,i6⟩:=od (n:=x.pages.length) (by unfold maxLen;omega) hk
    have m1:=ew (m:=k+1+1) (z:=144) (by omega) (by omega)
    simp only[hv,Zf,Zi,Ya,ht]
    generalize hT:List.take (k+1) _=T
    have hTl:T.length=k+1:=by rw[←hT];simp;omega
    simp[dR,hk,hx,ek,i1,i2,i3,i4,i5,i6,hTl,m1]
    exact Kn.q [0,1,2,8]
  have hT0:(x.pages.map XPage.e).take x.pages.length=(x.pages.map XPage.e):=Zt (by simp)
  simp only[hv,hT0,Zf,Zi]
  simp[dR,c2,c3]
  refine cO aU Cl.fin x.sites.length [.f,.t,.t,.t,.f,.t,.f,.f,.f,.f,.f,.f,.f,.f,.f,.f,.f,.f,.f,.f,.f,.f,.f,.f,.f,.f,.f,.f,.f,.f,.f,.f,.f,.f,.f,.f,.f,.f,.f,.f,.f,.f,.f,.f,.f,.f,.f,.f,.f,.f,.f,.f,.f,.f,.f,.f,.f,.f,.f,.f,.f,.f,.f,.f,.f,.f,.f,.f,.f,.f,.f,.f,.f,.f,.f,.f,.f,.f,.f,.f,.f] (fun k=>[(5,aa .i64 k)]) (hv (.box [.pv (.int .i64 x.now), .pv (.bool x.online), .pv (.int .i64 x.device), .pv (.lst (x.storage.buckets.map XBucket.e)), .pv (.lst (x.pages.map XPage.e)), .pv (.int .i64 x.nextPage), .pv (.lst (x.locks.locks.map XLock.e)), .pv (.lst (x.channel.mails.map XMail.e)), .pv (.lst (x.sites.map XSite.e)), .pv (.lst (x.servers.map XServer.e))]) (.box [.pv (.int .i64 0), .pv (.bool false), .pv (.int .i64 0), .nil, .nil, .pv (.int .i64 0), .nil, .nil, .nil, .nil]) (.box [.pv (.int .i64 x.now), .pv (.bool x.online), .pv (.int .i64 x.device), .nil, .arr 3, .pv (.int .i64 x.nextPage), .arr 4, .arr 5, .arr 6, .pv (.lst (x.servers.map XServer.e))]) [.darr 11 (x.pages.map XPage.e), .darr 4 (x.locks.locks.map XLock.e), .darr 3 (x.channel.mails.map XMail.e)] 4 (x.sites.map XSite.e)) rfl ?_ ?_ ?_
  ·exact Kn.q [0,1,2,3,4,5,6] (by simp[hv,Zf,Zi,Ya,aS,aQ,aR,eJ,bp,aW,bm,aF,dz,bL,bf,bS,L.ren,aT])
  ·intro k hk
   have ek:=e_sites k hk
   have hx:=XSite.e.eq_1 x.sites[k]
   have ht:=cu (e:=XSite.e) hk
   rw[hx]at ht
   cases k with
   |zero=>
    simp only[hv,Zf,Zi,Ya,ht]
    simp[eB,hk,hx,ek,cz]
    exact Kn.q [0,1,2,3,4,5,9]
   |succ k=>
    obtain⟨i1,i2,i3,i4,i5,i6⟩:=od (n:=x.sites.length) (by unfold maxLen;omega) hk
    have m1:=ew (m:=k+1+1) (z:=56) (by omega) (by omega)
    simp only[hv,Zf,Zi,Ya,ht]
    generalize hT:List.take (k+1) _=T
    have hTl:T.length=k+1:=by rw[←hT];simp;omega
    simp[eB,hk,hx,ek,i1,i2,i3,i4,i5,i6,hTl,m1]
    exact Kn.q [0,1,2,3,4,5,9]
  have hT1:(x.sites.map XSite.e).take x.sites.length=(x.sites.map XSite.e):=Zt (by simp)
  simp only[hv,hT1,Zf,Zi]
  simp[eB]
  refine cO aU Cl.fin x.servers.length [.f,.t,.t,.t,.f,.f,.t,.f,.f,.f,.f,.f,.f,.f,.f,.f,.f,.f,.f,.f,.f,.f,.f,.f,.f,.f,.f,.f,.f,.f,.f,.f,.f,.f,.f,.f,.f,.f,.f,.f,.f,.f,.f,.f,.f,.f,.f,.f,.f,.f,.f,.f,.f,.f,.f,.f,.f,.f,.f,.f,.f,.f,.f,.f,.f,.f,.f,.f,.f,.f,.f,.f,.f,.f,.f,.f,.f,.f,.f,.f,.f] (fun k=>[(6,aa .i64 k)]) (hv (.box [.pv (.int .i64 x.now), .pv (.bool x.online), .pv (.int .i64 x.device), .pv (.lst (x.storage.buckets.map XBucket.e)), .pv (.lst (x.pages.map XPage.e)), .pv (.int .i64 x.nextPage), .pv (.lst (x.locks.locks.map XLock.e)), .pv (.lst (x.channel.mails.map XMail.e)), .pv (.lst (x.sites.map XSite.e)), .pv (.lst (x.servers.map XServer.e))]) (.box [.pv (.int .i64 0), .pv (.bool false), .pv (.int .i64 0), .nil, .nil, .pv (.int .i64 0), .nil, .nil, .nil, .nil]) (.box [.pv (.int .i64 x.now), .pv (.bool x.online), .pv (.int .i64 x.device), .nil, .arr 3, .pv (.int .i64 x.nextPage), .arr 4, .arr 5, .arr 6, .arr 7]) [.darr 11 (x.pages.map XPage.e), .darr 4 (x.locks.locks.map XLock.e), .darr 3 (x.channel.mails.map XMail.e), .darr 4 (x.sites.map XSite.e)] 5 (x.servers.map XServer.e)) rfl ?_ ?_ ?_
  ·exact Kn.q [0,1,2,3,4,5,6,7] (by simp[hv,Zf,Zi,Ya,aS,aQ,aR,eJ,bp,aW,bm,aF,dz,bL,bf,bS,L.ren,aT])
  ·intro k hk
   have ek:=e_servers k hk
   have hx:=XServer.e.eq_1 x.servers[k]
   have ht:=cu (e:=XServer.e) hk
   rw[hx]at ht
   have N0:=eu 4 (x.servers[k].store.items.map XItem.e)
   generalize nd 4 (x.servers[k].store.items.map XItem.e)=n0 at N0 ek
   cases k with
   |zero=>
    simp only[hv,Zf,Zi,Ya,ht]
    rcases N0 with⟨q0,rfl⟩|⟨q0,rfl⟩
    ·simp only[q0]at ek
     simp[cY,hk,hx,ek,cz,q0]
     exact Kn.q [0,1,2,3,4,5,6,11]
    ·simp[cY,hk,hx,ek,cz]
     exact Kn.q [0,1,2,3,4,5,6,12]
   |succ k=>
    obtain⟨i1,i2,i3,i4,i5,i6⟩:=od (n:=x.servers.length) (by unfold maxLen;omega) hk
    have m1:=ew (m:=k+1+1) (z:=96) (by omega) (by omega)
    simp only[hv,Zf,Zi,Ya,ht]
    generalize hT:List.take (k+1) _=T
    have hTl:T.length=k+1:=by rw[←hT];simp;omega
    rcases N0 with⟨q0,rfl⟩|⟨q0,rfl⟩
    ·simp only[q0]at ek
     simp[cY,hk,hx,ek,i1,i2,i3,i4,i5,i6,hTl,m1,q0]
     exact Kn.q [0,1,2,3,4,5,6,11]
    ·simp[cY,hk,hx,ek,i1,i2,i3,i4,i5,i6,hTl,m1]
     exact Kn.q [0,1,2,3,4,5,6,12]
  have hT2:(x.servers.map XServer.e).take x.servers.length=(x.servers.map XServer.e):=Zt (by simp)
  simp only[hv,hT2,Zf,Zi]
  simp[cY]
 ·refine ae (fn:=jV) rfl ?_
  simp[jV,c0,c2,c3]
  refine cO aU Cl.fin x.pages.length [.f,.t,.t,.t,.t,.f,.f,.f,.f,.f,.f,.f,.f,.f,.f,.f,.f,.f,.f,.f,.f,.f,.f,.f,.f,.f,.f,.f,.f,.f,.f,.f,.f,.f,.f,.f,.f,.f,.f,.f,.f,.f,.f,.f,.f,.f,.f,.f,.f,.f,.f,.f,.f,.f,.f,.f,.f,.f,.f,.f,.f,.f,.f,.f,.f,.f,.f,.f,.f,.f,.f,.f,.f,.f,.f,.f,.f,.f,.f,.f,.f] (fun k=>[(4,aa .i64 k)]) (hv (.box [.pv (.int .i64 x.now), .pv (.bool x.online), .pv (.int .i64 x.device), .pv (.lst (x.storage.buckets.map XBucket.e)), .pv (.lst (x.pages.map XPage.e)), .pv (.int .i64 x.nextPage), .pv (.lst (x.locks.locks.map XLock.e)), .pv (.lst (x.channel.mails.map XMail.e)), .pv (.lst (x.sites.map XSite.e)), .pv (.lst (x.servers.map XServer.e))]) (.box [.pv (.int .i64 0), .pv (.bool false), .pv (.int .i64 0), .nil, .nil, .pv (.int .i64 0), .nil, .nil, .nil, .nil]) (.box [.pv (.int .i64 x.now), .pv (.bool x.online), .pv (.int .i64 x.device), .arr 3, .arr 4, .pv (.int .i64 x.nextPage), .pv (.lst (x.locks.locks.map XLock.e)), .pv (.lst (x.channel.mails.map XMail.e)), .pv (.lst (x.sites.map XSite.e)), .pv (.lst (x.servers.map XServer.e))]) [.darr 24 (x.storage.buckets.map XBucket.e)] 11 (x.pages.map XPage.e)) rfl ?_ ?_ ?_
  ·exact Kn.q [0,1,2,3,4] (by simp[hv,Zf,Zi,Ya,aS,aQ,aR,eJ,bp,aW,bm,aF,dz,bL,bf,bS,L.ren,aT])
  ·intro k hk
   have ek:=e_pages k hk
   have hx:=XPage.e.eq_1 x.pages[k]
   have ht:=cu (e:=XPage.e) hk
   rw[hx]at ht
   cases k with
   |zero=>
    simp only[hv,Zf,Zi,Ya,ht]
    simp[dR,hk,hx,ek,cz]
    exact Kn.q [0,1,2,3,9]
   |succ k=>
    obtain⟨i1,i2,i3,i4,i5,i6⟩:=od (n:=x.pages.length) (by unfold maxLen;omega) hk
    have m1:=ew (m:=k+1+1) (z:=144) (by omega) (by omega)
    simp only[hv,Zf,Zi,Ya,ht]
    generalize hT:List.take (k+1) _=T
    have hTl:T.length=k+1:=by rw[←hT];simp;omega
    simp[dR,hk,hx,ek,i1,i2,i3,i4,i5,i6,hTl,m1]
    exact Kn.q [0,1,2,3,9]
  have hT0:(x.pages.map XPage.e).take x.pages.length=(x.pages.map XPage.e):=Zt (by simp)
  simp only[hv,hT0,Zf,Zi]
  simp[dR,c2,c3]
  refine cO aU Cl.fin x.sites.length [.f,.t,.t,.t,.f,.t,.f,.f,.f,.f,.f,.f,.f,.f,.f,.f,.f,.f,.f,.f,.f,.f,.f,.f,.f,.f,.f,.f,.f,.f,.f,.f,.f,.f,.f,.f,.f,.f,.f,.f,.f,.f,.f,.f,.f,.f,.f,.f,.f,.f,.f,.f,.f,.f,.f,.f,.f,.f,.f,.f,.f,.f,.f,.f,.f,.f,.f,.f,.f,.f,.f,.f,.f,.f,.f,.f,.f,.f,.f,.f,.f] (fun k=>[(5,aa .i64 k)]) (hv (.box [.pv (.int .i64 x.now), .pv (.bool x.online), .pv (.int .i64 x.device), .pv (.lst (x.storage.buckets.map XBucket.e)), .pv (.lst (x.pages.map XPage.e)), .pv (.int .i64 x.nextPage), .pv (.lst (x.locks.locks.map XLock.e)), .pv (.lst (x.channel.mails.map XMail.e)), .pv (.lst (x.sites.map XSite.e)), .pv (.lst (x.servers.map XServer.e))]) (.box [.pv (.int .i64 0), .pv (.bool false), .pv (.int .i64 0), .nil, .nil, .pv (.int .i64 0), .nil, .nil, .nil, .nil]) (.box [.pv (.int .i64 x.now), .pv (.bool x.online), .pv (.int .i64 x.device), .arr 3, .arr 4, .pv (.int .i64 x.nextPage), .arr 5, .arr 6, .arr 7, .pv (.lst (x.servers.map XServer.e))]) [.darr 24 (x.storage.buckets.map XBucket.e), .darr 11 (x.pages.map XPage.e), .darr 4 (x.locks.locks.map XLock.e), .darr 3 (x.channel.mails.map XMail.e)] 4 (x.sites.map XSite.e)) rfl ?_ ?_ ?_
  ·exact Kn.q [0,1,2,3,4,5,6,7] (by simp[hv,Zf,Zi,Ya,aS,aQ,aR,eJ,bp,aW,bm,aF,dz,bL,bf,bS,L.ren,aT])
  ·intro k hk
   have ek:=e_sites k hk
   have hx:=XSite.e.eq_1 x.sites[k]
   have ht:=cu (e:=XSite.e) hk
   rw[hx]at ht
   cases k with
   |zero=>
    simp only[hv,Zf,Zi,Ya,ht]
    simp[eB,hk,hx,ek,cz]
    exact Kn.q [0,1,2,3,4,5,6,10]
   |succ k=>
    obtain⟨i1,i2,i3,i4,i5,i6⟩:=od (n:=x.sites.length) (by unfold maxLen;omega) hk
    have m1:=ew (m:=k+1+1) (z:=56) (by omega) (by omega)
    simp only[hv,Zf,Zi,Ya,ht]
    generalize hT:List.take (k+1) _=T
    have hTl:T.length=k+1:=by rw[←hT];simp;omega
    simp[eB,hk,hx,ek,i1,i2,i3,i4,i5,i6,hTl,m1]
    exact Kn.q [0,1,2,3,4,5,6,10]
  have hT1:(x.sites.map XSite.e).take x.sites.length=(x.sites.map XSite.e):=Zt (by simp)
  simp only[hv,hT1,Zf,Zi]
  simp[eB]
  refine cO aU Cl.fin x.servers.length [.f,.t,.t,.t,.f,.f,.t,.f,.f,.f,.f,.f,.f,.f,.f,.f,.f,.f,.f,.f,.f,.f,.f,.f,.f,.f,.f,.f,.f,.f,.f,.f,.f,.f,.f,.f,.f,.f,.f,.f,.f,.f,.f,.f,.f,.f,.f,.f,.f,.f,.f,.f,.f,.f,.f,.f,.f,.f,.f,.f,.f,.f,.f,.f,.f,.f,.f,.f,.f,.f,.f,.f,.f,.f,.f,.f,.f,.f,.f,.f,.f] (fun k=>[(6,aa .i64 k)]) (hv (.box [.pv (.int .i64 x.now), .pv (.bool x.online), .pv (.int .i64 x.device), .pv (.lst (x.storage.buckets.map XBucket.e)), .pv (.lst (x.pages.map XPage.e)), .pv (.int .i64 x.nextPage), .pv (.lst (x.locks.locks.map XLock.e)), .pv (.lst (x.channel.mails.map XMail.e)), .pv (.lst (x.sites.map XSite.e)), .pv (.lst (x.servers.map XServer.e))]) (.box [.pv (.int .i64 0), .pv (.bool false), .pv (.int .i64 0), .nil, .nil, .pv (.int .i64 0), .nil, .nil, .nil, .nil]) (.box [.pv (.int .i64 x.now), .pv (.bool x.online), .pv (.int .i64 x.device), .arr 3, .arr 4, .pv (.int .i64 x.nextPage), .arr 5, .arr 6, .arr 7, .arr 8]) [.darr 24 (x.storage.buckets.map XBucket.e), .darr 11 (x.pages.map XPage.e), .darr 4 (x.locks.locks.map XLock.e), .darr 3 (x.channel.mails.map XMail.e), .darr 4 (x.sites.map XSite.e)] 5 (x.servers.map XServer.e)) rfl ?_ ?_ ?_
  ·exact Kn.q [0,1,2,3,4,5,6,7,8] (by simp[hv,Zf,Zi,Ya,aS,aQ,aR,eJ,bp,aW,bm,aF,dz,bL,bf,bS,L.ren,aT])
  ·intro k hk
   have ek:=e_servers k hk
   have hx:=XServer.e.eq_1 x.servers[k]
   have ht:=cu (e:=XServer.e) hk
   rw[hx]at ht
   have N0:=eu 4 (x.servers[k].store.items.map XItem.e)
   generalize nd 4 (x.servers[k].store.items.map XItem.e)=n0 at N0 ek
   cases k with
   |zero=>
    simp only[hv,Zf,Zi,Ya,ht]
    rcases N0 with⟨q0,rfl⟩|⟨q0,rfl⟩
    ·simp only[q0]at ek
     simp[cY,hk,hx,ek,cz,q0]
     exact Kn.q [0,1,2,3,4,5,6,7,12]
    ·simp[cY,hk,hx,ek,cz]
     exact Kn.q [0,1,2,3,4,5,6,7,13]
   |succ k=>
    obtain⟨i1,i2,i3,i4,i5,i6⟩:=od (n:=x.servers.length) (by unfold maxLen;omega) hk
    have m1:=ew (m:=k+1+1) (z:=96) (by omega) (by omega)
    simp only[hv,Zf,Zi,Ya,ht]
    generalize hT:List.take (k+1) _=T
    have hTl:T.length=k+1:=by rw[←hT];simp;omega
    rcases N0 with⟨q0,rfl⟩|⟨q0,rfl⟩
    ·simp only[q0]at ek
     simp[cY,hk,hx,ek,i1,i2,i3,i4,i5,i6,hTl,m1,q0]
     exact Kn.q [0,1,2,3,4,5,6,7,12]
    ·simp[cY,hk,hx,ek,i1,i2,i3,i4,i5,i6,hTl,m1]
     exact Kn.q [0,1,2,3,4,5,6,7,13]
  have hT2:(x.servers.map XServer.e).take x.servers.length=(x.servers.map XServer.e):=Zt (by simp)
  simp only[hv,hT2,Zf,Zi]
  simp[cY]
end Gi
namespace Gi
open Go Go.RowKit
set_option maxHeartbeats 8000000
set_option maxRecDepth 4000
attribute [local simp] start rB bj cf dG fp dF fo fx fw tJ tT tK tU tL tV tM tW tN tX tO tY tP tZ tQ t6 tR t7 V.cells plain bo gn isInt isStr isBool bin cC iT cD iU fq un asList L.view am V.view viewL aY ar cH bP bM comp aJ bH df bY bz bw bx bG bc ca aN bB aT aO bE cd bD bA bF V.flat L.flat dO di bv putAt thaw thawL thawT V.ow fv dK dL cE fu cF dJ freezeVs freezeLs freezeL V.mut L.mut aG ez ie aW bm aF dz bL bf bS L.ren aV dA ce dM bO bh wp_seq wp_block bt dP cI bR cJ wp_skip wp_exit wp_ret cA cy cP cB cW cX cV bX aM L.notArr aS aQ aR dN bp storeD aX fD br ct bd m9 L.mov L.closed V.closed PV.bare PV.flat
abbrev wN (w:XWorld)(bs:List XBucket):List L:=[.pv (.int .i64 w.now), .pv (.bool w.online), .pv (.int .i64 w.device),nd 24 (bs.map XBucket.e), .down 11 (w.pages.map XPage.e), .pv (.int .i64 w.nextPage), .down 4 (w.locks.locks.map XLock.e), .down 3 (w.channel.mails.map XMail.e),nd 4 (w.sites.map XSite.e),nd 5 (w.servers.map XServer.e)]
abbrev wO (w:XWorld)(bs:List XBucket):List L:=[.pv (.int .i64 w.now), .pv (.bool w.online), .pv (.int .i64 w.device),xv 24 (bs.map XBucket.e), .own 11 (w.pages.map XPage.e), .pv (.int .i64 w.nextPage), .own 4 (w.locks.locks.map XLock.e), .own 3 (w.channel.mails.map XMail.e), .own 4 (w.sites.map XSite.e), .own 5 (w.servers.map XServer.e)]
theorem NJ {w:XWorld}(h:og w=true):w.sites.map XSite.e≠[]∧w.servers.map XServer.e≠[]:=by
 unfold og at h
 simp only[Zm,beq_iff_eq]at h
 obtain⟨_,_,_,_,_,_,h7,h8,_⟩:=h
 exact⟨fun e=>by have:=congrArg List.length e;simp at this;rw[this]at h7;simp at h7,fun e=>by have:=congrArg List.length e;simp at this;rw[this]at h8;simp at h8⟩
set_option maxHeartbeats 16000000
def VV (r:XRegistration):XRegistration:=⟨r.site,0,r.waiting,r.active⟩
def Q6 (y:XBucket):List XCache:=bif y.reg.installing !=0 then(D1 y.caches.caches y.reg.installing).1 else y.caches.caches
def zV (g:List UInt8)(y:XBucket):XBucket:=⟨y.site,y.top,VV y.reg,⟨Q6 y⟩,V0 (TV y.disk g),y.replica,y.lastUsed,y.persistent⟩
def Kl (g:List UInt8)(bs:List XBucket)(k:Nat):List XBucket:=(bs.take k).map (zV g)++bs.drop k
theorem NT (g:List UInt8)(bs:List XBucket)(k:Nat):(Kl g bs k).length=bs.length:=by simp[Kl];omega
theorem SA {g:List UInt8}{bs:List XBucket}{k:Nat}(hk:k<bs.length):(Kl g bs k)[k]? =some bs[k]:=by
 have h1:((bs.take k).map (zV g)).length=k:=by simp;omega
 unfold Kl
 rw[Zh (by omega),Y0,h1,Y4,Y1,Zr hk]
theorem Q7 {g:List UInt8}{bs:List XBucket}{k:Nat}(hk:k<bs.length)(h2:k<(Kl g bs k).length):(Kl g bs k)[k]=bs[k]:=by
 have:=SA (g:=g) hk
 rw[Zr h2]at this
 exact Option.some.inj this
theorem Tw {g:List UInt8}{bs:List XBucket}{k:Nat}(hk:k<bs.length):Kl g bs (k+1)=(Kl g bs k).set k (zV g bs[k]):=by
 have h1:((bs.take k).map (zV g)).length=k:=by simp;omega
 have hd:bs.drop k=bs[k]::bs.drop (k+1):=List.drop_eq_getElem_cons hk
 unfold Kl
 rw[Z5 hk,List.map_append,Y3 _ _ (by omega),h1,Y4,hd,Yd]
 simp
theorem Tu (g:List UInt8)(bs:List XBucket):Kl g bs 0=bs:=by simp[Kl]
theorem Tv (g:List UInt8)(bs:List XBucket):Kl g bs bs.length=bs.map (zV g):=by simp[Kl]
theorem Rb (cs:List XCache)(v:Int):(SE cs v= .nil∧(D1 cs v).1.map XCache.e=[])∨SE cs v= .down 2 ((D1 cs v).1.map XCache.e):=by
 unfold SE D1
 cases cQ (gu (JX v) cs) 0
 ·exact .inr rfl
 ·simp only[cond_true]
  rcases eu 2 (cs.map XCache.e)with⟨h,e⟩|⟨_,e⟩
  ·exact .inl ⟨e,h⟩
  ·exact .inr e
theorem NS (g:List UInt8)(y:XBucket):(zV g y).e=[.str y.site, .str y.top, .str y.reg.site, .int .i64 0, .int .i64 y.reg.waiting, .int .i64 y.reg.active, .lst ((Q6 y).map XCache.e), .str y.disk.base.name, .int .i64 y.disk.base.version, .lst (y.disk.base.stores.map XStore.e), .lst (y.disk.base.unique.map XIndexDef.e), .lst (ag (iX (y.disk.log++g))), .int .i64 ((kP (y.disk.log++g)).2.length:Nat), .str y.replica.base.name, .lst (y.replica.base.items.map XItem.e), .int .i64 y.replica.base.auto, .int .i64 y.replica.seen, .int .i64 y.replica.sync.outbox.dev, .int .i64 y.replica.sync.outbox.next, .lst (y.replica.sync.outbox.writes.map XWrite.e), .int .i64 y.replica.sync.tries, .int .i64 y.replica.sync.wait, .int .i64 y.lastUsed, .bool y.persistent]:=rfl
theorem Q4 {d:XDisk}(h:d.Ok 1048576){g:List UInt8}(hg:g.length≤8)(hl:d.log.length≤2500):(TV d g).Ok 1048576:=by
 obtain⟨h1,h2,h3⟩:=h
 exact⟨h1,by simp only[TV,Zu];omega,h3⟩
theorem HS {w:XWorld}(h:og w=true):we w.storage.buckets=true:=by
 simp only[og,Zm,beq_iff_eq]at h
 exact h.2.2.1
theorem Mw {w:XWorld}(h:og w=true){k:Nat}(hk:k<w.storage.buckets.length):w.storage.buckets[k].disk.log.length≤2500:=by
 have hs:=(HS h)
 simp only[we,Zm,Yk]at hs
 have q:=Mj hs.1 hk
 have hp:k-1<w.storage.buckets.length:=by omega
 simp only[J9,Zr hk,Zr hp,Xe,Bool.not_eq_false']at q
 have q1:=q.1
 simp only[wd,Zm,Yk]at q1
 have q2:=of_decide_eq_false q1.2.2.2.2.2.2.2.2
 simp only[If]at q2
 omega
theorem uA {w:XWorld}(h:w.Ok 1048576){g:List UInt8}(hf:(!(og w)||cQ 8 (g.length:Int))=true):ah Ph au 625 [w.v,ba (ag g)]=some (.agg (wN w w.storage.buckets)):=by
 have c0:=qJ (Zl 1048576) h
 have e1:=tt h
 have l1:=ak (s:=g)
 generalize ag g=G at*
 cases b1:og w<;>rw[b1]at e1 hf
 ·rcases eu 24 (w.storage.buckets.map XBucket.e)with⟨q3,u3⟩|⟨q3,u3⟩<;>rcases eu 4 (w.sites.map XSite.e)with⟨q8,u8⟩|⟨q8,u8⟩<;>rcases eu 5 (w.servers.map XServer.e)with⟨q9,u9⟩|⟨q9,u9⟩<;>rw[u3,u8,u9]at c0<;>(refine ae (fn:=dW) rfl ?_;simp(maxSteps:=9999999) [dW,c0,e1,l1,u3,u8,u9])
 ·have hg:cQ 8 (g.length:Int)=true:=by simpa using hf
  obtain⟨n8,n9⟩:=NJ b1
  have u8:=((eu 4 (w.sites.map XSite.e)).resolve_left (fun q=>n8 q.1)).2
  have u9:=((eu 5 (w.servers.map XServer.e)).resolve_left (fun q=>n9 q.1)).2
  rw[u8,u9]at c0
  rcases eu 24 (w.storage.buckets.map XBucket.e)with⟨q3,u3⟩|⟨q3,u3⟩<;>(rw[u3]at c0;refine ae (fn:=dW) rfl ?_;simp(maxSteps:=9999999) [dW,c0,e1,l1,hg,u3,u8,u9])
def SQ (w:XWorld)(b0:List L)(R:List (List PV)):List AObj:=[.box b0, .box [.pv (.int .i64 0), .pv (.bool false), .pv (.int .i64 0), .nil, .nil, .pv (.int .i64 0), .nil, .nil, .nil, .nil], .darr 24 R, .darr 11 (w.pages.map XPage.e), .darr 4 (w.locks.locks.map XLock.e), .darr 3 (w.channel.mails.map XMail.e), .darr 4 (w.sites.map XSite.e), .darr 5 (w.servers.map XServer.e), .box [.pv (.int .i64 w.now), .pv (.bool w.online), .pv (.int .i64 w.device), .arr 2, .nil, .pv (.int .i64 w.nextPage), .nil, .nil, .arr 6, .arr 7]]
theorem xd {w:XWorld}(h:w.Ok 1048576){g:List UInt8}(b1:og w=true)(hg:g.length≤8):ah Ph au 625 [w.v,ba (ag g)]=some (.agg [.pv (.int .i64 w.now), .pv (.bool w.online), .pv (.int .i64 w.device),nd 24 ((w.storage.buckets.map (zV g)).map XBucket.e), .nil, .pv (.int .i64 w.nextPage), .nil, .nil, .down 4 (w.sites.map XSite.e), .down 5 (w.servers.map XServer.e)]):=by
 have c0:=qJ (Zl 1048576) h
 have e1:=tt h
 have hlg:=fun k hk=>Mw b1 (k:=k) hk
 rw[b1]at e1
 have l1:=ak (s:=g)
 have g8:cQ 8 (g.length:Int)=false:=kQ (by omega)
 obtain⟨n8,n9⟩:=NJ b1
 have u8:=((eu 4 (w.sites.map XSite.e)).resolve_left (fun q=>n8 q.1)).2
 have u9:=((eu 5 (w.servers.map XServer.e)).resolve_left (fun q=>n9 q.1)).2
 have hm:w.storage.buckets.length≤maxLen:=Zc h.2.2.1.1 (by unfold maxLen;omega)
 have hB:=h.2.2.1.2
 rw[u8,u9]at c0
 have hcl:=fun y(hy:(XDisk.Ok 1048576 y)∧y.log.length≤2500)=>yL (Zl 1048576) (x:=y) hy.1 hg
 have hrs:=fun y(hy:(XDisk.Ok 1048576 y)∧y.log.length≤2500)=>vJ (Zl 1048576) (x:=TV y g) (Q4 hy.1 hg hy.2)
 have BS:=fun(y:XCacheSet)(hy:y.Ok 1048576)v=>yM (Zl 1048576) hy v
 rcases eu 24 (w.storage.buckets.map XBucket.e)with⟨q3,u3⟩|⟨q3,u3⟩
 ·have h0:w.storage.buckets=[]:=List.map_eq_nil_iff.1 q3
  rw[u3]at c0
  simp only[XWorld.v,h0,Yb]at c0 e1⊢
  generalize ag g=G at*
  refine ae (fn:=dW) rfl ?_
  simp(maxSteps:=9999999) [dW,c0,e1,l1,g8,nd]
  rw[sD]
  simp(maxSteps:=9999999) [cS,show cQ 0 0=false from rfl]
 rw[u3]at c0
 have hne:(w.storage.buckets.map (zV g)).map XBucket.e≠[]:=by
  intro q;exact q3 (by simpa using q)
 rw[((eu 24 ((w.storage.buckets.map (zV g)).map XBucket.e)).resolve_left (fun q=>hne q.1)).2]
 refine ae (fn:=dW) rfl ?_
 simp(maxSteps:=9999999) [dW,c0,e1,l1,g8]
 refine cO aU Cl.fin w.storage.buckets.length [.f,.t,.f,.f,.t,.t,.f,.f,.f,.f,.f,.f,.f,.f,.f,.f,.f,.f,.f,.f,.f,.f,.f,.f,.f,.f,.f,.t,.t,.f,.f,.f,.f,.f,.f,.f,.f,.f,.f,.f,.f,.f,.f,.f,.f,.f,.f,.f,.f,.f,.f,.f,.f,.f,.f,.f,.f,.f,.f,.f,.f,.f,.f,.f,.f,.f,.f,.f,.f,.f,.f,.f,.f,.f,.f,.f,.f,.f,.f,.f] (fun k=>[(28,aa .i64 k)]) (fun k=>SQ w (w.v.cells) ((Kl g w.storage.buckets k).map XBucket.e)) rfl ?_ ?_ ?_
 ·simp[SQ,Tu,XWorld.v]
 ·intro k hk
  have wk:=aE hm hk
  have lk:=aZ hk
  have hy:=hB _ (Zg hk)
  have hlg2:=hlg k hk
  obtain⟨L,hL⟩:∃L,L=Kl g w.storage.buckets k:=⟨_,rfl⟩
  have hl2:L.length=w.storage.buckets.length:=by rw[hL];exact NT g w.storage.buckets k
  have hk2:k<L.length:=by rw[hl2];exact hk
  have hat:L[k]=w.storage.buckets[k]:=by subst hL;exact Q7 hk hk2
  rw[Tw hk,←hat,←hL]
  rw[←hat]at hy hlg2
  clear hL
  have hx:=XBucket.e.eq_1 L[k]
  have he:(L.set k (zV g L[k])).map XBucket.e=(L.map XBucket.e).set k (zV g L[k]).e:=by rw[List.map_set]
  rw[NS]at he
  rw[he]
  have e4:=hcl L[k].disk ⟨hy.2.2.2.2.1,hlg2⟩
  have e5:=hrs L[k].disk ⟨hy.2.2.2.2.1,hlg2⟩
  have e3:=BS L[k].caches hy.2.2.2.1 L[k].reg.installing
  have hd:=Rb L[k].caches.caches L[k].reg.installing
  simp only[TV]at e5
  have w1:=f5 (L[k].disk.log++g)
  have w2:=f5 (iX (L[k].disk.log++g))
  have l2:=ak (s:=L[k].disk.log)
  simp only[Q6]
  clear c0 e1 hlg hcl hrs BS hB hlg2 hat hne u3 u8 u9 n8 n9 h g8 hm he hy
  generalize ag (iX (L[k].disk.log++g))=S2 at*
  generalize ag (L[k].disk.log++g)=S1 at*
  generalize ag L[k].disk.log=S0 at*
  generalize ag g=G at*
  generalize (((kP (L[k].disk.log++g)).2.length:Nat):Int)=cn at*
  cases hi:(L[k].reg.installing !=0)
  ·have hz:L[k].reg.installing=0:=by simpa using hi
   simp only[cond_false]
   rcases eu 3 (L[k].disk.base.stores.map XStore.e)with⟨q,u⟩|⟨q,u⟩<;>rw[u]at e4 e5
   ·rw[q]at e4 e5 hx⊢
    simp(maxSteps:=9999999) [SQ,cS,hk2,hx,e4,e5,hi,hz,wk,lk,w1,w2,l2]
   ·simp(maxSteps:=9999999) [SQ,cS,hk2,hx,e4,e5,hi,hz,wk,lk,w1,w2,l2]
  ·have hz:¬L[k].reg.installing=0:=by simpa using hi
   simp only[cond_true]
   generalize (D1 L[k].caches.caches L[k].reg.installing).2=db at*
   rcases hd with⟨d1,d2⟩|d1<;>rw[d1]at e3
   ·rw[d2]
    rcases eu 3 (L[k].disk.base.stores.map XStore.e)with⟨q,u⟩|⟨q,u⟩<;>rw[u]at e4 e5
    ·rw[q]at e4 e5 hx⊢
     simp(maxSteps:=9999999) [SQ,cS,hk2,hx,e3,e4,e5,hi,hz,wk,lk,w1,w2,l2]
    ·simp(maxSteps:=9999999) [SQ,cS,hk2,hx,e3,e4,e5,hi,hz,wk,lk,w1,w2,l2]
   ·generalize (D1 L[k].caches.caches L[k].reg.installing).1.map XCache.e=DL at*
    rcases eu 3 (L[k].disk.base.stores.map XStore.e)with⟨q,u⟩|⟨q,u⟩<;>rw[u]at e4 e5
    ·rw[q]at e4 e5 hx⊢
     simp(maxSteps:=9999999) [SQ,cS,hk2,hx,e3,e4,e5,hi,hz,wk,lk,w1,w2,l2]
    ·simp(maxSteps:=9999999) [SQ,cS,hk2,hx,e3,e4,e5,hi,hz,wk,lk,w1,w2,l2]
 ·rw[Tv]
  simp(maxSteps:=9999999) [SQ,cS]
end Gi
