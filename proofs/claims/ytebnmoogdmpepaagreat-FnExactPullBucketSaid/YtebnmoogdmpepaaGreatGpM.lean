/- Of this proof. -/
import Derived.Test.YtebnmoogdmpepaaGreatGmC
import Derived.Test.YtebnmoogdmpepaaGreatGpI
set_option linter.unusedSimpArgs false
set_option linter.unusedVariables false
namespace Gi
open Go Go.RowKit
set_option maxHeartbeats 8000000
set_option maxRecDepth 4000
attribute [local simp] start ah aJ bf bJ cI Opd.ev put V.cells plain bA fR isInt isStr isBool bin cK qh qg un asList L.view aj V.view viewL aW am cF bS comp aQ bI cH bP bq bo bp aC aq aY al aB aI au bi bF aE br bt V.flat L.flat db da bB putAt thaw thawL thawT freezeVs freezeLs freezeL V.mut L.mut aH aP dg bW dq bU bH wp_seq wp_block qb wp_cond wp_skip wp_exit wp_ret ct cr cz cu cC cD cB bO aF L.notArr aU aS aT eV bz storeD bc eP bu co ba k8 L.mov L.closed V.closed PV.bare PV.flat
def hv (b0 b1 b2:AObj)(rest:List AObj)(z:Nat)(rows:List (List PV))(k:Nat):List AObj:=b0::b1::b2::(rest++[.darr z (rows.take k)])
theorem uF {B:Nat}(hB:B≤1048576){x:XWorld}(h:x.Ok B):ag Ph aM 433 [.agg [.pv (.int .i64 x.now), .pv (.bool x.online), .pv (.int .i64 x.device), .pv (.lst (x.storage.buckets.map XBucket.e)), .pv (.lst (x.pages.map XPage.e)), .pv (.int .i64 x.nextPage), .pv (.lst (x.locks.locks.map XLock.e)), .pv (.lst (x.channel.mails.map XMail.e)), .pv (.lst (x.sites.map XSite.e)), .pv (.lst (x.servers.map XServer.e))]]=some (.agg [.pv (.int .i64 x.now), .pv (.bool x.online), .pv (.int .i64 x.device),nd 24 (x.storage.buckets.map XBucket.e), .down 11 (x.pages.map XPage.e), .pv (.int .i64 x.nextPage), .down 4 (x.locks.locks.map XLock.e), .down 3 (x.channel.mails.map XMail.e), .down 4 (x.sites.map XSite.e), .down 5 (x.servers.map XServer.e)]):=by
 obtain⟨h_now,h_device,h_storage,h_pages,h_nextPage,h_locks,h_channel,h_sites,h_servers⟩:=h
 have c0:=uE hB h_storage
 have c2:=DI hB h_locks
 have c3:=DJ hB h_channel
 have e_pages:∀k(hk:k<x.pages.length),_:=fun k hk=>DF hB (h_pages.2 _ (Zf hk))
 have hl_pages:x.pages.length≤1048576:=Zc h_pages.1 hB
 have e_sites:∀k(hk:k<x.sites.length),_:=fun k hk=>DD hB (h_sites.2 _ (Zf hk))
 have hl_sites:x.sites.length≤1048576:=Zc h_sites.1 hB
 have e_servers:∀k(hk:k<x.servers.length),_:=fun k hk=>DG hB (h_servers.2 _ (Zf hk))
 have hl_servers:x.servers.length≤1048576:=Zc h_servers.1 hB
 clear h_now h_device h_storage h_pages h_nextPage h_locks h_channel h_sites h_servers
 have N:=dM 24 (x.storage.buckets.map XBucket.e)
 generalize nd 24 (x.storage.buckets.map XBucket.e)=n at N c0⊢
 rcases N with⟨-,rfl⟩|⟨-,rfl⟩
 ·refine ae (fn:=kC) rfl ?_
  simp[kC,c0,c2,c3]
  refine dD bm Cl.fin x.pages.length [.f,.t,.t,.t,.t,.f,.f,.f,.f,.f,.f,.f,.f,.f,.f,.f,.f,.f,.f,.f,.f,.f,.f,.f,.f,.f,.f,.f,.f,.f,.f,.f,.f,.f,.f,.f,.f,.f,.f,.f,.f,.f,.f,.f,.f,.f,.f,.f,.f,.f,.f,.f,.f,.f,.f,.f,.f,.f,.f,.f,.f,.f,.f,.f,.f,.f,.f,.f,.f,.f,.f,.f,.f,.f,.f,.f,.f,.f,.f,.f,.f] (fun k=>[(4,aa .i64 k)]) (hv (.box [.pv (.int .i64 x.now), .pv (.bool x.online), .pv (.int .i64 x.device), .pv (.lst (x.storage.buckets.map XBucket.e)), .pv (.lst (x.pages.map XPage.e)), .pv (.int .i64 x.nextPage), .pv (.lst (x.locks.locks.map XLock.e)), .pv (.lst (x.channel.mails.map XMail.e)), .pv (.lst (x.sites.map XSite.e)), .pv (.lst (x.servers.map XServer.e))]) (.box [.pv (.int .i64 0), .pv (.bool false), .pv (.int .i64 0), .nil, .nil, .pv (.int .i64 0), .nil, .nil, .nil, .nil]) (.box [.pv (.int .i64 x.now), .pv (.bool x.online), .pv (.int .i64 x.device), .nil, .arr 3, .pv (.int .i64 x.nextPage), .pv (.lst (x.locks.locks.map XLock.e)), .pv (.lst (x.channel.mails.map XMail.e)), .pv (.lst (x.sites.map XSite.e)), .pv (.lst (x.servers.map XServer.e))]) [] 11 (x.pages.map XPage.e)) rfl ?_ ?_ ?_
  ·exact Kn.q [0,1,2,3] (by simp[hv,Zg,Zi,Ya,aU,aS,aT,eV,bz,aZ,bC,aN,dv,bR,bj,bV,L.ren,aI])
  ·intro k hk
   have ek:=e_pages k hk
   have hx:=XPage.e.eq_1 x.pages[k]
   have ht:=de (e:=XPage.e) hk
   rw[hx]at ht
   cases k with
   |zero=>
    simp only[hv,Zg,Zi,Ya,ht]
    simp[dW,hk,hx,ek,df]
    exact Kn.q [0,1,2,8]
   |succ k=>
    obtain⟨i1,i2,i3,i4,i5,i6⟩:=oJ (n:=x.pages.length) (by unfold maxLen;omega) hk
    have m1:=eR (m:=k+1+1) (z:=144) (by omega) (by omega)
    simp only[hv,Zg,Zi,Ya,ht]
    generalize hT:List.take (k+1) _=T
    have hTl:T.length=k+1:=by rw[←hT];simp;omega
    simp[dW,hk,hx,ek,i1,i2,i3,i4,i5,i6,hTl,m1]
    exact Kn.q [0,1,2,8]
  have hT0:(x.pages.map XPage.e).take x.pages.length=(x.pages.map XPage.e):=Zs (by simp)
  simp only[hv,hT0,Zg,Zi]
  simp[dW,c2,c3]
  refine dD bm Cl.fin x.sites.length [.f,.t,.t,.t,.f,.t,.f,.f,.f,.f,.f,.f,.f,.f,.f,.f,.f,.f,.f,.f,.f,.f,.f,.f,.f,.f,.f,.f,.f,.f,.f,.f,.f,.f,.f,.f,.f,.f,.f,.f,.f,.f,.f,.f,.f,.f,.f,.f,.f,.f,.f,.f,.f,.f,.f,.f,.f,.f,.f,.f,.f,.f,.f,.f,.f,.f,.f,.f,.f,.f,.f,.f,.f,.f,.f,.f,.f,.f,.f,.f,.f] (fun k=>[(5,aa .i64 k)]) (hv (.box [.pv (.int .i64 x.now), .pv (.bool x.online), .pv (.int .i64 x.device), .pv (.lst (x.storage.buckets.map XBucket.e)), .pv (.lst (x.pages.map XPage.e)), .pv (.int .i64 x.nextPage), .pv (.lst (x.locks.locks.map XLock.e)), .pv (.lst (x.channel.mails.map XMail.e)), .pv (.lst (x.sites.map XSite.e)), .pv (.lst (x.servers.map XServer.e))]) (.box [.pv (.int .i64 0), .pv (.bool false), .pv (.int .i64 0), .nil, .nil, .pv (.int .i64 0), .nil, .nil, .nil, .nil]) (.box [.pv (.int .i64 x.now), .pv (.bool x.online), .pv (.int .i64 x.device), .nil, .arr 3, .pv (.int .i64 x.nextPage), .arr 4, .arr 5, .arr 6, .pv (.lst (x.servers.map XServer.e))]) [.darr 11 (x.pages.map XPage.e), .darr 4 (x.locks.locks.map XLock.e), .darr 3 (x.channel.mails.map XMail.e)] 4 (x.sites.map XSite.e)) rfl ?_ ?_ ?_
  ·exact Kn.q [0,1,2,3,4,5,6] (by simp[hv,Zg,Zi,Ya,aU,aS,aT,eV,bz,aZ,bC,aN,dv,bR,bj,bV,L.ren,aI])
  ·intro k hk
   have ek:=e_sites k hk
   have hx:=XSite.e.eq_1 x.sites[k]
   have ht:=de (e:=XSite.e) hk
   rw[hx]at ht
   cases k with
   |zero=>
    simp only[hv,Zg,Zi,Ya,ht]
    simp[eN,hk,hx,ek,df]
    exact Kn.q [0,1,2,3,4,5,9]
   |succ k=>
    obtain⟨i1,i2,i3,i4,i5,i6⟩:=oJ (n:=x.sites.length) (by unfold maxLen;omega) hk
    have m1:=eR (m:=k+1+1) (z:=56) (by omega) (by omega)
    simp only[hv,Zg,Zi,Ya,ht]
    generalize hT:List.take (k+1) _=T
    have hTl:T.length=k+1:=by rw[←hT];simp;omega
    simp[eN,hk,hx,ek,i1,i2,i3,i4,i5,i6,hTl,m1]
    exact Kn.q [0,1,2,3,4,5,9]
  have hT1:(x.sites.map XSite.e).take x.sites.length=(x.sites.map XSite.e):=Zs (by simp)
  simp only[hv,hT1,Zg,Zi]
  simp[eN]
  refine dD bm Cl.fin x.servers.length [.f,.t,.t,.t,.f,.f,.t,.f,.f,.f,.f,.f,.f,.f,.f,.f,.f,.f,.f,.f,.f,.f,.f,.f,.f,.f,.f,.f,.f,.f,.f,.f,.f,.f,.f,.f,.f,.f,.f,.f,.f,.f,.f,.f,.f,.f,.f,.f,.f,.f,.f,.f,.f,.f,.f,.f,.f,.f,.f,.f,.f,.f,.f,.f,.f,.f,.f,.f,.f,.f,.f,.f,.f,.f,.f,.f,.f,.f,.f,.f,.f] (fun k=>[(6,aa .i64 k)]) (hv (.box [.pv (.int .i64 x.now), .pv (.bool x.online), .pv (.int .i64 x.device), .pv (.lst (x.storage.buckets.map XBucket.e)), .pv (.lst (x.pages.map XPage.e)), .pv (.int .i64 x.nextPage), .pv (.lst (x.locks.locks.map XLock.e)), .pv (.lst (x.channel.mails.map XMail.e)), .pv (.lst (x.sites.map XSite.e)), .pv (.lst (x.servers.map XServer.e))]) (.box [.pv (.int .i64 0), .pv (.bool false), .pv (.int .i64 0), .nil, .nil, .pv (.int .i64 0), .nil, .nil, .nil, .nil]) (.box [.pv (.int .i64 x.now), .pv (.bool x.online), .pv (.int .i64 x.device), .nil, .arr 3, .pv (.int .i64 x.nextPage), .arr 4, .arr 5, .arr 6, .arr 7]) [.darr 11 (x.pages.map XPage.e), .darr 4 (x.locks.locks.map XLock.e), .darr 3 (x.channel.mails.map XMail.e), .darr 4 (x.sites.map XSite.e)] 5 (x.servers.map XServer.e)) rfl ?_ ?_ ?_
  ·exact Kn.q [0,1,2,3,4,5,6,7] (by simp[hv,Zg,Zi,Ya,aU,aS,aT,eV,bz,aZ,bC,aN,dv,bR,bj,bV,L.ren,aI])
  ·intro k hk
   have ek:=e_servers k hk
   have hx:=XServer.e.eq_1 x.servers[k]
   have ht:=de (e:=XServer.e) hk
   rw[hx]at ht
   have N0:=dM 4 (x.servers[k].store.items.map XItem.e)
   generalize nd 4 (x.servers[k].store.items.map XItem.e)=n0 at N0 ek
   cases k with
   |zero=>
    simp only[hv,Zg,Zi,Ya,ht]
    rcases N0 with⟨q0,rfl⟩|⟨q0,rfl⟩
    ·simp only[q0]at ek
     simp[dy,hk,hx,ek,df,q0]
     exact Kn.q [0,1,2,3,4,5,6,11]
    ·simp[dy,hk,hx,ek,df]
     exact Kn.q [0,1,2,3,4,5,6,12]
   |succ k=>
    obtain⟨i1,i2,i3,i4,i5,i6⟩:=oJ (n:=x.servers.length) (by unfold maxLen;omega) hk
    have m1:=eR (m:=k+1+1) (z:=96) (by omega) (by omega)
    simp only[hv,Zg,Zi,Ya,ht]
    generalize hT:List.take (k+1) _=T
    have hTl:T.length=k+1:=by rw[←hT];simp;omega
    rcases N0 with⟨q0,rfl⟩|⟨q0,rfl⟩
    ·simp only[q0]at ek
     simp[dy,hk,hx,ek,i1,i2,i3,i4,i5,i6,hTl,m1,q0]
     exact Kn.q [0,1,2,3,4,5,6,11]
    ·simp[dy,hk,hx,ek,i1,i2,i3,i4,i5,i6,hTl,m1]
     exact Kn.q [0,1,2,3,4,5,6,12]
  have hT2:(x.servers.map XServer.e).take x.servers.length=(x.servers.map XServer.e):=Zs (by simp)
  simp only[hv,hT2,Zg,Zi]
  simp[dy]
 ·refine ae (fn:=kC) rfl ?_
  simp[kC,c0,c2,c3]
  refine dD bm Cl.fin x.pages.length [.f,.t,.t,.t,.t,.f,.f,.f,.f,.f,.f,.f,.f,.f,.f,.f,.f,.f,.f,.f,.f,.f,.f,.f,.f,.f,.f,.f,.f,.f,.f,.f,.f,.f,.f,.f,.f,.f,.f,.f,.f,.f,.f,.f,.f,.f,.f,.f,.f,.f,.f,.f,.f,.f,.f,.f,.f,.f,.f,.f,.f,.f,.f,.f,.f,.f,.f,.f,.f,.f,.f,.f,.f,.f,.f,.f,.f,.f,.f,.f,.f] (fun k=>[(4,aa .i64 k)]) (hv (.box [.pv (.int .i64 x.now), .pv (.bool x.online), .pv (.int .i64 x.device), .pv (.lst (x.storage.buckets.map XBucket.e)), .pv (.lst (x.pages.map XPage.e)), .pv (.int .i64 x.nextPage), .pv (.lst (x.locks.locks.map XLock.e)), .pv (.lst (x.channel.mails.map XMail.e)), .pv (.lst (x.sites.map XSite.e)), .pv (.lst (x.servers.map XServer.e))]) (.box [.pv (.int .i64 0), .pv (.bool false), .pv (.int .i64 0), .nil, .nil, .pv (.int .i64 0), .nil, .nil, .nil, .nil]) (.box [.pv (.int .i64 x.now), .pv (.bool x.online), .pv (.int .i64 x.device), .arr 3, .arr 4, .pv (.int .i64 x.nextPage), .pv (.lst (x.locks.locks.map XLock.e)), .pv (.lst (x.channel.mails.map XMail.e)), .pv (.lst (x.sites.map XSite.e)), .pv (.lst (x.servers.map XServer.e))]) [.darr 24 (x.storage.buckets.map XBucket.e)] 11 (x.pages.map XPage.e)) rfl ?_ ?_ ?_
  ·exact Kn.q [0,1,2,3,4] (by simp[hv,Zg,Zi,Ya,aU,aS,aT,eV,bz,aZ,bC,aN,dv,bR,bj,bV,L.ren,aI])
  ·intro k hk
   have ek:=e_pages k hk
   have hx:=XPage.e.eq_1 x.pages[k]
   have ht:=de (e:=XPage.e) hk
   rw[hx]at ht
   cases k with
   |zero=>
    simp only[hv,Zg,Zi,Ya,ht]
    simp[dW,hk,hx,ek,df]
    exact Kn.q [0,1,2,3,9]
   |succ k=>
    obtain⟨i1,i2,i3,i4,i5,i6⟩:=oJ (n:=x.pages.length) (by unfold maxLen;omega) hk
    have m1:=eR (m:=k+1+1) (z:=144) (by omega) (by omega)
    simp only[hv,Zg,Zi,Ya,ht]
    generalize hT:List.take (k+1) _=T
    have hTl:T.length=k+1:=by rw[←hT];simp;omega
    simp[dW,hk,hx,ek,i1,i2,i3,i4,i5,i6,hTl,m1]
    exact Kn.q [0,1,2,3,9]
  have hT0:(x.pages.map XPage.e).take x.pages.length=(x.pages.map XPage.e):=Zs (by simp)
  simp only[hv,hT0,Zg,Zi]
  simp[dW,c2,c3]
  refine dD bm Cl.fin x.sites.length [.f,.t,.t,.t,.f,.t,.f,.f,.f,.f,.f,.f,.f,.f,.f,.f,.f,.f,.f,.f,.f,.f,.f,.f,.f,.f,.f,.f,.f,.f,.f,.f,.f,.f,.f,.f,.f,.f,.f,.f,.f,.f,.f,.f,.f,.f,.f,.f,.f,.f,.f,.f,.f,.f,.f,.f,.f,.f,.f,.f,.f,.f,.f,.f,.f,.f,.f,.f,.f,.f,.f,.f,.f,.f,.f,.f,.f,.f,.f,.f,.f] (fun k=>[(5,aa .i64 k)]) (hv (.box [.pv (.int .i64 x.now), .pv (.bool x.online), .pv (.int .i64 x.device), .pv (.lst (x.storage.buckets.map XBucket.e)), .pv (.lst (x.pages.map XPage.e)), .pv (.int .i64 x.nextPage), .pv (.lst (x.locks.locks.map XLock.e)), .pv (.lst (x.channel.mails.map XMail.e)), .pv (.lst (x.sites.map XSite.e)), .pv (.lst (x.servers.map XServer.e))]) (.box [.pv (.int .i64 0), .pv (.bool false), .pv (.int .i64 0), .nil, .nil, .pv (.int .i64 0), .nil, .nil, .nil, .nil]) (.box [.pv (.int .i64 x.now), .pv (.bool x.online), .pv (.int .i64 x.device), .arr 3, .arr 4, .pv (.int .i64 x.nextPage), .arr 5, .arr 6, .arr 7, .pv (.lst (x.servers.map XServer.e))]) [.darr 24 (x.storage.buckets.map XBucket.e), .darr 11 (x.pages.map XPage.e), .darr 4 (x.locks.locks.map XLock.e), .darr 3 (x.channel.mails.map XMail.e)] 4 (x.sites.map XSite.e)) rfl ?_ ?_ ?_
  ·exact Kn.q [0,1,2,3,4,5,6,7] (by simp[hv,Zg,Zi,Ya,aU,aS,aT,eV,bz,aZ,bC,aN,dv,bR,bj,bV,L.ren,aI])
  ·intro k hk
   have ek:=e_sites k hk
   have hx:=XSite.e.eq_1 x.sites[k]
   have ht:=de (e:=XSite.e) hk
   rw[hx]at ht
   cases k with
   |zero=>
    simp only[hv,Zg,Zi,Ya,ht]
    simp[eN,hk,hx,ek,df]
    exact Kn.q [0,1,2,3,4,5,6,10]
   |succ k=>
    obtain⟨i1,i2,i3,i4,i5,i6⟩:=oJ (n:=x.sites.length) (by unfold maxLen;omega) hk
    have m1:=eR (m:=k+1+1) (z:=56) (by omega) (by omega)
    simp only[hv,Zg,Zi,Ya,ht]
    generalize hT:List.take (k+1) _=T
    have hTl:T.length=k+1:=by rw[←hT];simp;omega
    simp[eN,hk,hx,ek,i1,i2,i3,i4,i5,i6,hTl,m1]
    exact Kn.q [0,1,2,3,4,5,6,10]
  have hT1:(x.sites.map XSite.e).take x.sites.length=(x.sites.map XSite.e):=Zs (by simp)
  simp only[hv,hT1,Zg,Zi]
  simp[eN]
  refine dD bm Cl.fin x.servers.length [.f,.t,.t,.t,.f,.f,.t,.f,.f,.f,.f,.f,.f,.f,.f,.f,.f,.f,.f,.f,.f,.f,.f,.f,.f,.f,.f,.f,.f,.f,.f,.f,.f,.f,.f,.f,.f,.f,.f,.f,.f,.f,.f,.f,.f,.f,.f,.f,.f,.f,.f,.f,.f,.f,.f,.f,.f,.f,.f,.f,.f,.f,.f,.f,.f,.f,.f,.f,.f,.f,.f,.f,.f,.f,.f,.f,.f,.f,.f,.f,.f] (fun k=>[(6,aa .i64 k)]) (hv (.box [.pv (.int .i64 x.now), .pv (.bool x.online), .pv (.int .i64 x.device), .pv (.lst (x.storage.buckets.map XBucket.e)), .pv (.lst (x.pages.map XPage.e)), .pv (.int .i64 x.nextPage), .pv (.lst (x.locks.locks.map XLock.e)), .pv (.lst (x.channel.mails.map XMail.e)), .pv (.lst (x.sites.map XSite.e)), .pv (.lst (x.servers.map XServer.e))]) (.box [.pv (.int .i64 0), .pv (.bool false), .pv (.int .i64 0), .nil, .nil, .pv (.int .i64 0), .nil, .nil, .nil, .nil]) (.box [.pv (.int .i64 x.now), .pv (.bool x.online), .pv (.int .i64 x.device), .arr 3, .arr 4, .pv (.int .i64 x.nextPage), .arr 5, .arr 6, .arr 7, .arr 8]) [.darr 24 (x.storage.buckets.map XBucket.e), .darr 11 (x.pages.map XPage.e), .darr 4 (x.locks.locks.map XLock.e), .darr 3 (x.channel.mails.map XMail.e), .darr 4 (x.sites.map XSite.e)] 5 (x.servers.map XServer.e)) rfl ?_ ?_ ?_
  ·exact Kn.q [0,1,2,3,4,5,6,7,8] (by simp[hv,Zg,Zi,Ya,aU,aS,aT,eV,bz,aZ,bC,aN,dv,bR,bj,bV,L.ren,aI])
  ·intro k hk
   have ek:=e_servers k hk
   have hx:=XServer.e.eq_1 x.servers[k]
   have ht:=de (e:=XServer.e) hk
   rw[hx]at ht
   have N0:=dM 4 (x.servers[k].store.items.map XItem.e)
   generalize nd 4 (x.servers[k].store.items.map XItem.e)=n0 at N0 ek
   cases k with
   |zero=>
    simp only[hv,Zg,Zi,Ya,ht]
    rcases N0 with⟨q0,rfl⟩|⟨q0,rfl⟩
    ·simp only[q0]at ek
     simp[dy,hk,hx,ek,df,q0]
     exact Kn.q [0,1,2,3,4,5,6,7,12]
    ·simp[dy,hk,hx,ek,df]
     exact Kn.q [0,1,2,3,4,5,6,7,13]
   |succ k=>
    obtain⟨i1,i2,i3,i4,i5,i6⟩:=oJ (n:=x.servers.length) (by unfold maxLen;omega) hk
    have m1:=eR (m:=k+1+1) (z:=96) (by omega) (by omega)
    simp only[hv,Zg,Zi,Ya,ht]
    generalize hT:List.take (k+1) _=T
    have hTl:T.length=k+1:=by rw[←hT];simp;omega
    rcases N0 with⟨q0,rfl⟩|⟨q0,rfl⟩
    ·simp only[q0]at ek
     simp[dy,hk,hx,ek,i1,i2,i3,i4,i5,i6,hTl,m1,q0]
     exact Kn.q [0,1,2,3,4,5,6,7,12]
    ·simp[dy,hk,hx,ek,i1,i2,i3,i4,i5,i6,hTl,m1]
     exact Kn.q [0,1,2,3,4,5,6,7,13]
  have hT2:(x.servers.map XServer.e).take x.servers.length=(x.servers.map XServer.e):=Zs (by simp)
  simp only[hv,hT2,Zg,Zi]
  simp[dy]
end Gi
namespace Gi
open Go Go.RowKit
set_option maxHeartbeats 8000000
set_option maxRecDepth 4000
attribute [local simp] start oH bJ cI cS ed cR dZ eu ep pz pI pA pJ pB pK pC pL pD pM pE pO pF pP pG pQ pH pR V.cells plain bA fR isInt isStr isBool bin bY gj bZ gl ee un asList L.view aj V.view viewL aW am ce bD bS comp aQ bI cH bP bq bo bp aC aq aY al aB aI au bi bF aE br bt V.flat L.flat db da bB putAt thaw thawL thawT V.ow ej cV cW ca eh cd cU freezeVs freezeLs freezeL V.mut L.mut aH dE fK aZ bC aN dv bR bj bV L.ren aP dg bW dq bU bH wp_seq wp_block bg cZ cf bE cj wp_skip wp_exit wp_ret ct cr cz cu cC cD cB bO aF L.notArr aU aS aT cY bz storeD bc eP bu co ba k8 L.mov L.closed V.closed PV.bare PV.flat
abbrev wN (w:XWorld)(bs:List XBucket):List L:=[.pv (.int .i64 w.now), .pv (.bool w.online), .pv (.int .i64 w.device),nd 24 (bs.map XBucket.e), .down 11 (w.pages.map XPage.e), .pv (.int .i64 w.nextPage), .down 4 (w.locks.locks.map XLock.e), .down 3 (w.channel.mails.map XMail.e),nd 4 (w.sites.map XSite.e),nd 5 (w.servers.map XServer.e)]
abbrev wO (w:XWorld)(bs:List XBucket):List L:=[.pv (.int .i64 w.now), .pv (.bool w.online), .pv (.int .i64 w.device),nK 24 (bs.map XBucket.e), .own 11 (w.pages.map XPage.e), .pv (.int .i64 w.nextPage), .own 4 (w.locks.locks.map XLock.e), .own 3 (w.channel.mails.map XMail.e), .own 4 (w.sites.map XSite.e), .own 5 (w.servers.map XServer.e)]
abbrev Vy (x:XBucket):List L:=[.pv (.str x.site), .pv (.str x.top), .pv (.str x.reg.site), .pv (.int .i64 x.reg.installing), .pv (.int .i64 x.reg.waiting), .pv (.int .i64 x.reg.active),oI (x.caches.caches.map XCache.e), .pv (.str x.disk.base.name), .pv (.int .i64 x.disk.base.version),oI (x.disk.base.stores.map XStore.e), .pv (.lst (x.disk.base.unique.map XIndexDef.e)), .pv (.lst (ar x.disk.log)), .pv (.int .i64 x.disk.count), .pv (.str x.replica.base.name),oI (x.replica.base.items.map XItem.e), .pv (.int .i64 x.replica.base.auto), .pv (.int .i64 x.replica.seen), .pv (.int .i64 x.replica.sync.outbox.dev), .pv (.int .i64 x.replica.sync.outbox.next), .pv (.lst (x.replica.sync.outbox.writes.map XWrite.e)), .pv (.int .i64 x.replica.sync.tries), .pv (.int .i64 x.replica.sync.wait), .pv (.int .i64 x.lastUsed), .pv (.bool x.persistent)]
theorem SC (x:XBucket):db (.agg (S8 x))= .agg (Vy x):=by simp[db, ↓bF,da]
def Hy (l:List XBucket)(k:Nat)(b:XBucket):List XBucket×Bool:=bif oK l&&oK (l.set k b)then(l.set k b,true)else(l,false)
theorem Af {l:List XBucket}(hl:l.length≤1048576)(h:∀x∈l,x.Ok 1048576){b:XBucket}(hb:b.Ok 1048576){k:Nat}(hk:k<l.length)(hf:dR (BB b.site b.top) l=(k:Int)):ag Ph aM 672 [.agg [.pv (.lst (l.map XBucket.e))],b.v]=some (.tup [(true,[.own 24 ((Hy l k b).1.map XBucket.e)]),(false,[.pv (.bool (Hy l k b).2)])]):=by
 have e1:=uE (x:=⟨l⟩) (Zm 1048576) ⟨hl,h⟩
 have e2:=jC (bs:=l) (by unfold maxLen;omega) b.site b.top
 have e3:=pw (Zm 1048576) hb
 have e4:=nG hl h
 have e5:=nG (l:=l.set k b) (by simpa using hl) (fun x m=>by
  rcases Yo m with m|rfl
  ·exact h x m
  ·exact hb)
 have e6:=SC b
 rw[hf]at e2
 have hx:=XBucket.e.eq_1 l[k]
 have hne:l.map XBucket.e≠[]:=fun e=>by have:=congrArg List.length e;simp at this;simp[this]at hk
 have hnd:nd 24 (l.map XBucket.e)= .down 24 (l.map XBucket.e):=by
  rcases dM 24 (l.map XBucket.e)with⟨q,_⟩|⟨_,q⟩
  ·exact absurd q hne
  ·exact q
 have hset:(l.map XBucket.e).set k [.str b.site, .str b.top, .str b.reg.site, .int .i64 b.reg.installing, .int .i64 b.reg.waiting, .int .i64 b.reg.active, .lst (b.caches.caches.map XCache.e), .str b.disk.base.name, .int .i64 b.disk.base.version, .lst (b.disk.base.stores.map XStore.e), .lst (b.disk.base.unique.map XIndexDef.e), .lst (ar b.disk.log), .int .i64 b.disk.count, .str b.replica.base.name, .lst (b.replica.base.items.map XItem.e), .int .i64 b.replica.base.auto, .int .i64 b.replica.seen, .int .i64 b.replica.sync.outbox.dev, .int .i64 b.replica.sync.outbox.next, .lst (b.replica.sync.outbox.writes.map XWrite.e), .int .i64 b.replica.sync.tries, .int .i64 b.replica.sync.wait, .int .i64 b.lastUsed, .bool b.persistent]=(l.map XBucket.e).set k b.e:=rfl
 have lk:cT (k:Int) 0=false:=kE (by omega)
 rw[List.map_set]at e5
 have h0:(0:Int)≤(k:Int):=by omega
 simp only[hnd]at e1
 simp only[S8,Vy]at e3 e6
 unfold Hy
 generalize V.agg [.pv (.str b.site), .pv (.str b.top), .pv (.str b.reg.site), .pv (.int .i64 b.reg.installing), .pv (.int .i64 b.reg.waiting), .pv (.int .i64 b.reg.active),nd 2 (b.caches.caches.map XCache.e), .pv (.str b.disk.base.name), .pv (.int .i64 b.disk.base.version),nd 3 (b.disk.base.stores.map XStore.e), .down 2 (b.disk.base.unique.map XIndexDef.e), .down 1 (ar b.disk.log), .pv (.int .i64 b.disk.count), .pv (.str b.replica.base.name),nd 4 (b.replica.base.items.map XItem.e), .pv (.int .i64 b.replica.base.auto), .pv (.int .i64 b.replica.seen), .pv (.int .i64 b.replica.sync.outbox.dev), .pv (.int .i64 b.replica.sync.outbox.next), .down 7 (b.replica.sync.outbox.writes.map XWrite.e), .pv (.int .i64 b.replica.sync.tries), .pv (.int .i64 b.replica.sync.wait), .pv (.int .i64 b.lastUsed), .pv (.bool b.persistent)]=bv at*
 have hgk:(l.map XBucket.e)[k]? =some (XBucket.e l[k]):=by simp[hk]
 have hkl:k<(l.map XBucket.e).length:=by simpa using hk
 cases c1:oK l<;>rw[c1]at e4
 ·simp only[Xr,cond_false]
  refine ae (fn:=fS) rfl ?_
  simp(maxSteps:=9999999) [fS,e1,e2,e3, ↓e6,e4,h0,lk,hk,hx,hset, ↓aE, ↓aB, ↓aq, ↓aC, ↓al, ↓aY, ↓au, ↓oC]
 cases c2:oK (l.set k b)<;>rw[c2]at e5
 ·simp only[Xk,cond_false]
  refine ae (fn:=fS) rfl ?_
  simp(maxSteps:=9999999) [fS,e1,e2,e3, ↓e6,e4,e5,h0,lk,hk,hx,hset, ↓aE, ↓aB, ↓aq, ↓aC, ↓al, ↓aY, ↓au, ↓oC]
 ·simp only[Yk,cond_true]
  refine ae (fn:=fS) rfl ?_
  simp(maxSteps:=9999999) [fS,e1,e2,e3, ↓e6,e4,e5,h0,lk,hk,hx,hset, ↓aE, ↓aB, ↓aq, ↓aC, ↓al, ↓aY, ↓au, ↓oC]
theorem vK {w:XWorld}(h:w.Ok 1048576){b:XBucket}(hb:b.Ok 1048576){k:Nat}(hk:k<w.storage.buckets.length)(hf:dR (BB b.site b.top) w.storage.buckets=(k:Int))(ok:Bool):ag Ph aM 648 [w.v,b.v,aA ok]=some (bif ok&&(Hy w.storage.buckets k b).2 then .tup [(true,wO w (Hy w.storage.buckets k b).1),(false,[.pv (.bool true)])]else .tup [(true,wO w w.storage.buckets),(false,[.pv (.bool false)])]):=by
 have e1:=uF (Zm 1048576) h
 have e2:=Af h.2.2.1.1 h.2.2.1.2 hb hk hf
 have ne:∀(l:List XBucket),0<l.length→nd 24 (l.map XBucket.e)= .down 24 (l.map XBucket.e)∧nK 24 (l.map XBucket.e)= .own 24 (l.map XBucket.e):=fun l hl=>by
  cases l with
  |nil=>simp at hl
  |cons x xs=>exact⟨rfl,rfl⟩
 have n0:=ne w.storage.buckets (by omega)
 have n1:=ne (Hy w.storage.buckets k b).1 (by unfold Hy;cases oK w.storage.buckets&&oK (w.storage.buckets.set k b)<;>simp<;>omega)
 generalize Hy w.storage.buckets k b=p at*
 obtain⟨p1,p2⟩:=p
 simp only[wO,n0.2,n1.2]
 simp only[n0.1]at e1
 simp only at e2
 refine ae (fn:=sy) rfl ?_
 cases ok<;>cases p2<;>simp(maxSteps:=9999999) [sy,e1,e2]
end Gi
namespace Gi
open Go Go.RowKit
set_option maxHeartbeats 8000000
set_option maxRecDepth 4000
attribute [local simp] start oH bJ cI cS ed cR dZ eu ep pz pI pA pJ pB pK pC pL pD pM pE pO pF pP pG pQ pH pR V.cells plain bA fR isInt isStr isBool bin bY gj bZ gl ee un asList L.view aj V.view viewL aW am ce bD bS comp aQ bI cH bP bq bo bp aC aq aY al aB aI au bi bF aE br bt V.flat L.flat db da bB putAt thaw thawL thawT V.ow ej cV cW ca eh cd cU freezeVs freezeLs freezeL V.mut L.mut aH dE fK aZ bC aN dv bR bj bV L.ren aP dg bW dq bU bH wp_seq wp_block bg cZ cf bE cj wp_skip wp_exit wp_ret ct cr cz cu cC cD cB bO aF L.notArr aU aS aT cY bz storeD bc eP bu co ba k8 L.mov L.closed V.closed PV.bare PV.flat
attribute [local simp] LV
def Sn (w:XWorld)(s t:List UInt8):List XBucket×Int:=bif r8 w&&(w.online&&(!(cT (dR (BB s t) w.storage.buckets) 0)&& !(cT (jY s) 0)))then(match w.storage.buckets[(dR (BB s t) w.storage.buckets).toNat]?,w.servers[(jY s).toNat]? with
 |some b,some v=>bif (vz b (kg b.replica v).1).2 then(w.storage.buckets.set (dR (BB s t) w.storage.buckets).toNat (vz b (kg b.replica v).1).1,(kg b.replica v).2)else(w.storage.buckets,-1)
 |_,_=>(w.storage.buckets,-1))else(w.storage.buckets,-1)
theorem wi {w:XWorld}(h:r8 w=true):w.servers.length=3∧w.sites.length=3∧oK w.storage.buckets=true:=by
 simp only[r8,Zh,beq_iff_eq]at h
 obtain⟨_,_,h3,_,_,_,h7,h8,_⟩:=h
 exact⟨by omega,by omega,h3⟩
theorem FU (w:XWorld)(s t:List UInt8):((cT (dR (BB s t) w.storage.buckets) 0||(cT (jY s) 0||(!(r8 w)|| !w.online)))=true∧Sn w s t=(w.storage.buckets,-1))∨
 ∃k,∃hk:k<w.storage.buckets.length,∃i,∃hi:i<w.servers.length,dR (BB s t) w.storage.buckets=(k:Int)∧jY s=(i:Int)∧r8 w=true∧w.online=true∧BB s t w.storage.buckets[k]=true∧
  Sn w s t=bif (vz w.storage.buckets[k] (kg w.storage.buckets[k].replica w.servers[i]).1).2 then(w.storage.buckets.set k (vz w.storage.buckets[k] (kg w.storage.buckets[k].replica w.servers[i]).1).1,(kg w.storage.buckets[k].replica w.servers[i]).2)else(w.storage.buckets,-1):=by
 unfold Sn
 cases c1:r8 w
 ·exact .inl ⟨by simp,rfl⟩
 cases c2:w.online
 ·exact .inl ⟨by simp,rfl⟩
 have hs:=(wi c1).1
 rcases om (BB s t) w.storage.buckets with⟨q1,q2⟩|⟨k,hk,q1,q2⟩
 ·rw[q1];exact .inl ⟨rfl,rfl⟩
 rcases om (fun u=>s==u) As with⟨p1,_⟩|⟨i,hi,p1,_⟩
 ·rw[show jY s= -1 from p1,q1,kE (show(0:Int)≤(k:Int) by omega)];exact .inl ⟨rfl,rfl⟩
 ·have hi3:i<3:=hi
  have hi':i<w.servers.length:=by omega
  refine .inr ⟨k,hk,i,hi',q1,p1,rfl,rfl,List.find?_some q2,?_⟩
  rw[show jY s=(i:Int)from p1,q1,kE (show(0:Int)≤(k:Int) by omega),kE (show(0:Int)≤(i:Int) by omega)]
  simp only[Int.toNat_natCast,Zn hk,Zn hi',Bool.not_false,Yk,cond_true]
theorem vf {w:XWorld}(h:w.Ok 1048576)(s t:List UInt8)(hf:(cT (dR (BB s t) w.storage.buckets) 0||(cT (jY s) 0||(!(r8 w)|| !w.online)))=true):ag Ph aM 627 [w.v,eB s,eB t]=some (.tup [(true,wN w w.storage.buckets),(false,[.pv (.int .i64 (-1))])]):=by
 have hbl:w.storage.buckets.length≤maxLen:=Zc h.2.2.1.1 (by unfold maxLen;omega)
 have e1:=rZ (Zm 1048576) h
 have e2:=mC hbl s t
 have e3:=mD s
 have e4:=uy h
 have N0:=dM 24 (w.storage.buckets.map XBucket.e)
 have N1:=dM 4 (w.sites.map XSite.e)
 have N2:=dM 5 (w.servers.map XServer.e)
 simp only[wN,XWorld.v]at e4⊢
 clear h hbl
 generalize dR (BB s t) w.storage.buckets=k at*
 generalize jY s=i at*
 generalize nd 24 (w.storage.buckets.map XBucket.e)=n0 at*
 generalize nd 4 (w.sites.map XSite.e)=n1 at*
 generalize nd 5 (w.servers.map XServer.e)=n2 at*
 generalize r8 w=b1 at*
 generalize hk:cT k 0=b2 at*
 generalize hi:cT i 0=b3 at*
 generalize w.online=b4 at*
 cases b1
 ·clear hf hk hi
  rcases N0 with⟨-,rfl⟩|⟨-,rfl⟩<;>rcases N1 with⟨-,rfl⟩|⟨-,rfl⟩<;>rcases N2 with⟨-,rfl⟩|⟨-,rfl⟩<;>(refine ae (fn:=cP) rfl ?_;simp(maxSteps:=9999999) [cP,e1,e2,e3,e4])
 cases b4
 ·clear hf hk hi
  rcases N0 with⟨-,rfl⟩|⟨-,rfl⟩<;>rcases N1 with⟨-,rfl⟩|⟨-,rfl⟩<;>rcases N2 with⟨-,rfl⟩|⟨-,rfl⟩<;>(refine ae (fn:=cP) rfl ?_;simp(maxSteps:=9999999) [cP,e1,e2,e3,e4])
 cases b2
 ·cases b3
  ·simp at hf
  ·clear hf
   rcases N0 with⟨-,rfl⟩|⟨-,rfl⟩<;>rcases N1 with⟨-,rfl⟩|⟨-,rfl⟩<;>rcases N2 with⟨-,rfl⟩|⟨-,rfl⟩<;>(refine ae (fn:=cP) rfl ?_;simp(maxSteps:=9999999) [cP,e1,e2,e3,e4,hk,hi])
 ·clear hf hi
  rcases N0 with⟨-,rfl⟩|⟨-,rfl⟩<;>rcases N1 with⟨-,rfl⟩|⟨-,rfl⟩<;>rcases N2 with⟨-,rfl⟩|⟨-,rfl⟩<;>(refine ae (fn:=cP) rfl ?_;simp(maxSteps:=9999999) [cP,e1,e2,e3,e4,hk])
theorem xZ {w:XWorld}(h:w.Ok 1048576)(s t:List UInt8):ag Ph aM 627 [w.v,eB s,eB t]=some (.tup [(true,wN w (Sn w s t).1),(false,[.pv (.int .i64 (Sn w s t).2)])]):=by
 have hbl:w.storage.buckets.length≤maxLen:=Zc h.2.2.1.1 (by unfold maxLen;omega)
 have e1:=rZ (Zm 1048576) h
 have e2:=mC hbl s t
 have e3:=mD s
 have e4:=uy h
 have N0:=dM 24 (w.storage.buckets.map XBucket.e)
 have N1:=dM 4 (w.sites.map XSite.e)
 have N2:=dM 5 (w.servers.map XServer.e)
 rcases FU w s t with⟨hf,q⟩|⟨k,hk,i,hi,q1,q2,c1,c2,hb,q⟩
 ·rw[q];exact vf h s t hf
 rw[q]
 clear q
 rw[q1]at e2
 rw[q2]at e3
 rw[c1]at e4
 have lk:cT (k:Int) 0=false:=kE (by omega)
 have li:cT (i:Int) 0=false:=kE (by omega)
 have hx:=XBucket.e.eq_1 w.storage.buckets[k]
 have hv:=XServer.e.eq_1 w.servers[i]
 have hbo:=h.2.2.1.2 _ (Zf hk)
 have hvo:=h.2.2.2.2.2.2.2.2.2 _ (Zf hi)
 have e5:=wH hbo.2.2.2.2.2.1 hvo
 have hpo:=FW hbo.2.2.2.2.2.1 hvo
 have e6:=ua hbo hpo
 have d0:nd 24 (w.storage.buckets.map XBucket.e)= .down 24 (w.storage.buckets.map XBucket.e):=by
  rcases N0 with⟨z,_⟩|⟨_,z⟩
  ·have:=congrArg List.length z;simp at this;simp[this]at hk
  ·exact z
 have d2:nd 5 (w.servers.map XServer.e)= .down 5 (w.servers.map XServer.e):=by
  rcases N2 with⟨z,_⟩|⟨_,z⟩
  ·have:=congrArg List.length z;simp at this;simp[this]at hi
  ·exact z
 have d1:nd 4 (w.sites.map XSite.e)= .down 4 (w.sites.map XSite.e):=by
  rcases N1 with⟨z,_⟩|⟨_,z⟩
  ·have:=congrArg List.length z;have h3:=(wi c1).2.1;simp at this;simp[this]at h3
  ·exact z
 clear N0 N1 N2
 have dset:∀b:XBucket,nd 24 ((w.storage.buckets.set k b).map XBucket.e)= .down 24 ((w.storage.buckets.map XBucket.e).set k b.e):=fun b=>by
  rw[List.map_set]
  cases hw:w.storage.buckets.map XBucket.e with
  |nil=>have:=congrArg List.length hw;simp at this;simp[this]at hk
  |cons x xs=>cases k<;>rfl
 simp only[d0,d1,d2,c2]at e1
 simp only[XWorld.v,c2]at e4
 generalize kg w.storage.buckets[k].replica w.servers[i]=p at*
 generalize vz w.storage.buckets[k] p.1=r at*
 obtain⟨r1,r2⟩:=r
 cases r2
 ·simp only[cond_false,wN,d0,d1,d2]
  simp only[S8]at e6
  have M0:=dM 2 (r1.caches.caches.map XCache.e)
  have M1:=dM 3 (r1.disk.base.stores.map XStore.e)
  have M2:=dM 4 (r1.replica.base.items.map XItem.e)
  generalize nd 2 (r1.caches.caches.map XCache.e)=n0 at*
  generalize nd 3 (r1.disk.base.stores.map XStore.e)=n1 at*
  generalize nd 4 (r1.replica.base.items.map XItem.e)=n2 at*
  rcases M0 with⟨-,rfl⟩|⟨-,rfl⟩<;>rcases M1 with⟨-,rfl⟩|⟨-,rfl⟩<;>rcases M2 with⟨-,rfl⟩|⟨-,rfl⟩<;>(refine ae (fn:=cP) rfl ?_;simp(maxSteps:=9999999) [cP,e1,e2,e3,e4,c2,e5,e6,lk,li,hk,hi,hx,hv, ↓aE, ↓aB, ↓aq, ↓aC, ↓al, ↓aY, ↓au, ↓oC])
 ·simp only[cond_true,wN,d1,d2,dset]
  simp only[S8]at e6
  have hr1:=XBucket.e.eq_1 r1
  simp only[hr1]
  have M0:=dM 2 (r1.caches.caches.map XCache.e)
  have M1:=dM 3 (r1.disk.base.stores.map XStore.e)
  have M2:=dM 4 (r1.replica.base.items.map XItem.e)
  generalize nd 2 (r1.caches.caches.map XCache.e)=n0 at*
  generalize nd 3 (r1.disk.base.stores.map XStore.e)=n1 at*
  generalize nd 4 (r1.replica.base.items.map XItem.e)=n2 at*
  rcases M0 with⟨z0,rfl⟩|⟨z0,rfl⟩<;>rcases M1 with⟨z1,rfl⟩|⟨z1,rfl⟩<;>rcases M2 with⟨z2,rfl⟩|⟨z2,rfl⟩<;>((try simp only[z0,z1,z2]at e6⊢);refine ae (fn:=cP) rfl ?_;simp(maxSteps:=9999999) [cP,e1,e2,e3,e4,c2,e5,e6,lk,li,hk,hi,hx,hv, ↓aE, ↓aB, ↓aq, ↓aC, ↓al, ↓aY, ↓au, ↓oC,storeD,bc,L.mov,ai])
end Gi
namespace Gi
open Go Go.RowKit
set_option maxHeartbeats 8000000
set_option maxRecDepth 4000
attribute [local simp] start oH bJ cI cS ed cR dZ eu ep pz pI pA pJ pB pK pC pL pD pM pE pO pF pP pG pQ pH pR V.cells plain bA fR isInt isStr isBool bin bY gj bZ gl ee un asList L.view aj V.view viewL aW am ce bD bS comp aQ bI cH bP bq bo bp aC aq aY al aB aI au bi bF aE br bt V.flat L.flat db da bB putAt thaw thawL thawT V.ow ej cV cW ca eh cd cU freezeVs freezeLs freezeL V.mut L.mut aH dE fK aZ bC aN dv bR bj bV L.ren aP dg bW dq bU bH wp_seq wp_block bg cZ cf bE cj wp_skip wp_exit wp_ret ct cr cz cu cC cD cB bO aF L.notArr aU aS aT cY bz storeD bc eP bu co ba k8 L.mov L.closed V.closed PV.bare PV.flat
theorem Qr {l:List XBucket}{k:Nat}(hk:k<l.length){b:XBucket}(hb:gv b=true)(h1:b.site=l[k].site)(h2:b.top=l[k].top)(h:oK l=true):oK (l.set k b)=true:=by
 simp only[oK,Zh,Yb]at h⊢
 refine⟨IE fun j hj=> ?_,by simpa using h.2⟩
 have hj':j<l.length:=by simpa using hj
 have hp:j-1<l.length:=by omega
 have q:=uQ h.1 hj'
 have key:∀i(hi:i<l.length),((l.set k b)[i]'(by simpa using hi)).site=l[i].site∧((l.set k b)[i]'(by simpa using hi)).top=l[i].top:=fun i hi=>by
  rw[List.getElem_set]
  by_cases e:k=i
  ·subst e;simp only[if_true];exact⟨h1,h2⟩
  ·simp only[if_neg e,and_self]
 have kb:gv l[j]=true→gv ((l.set k b)[j]'hj)=true:=fun g=>by
  rw[List.getElem_set]
  by_cases e:k=j
  ·rw[if_pos e];exact hb
  ·rw[if_neg e];exact g
 obtain⟨s1,t1⟩:=key j hj'
 obtain⟨s2,t2⟩:=key (j-1) hp
 have e1:(l.set k b)[j]? =some ((l.set k b)[j]'hj):=Zn hj
 have e2:(l.set k b)[j-1]? =some ((l.set k b)[j-1]'(by simpa using hp)):=Zn (by simpa using hp)
 simp only[IJ,Zn hj',Zn hp,Yp,Y6]at q
 simp only[IJ,e1,e2,uS,s1,t1,s2,t2,Yp,Y6]
 exact⟨kb q.1,by simpa only[uS]using q.2⟩
theorem qY (s:List UInt8):ag Ph aM 153 [eB s]=some (aa .i64 (jY s)):=by
 have hl:As.length≤maxLen:=by simp[As,maxLen]
 unfold jY
 refine ae (fn:=nl) rfl ?_
 simp +contextual (maxSteps:=9999999) [nl,tB]
 refine aG bm Cl.fin [.t,.f,.f,.t,.t,.f,.f,.f,.f,.f,.f,.f,.f,.f,.f,.f,.f,.f,.f] (fun k=>[(4,aa .i64 k)]) As.length (ir (fun u=>s==u) As) rfl (by simp) (fun k hk hj=> ?_) (fun hj _=> ?_)
 ·have hf:=sI hk hj
  have hs:(As.map vC)[k]'(by simpa using hk)=[.str As[k]]:=by simp[vC]
  have hc:(As[k]==s)=(s==As[k]):=Bool.beq_comm
  cases hg:(s==As[k])
  ·rw[hg]at hc
   simp(maxSteps:=9999999) [gH,ir,hk,hg,hc,aR hl hk,bd hk,vC]
  ·have hf2:=hf hg
   have ha:ir (fun u=>s==u) As k=true:=by simp only[ir,hk,Zn,hg]
   rw[hg]at hc
   generalize dR (fun u=>s==u) As=F at hf2⊢
   generalize ir (fun u=>s==u) As=A at ha⊢
   simp(maxSteps:=9999999) [gH,ha,hk,hg,hc,hf2,aR hl hk,bd hk,vC]
 ·simp +contextual (maxSteps:=9999999) [gH,sH hj]
theorem vH {w:XWorld}(h:w.Ok 1048576)(s t:List UInt8)(hf:(cT (dR (BB s t) w.storage.buckets) 0||(cT (jY s) 0||(!(r8 w)|| !w.online)))=true):ag Ph aM 626 [w.v,eB s,eB t]=some (.tup [(true,wO w w.storage.buckets),(false,[.pv (.int .i64 (-1))])]):=by
 have hbl:w.storage.buckets.length≤maxLen:=Zc h.2.2.1.1 (by unfold maxLen;omega)
 have e1:=uF (Zm 1048576) h
 have e2:=jC hbl s t
 have e3:=qY s
 have e4:=uC h
 have N0:=nD 24 (w.storage.buckets.map XBucket.e)
 simp only[wO,XWorld.v]at e4⊢
 clear h hbl
 generalize dR (BB s t) w.storage.buckets=k at*
 generalize jY s=i at*
 generalize nd 24 (w.storage.buckets.map XBucket.e)=n0 at*
 generalize nK 24 (w.storage.buckets.map XBucket.e)=o0 at*
 generalize r8 w=b1 at*
 generalize hk:cT k 0=b2 at*
 generalize hi:cT i 0=b3 at*
 generalize w.online=b4 at*
 cases b1
 ·clear hf hk hi
  rcases N0 with⟨-,rfl,rfl⟩|⟨-,rfl,rfl⟩<;>(refine ae (fn:=cQ) rfl ?_;simp(maxSteps:=9999999) [cQ,e1,e2,e3,e4])
 cases b2
 rotate_left
 ·clear hf hi
  rcases N0 with⟨-,rfl,rfl⟩|⟨-,rfl,rfl⟩<;>(refine ae (fn:=cQ) rfl ?_;simp(maxSteps:=9999999) [cQ,e1,e2,e3,e4,hk])
 cases b3
 rotate_left
 ·clear hf
  rcases N0 with⟨-,rfl,rfl⟩|⟨-,rfl,rfl⟩<;>(refine ae (fn:=cQ) rfl ?_;simp(maxSteps:=9999999) [cQ,e1,e2,e3,e4,hk,hi])
 cases b4
 ·clear hf
  rcases N0 with⟨-,rfl,rfl⟩|⟨-,rfl,rfl⟩<;>(refine ae (fn:=cQ) rfl ?_;simp(maxSteps:=9999999) [cQ,e1,e2,e3,e4,hk,hi])
 ·simp at hf
end Gi
