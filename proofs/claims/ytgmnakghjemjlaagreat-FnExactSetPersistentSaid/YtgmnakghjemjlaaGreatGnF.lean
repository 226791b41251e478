/- Of this proof. -/
import Derived.Test.YtgmnakghjemjlaaGreatGmC
import Derived.Test.YtgmnakghjemjlaaGreatGlP
import Derived.Test.YtgmnakghjemjlaaGreatGkd
set_option linter.unusedSimpArgs false
set_option linter.unusedVariables false
namespace Gi
open Go Go.RowKit
set_option maxHeartbeats 8000000
set_option maxRecDepth 4000
attribute [local simp] bu ah az aI bg bX Opd.ev put V.cells plain bn f9 isInt isStr isBool bin bD nI nH un asList L.view ap V.view viewL aS av bx bP comp aK bt dz ct bI bG bH bO bj cz aX bK aQ aY bM cB bL bJ bN V.flat L.flat dL du bA putAt thaw thawL thawT freezeVs freezeLs freezeL V.mut L.mut aJ aU dM cj dQ bT bC wp_seq wp_block nD wp_cond wp_skip wp_exit wp_ret cN cM cS cO dj dk di cq aW L.notArr aP aN aO dR bo storeD bc fR br cE bf nE L.mov L.closed V.closed PV.bare PV.flat
def hv (b0 b1 b2:AObj)(rest:List AObj)(z:Nat)(rows:List (List PV))(k:Nat):List AObj:=b0::b1::b2::(rest++[.darr z (rows.take k)])
theorem AS {B:Nat}(hB:B≤1048576){x:XWorld}(h:x.Ok B):ag Ph aG 433 [.agg [.pv (.int .i64 x.now), .pv (.bool x.online), .pv (.int .i64 x.device), .pv (.lst (x.storage.buckets.map XBucket.e)), .pv (.lst (x.pages.map XPage.e)), .pv (.int .i64 x.nextPage), .pv (.lst (x.locks.locks.map XLock.e)), .pv (.lst (x.channel.mails.map XMail.e)), .pv (.lst (x.sites.map XSite.e)), .pv (.lst (x.servers.map XServer.e))]]=some (.agg [.pv (.int .i64 x.now), .pv (.bool x.online), .pv (.int .i64 x.device),nd 24 (x.storage.buckets.map XBucket.e), .down 11 (x.pages.map XPage.e), .pv (.int .i64 x.nextPage), .down 4 (x.locks.locks.map XLock.e), .down 3 (x.channel.mails.map XMail.e), .down 4 (x.sites.map XSite.e), .down 5 (x.servers.map XServer.e)]):=by
 obtain⟨h_now,h_device,h_storage,h_pages,h_nextPage,h_locks,h_channel,h_sites,h_servers⟩:=h
 have c0:=AQ hB h_storage
 have c2:=AN hB h_locks
 have c3:=AO hB h_channel
 have e_pages:∀k(hk:k<x.pages.length),_:=fun k hk=>AI hB (h_pages.2 _ (List.getElem_mem hk))
 have hl_pages:x.pages.length≤1048576:=Nat.le_trans h_pages.1 hB
 have e_sites:∀k(hk:k<x.sites.length),_:=fun k hk=>AG hB (h_sites.2 _ (List.getElem_mem hk))
 have hl_sites:x.sites.length≤1048576:=Nat.le_trans h_sites.1 hB
 have e_servers:∀k(hk:k<x.servers.length),_:=fun k hk=>AK hB (h_servers.2 _ (List.getElem_mem hk))
 have hl_servers:x.servers.length≤1048576:=Nat.le_trans h_servers.1 hB
 clear h_now h_device h_storage h_pages h_nextPage h_locks h_channel h_sites h_servers
 have N:=eI 24 (x.storage.buckets.map XBucket.e)
 generalize nd 24 (x.storage.buckets.map XBucket.e)=n at N c0⊢
 rcases N with⟨-,rfl⟩|⟨-,rfl⟩
 ·refine ae (fn:=jf) rfl ?_
  simp[jf,c0,c2,c3]
  refine cL aR Cl.fin x.pages.length [.f,.t,.t,.t,.t,.f,.f,.f,.f,.f,.f,.f,.f,.f,.f,.f,.f,.f,.f,.f,.f,.f,.f,.f,.f,.f,.f,.f,.f,.f,.f,.f,.f,.f,.f,.f,.f,.f,.f,.f,.f,.f,.f,.f,.f,.f,.f,.f,.f,.f,.f,.f,.f,.f,.f,.f,.f,.f,.f,.f,.f,.f,.f,.f,.f,.f,.f,.f,.f,.f,.f,.f,.f,.f,.f,.f,.f,.f,.f,.f,.f] (fun k=>[(4,aa .i64 k)]) (hv (.box [.pv (.int .i64 x.now), .pv (.bool x.online), .pv (.int .i64 x.device), .pv (.lst (x.storage.buckets.map XBucket.e)), .pv (.lst (x.pages.map XPage.e)), .pv (.int .i64 x.nextPage), .pv (.lst (x.locks.locks.map XLock.e)), .pv (.lst (x.channel.mails.map XMail.e)), .pv (.lst (x.sites.map XSite.e)), .pv (.lst (x.servers.map XServer.e))]) (.box [.pv (.int .i64 0), .pv (.bool false), .pv (.int .i64 0), .nil, .nil, .pv (.int .i64 0), .nil, .nil, .nil, .nil]) (.box [.pv (.int .i64 x.now), .pv (.bool x.online), .pv (.int .i64 x.device), .nil, .arr 3, .pv (.int .i64 x.nextPage), .pv (.lst (x.locks.locks.map XLock.e)), .pv (.lst (x.channel.mails.map XMail.e)), .pv (.lst (x.sites.map XSite.e)), .pv (.lst (x.servers.map XServer.e))]) [] 11 (x.pages.map XPage.e)) rfl ?_ ?_ ?_
  ·exact Kn.q [0,1,2,3] (by simp[hv,List.cons_append,List.nil_append,List.take_zero,aP,aN,aO,dR,bo,aM,be,aE,dq,bE,bi,bS,L.ren,aQ])
  ·intro k hk
   have ek:=e_pages k hk
   have hx:=XPage.e.eq_1 x.pages[k]
   have ht:=bU (e:=XPage.e) hk
   rw[hx]at ht
   cases k with
   |zero=>
    simp only[hv,List.cons_append,List.nil_append,List.take_zero,ht]
    simp[de,hk,hx,ek,bV]
    exact Kn.q [0,1,2,8]
   |succ k=>
    obtain⟨i1,i2,i3,i4,i5,i6⟩:=mE (n:=x.pages.length) (by unfold maxLen;omega) hk
    have m1:=eR (m:=k+1+1) (z:=144) (by omega) (by omega)
    simp only[hv,List.cons_append,List.nil_append,List.take_zero,ht]
    generalize hT:List.take (k+1) _=T
    have hTl:T.length=k+1:=by rw[←hT];simp;omega
    simp[de,hk,hx,ek,i1,i2,i3,i4,i5,i6,hTl,m1]
    exact Kn.q [0,1,2,8]
  have hT0:(x.pages.map XPage.e).take x.pages.length=(x.pages.map XPage.e):=List.take_of_length_le (by simp)
  simp only[hv,hT0,List.cons_append,List.nil_append]
  simp[de,c2,c3]
  refine cL aR Cl.fin x.sites.length [.f,.t,.t,.t,.f,.t,.f,.f,.f,.f,.f,.f,.f,.f,.f,.f,.f,.f,.f,.f,.f,.f,.f,.f,.f,.f,.f,.f,.f,.f,.f,.f,.f,.f,.f,.f,.f,.f,.f,.f,.f,.f,.f,.f,.f,.f,.f,.f,.f,.f,.f,.f,.f,.f,.f,.f,.f,.f,.f,.f,.f,.f,.f,.f,.f,.f,.f,.f,.f,.f,.f,.f,.f,.f,.f,.f,.f,.f,.f,.f,.f] (fun k=>[(5,aa .i64 k)]) (hv (.box [.pv (.int .i64 x.now), .pv (.bool x.online), .pv (.int .i64 x.device), .pv (.lst (x.storage.buckets.map XBucket.e)), .pv (.lst (x.pages.map XPage.e)), .pv (.int .i64 x.nextPage), .pv (.lst (x.locks.locks.map XLock.e)), .pv (.lst (x.channel.mails.map XMail.e)), .pv (.lst (x.sites.map XSite.e)), .pv (.lst (x.servers.map XServer.e))]) (.box [.pv (.int .i64 0), .pv (.bool false), .pv (.int .i64 0), .nil, .nil, .pv (.int .i64 0), .nil, .nil, .nil, .nil]) (.box [.pv (.int .i64 x.now), .pv (.bool x.online), .pv (.int .i64 x.device), .nil, .arr 3, .pv (.int .i64 x.nextPage), .arr 4, .arr 5, .arr 6, .pv (.lst (x.servers.map XServer.e))]) [.darr 11 (x.pages.map XPage.e), .darr 4 (x.locks.locks.map XLock.e), .darr 3 (x.channel.mails.map XMail.e)] 4 (x.sites.map XSite.e)) rfl ?_ ?_ ?_
  ·exact Kn.q [0,1,2,3,4,5,6] (by simp[hv,List.cons_append,List.nil_append,List.take_zero,aP,aN,aO,dR,bo,aM,be,aE,dq,bE,bi,bS,L.ren,aQ])
  ·intro k hk
   have ek:=e_sites k hk
   have hx:=XSite.e.eq_1 x.sites[k]
   have ht:=bU (e:=XSite.e) hk
   rw[hx]at ht
   cases k with
   |zero=>
    simp only[hv,List.cons_append,List.nil_append,List.take_zero,ht]
    simp[dJ,hk,hx,ek,bV]
    exact Kn.q [0,1,2,3,4,5,9]
   |succ k=>
    obtain⟨i1,i2,i3,i4,i5,i6⟩:=mE (n:=x.sites.length) (by unfold maxLen;omega) hk
    have m1:=eR (m:=k+1+1) (z:=56) (by omega) (by omega)
    simp only[hv,List.cons_append,List.nil_append,List.take_zero,ht]
    generalize hT:List.take (k+1) _=T
    have hTl:T.length=k+1:=by rw[←hT];simp;omega
    simp[dJ,hk,hx,ek,i1,i2,i3,i4,i5,i6,hTl,m1]
    exact Kn.q [0,1,2,3,4,5,9]
  have hT1:(x.sites.map XSite.e).take x.sites.length=(x.sites.map XSite.e):=List.take_of_length_le (by simp)
  simp only[hv,hT1,List.cons_append,List.nil_append]
  simp[dJ]
  refine cL aR Cl.fin x.servers.length [.f,.t,.t,.t,.f,.f,.t,.f,.f,.f,.f,.f,.f,.f,.f,.f,.f,.f,.f,.f,.f,.f,.f,.f,.f,.f,.f,.f,.f,.f,.f,.f,.f,.f,.f,.f,.f,.f,.f,.f,.f,.f,.f,.f,.f,.f,.f,.f,.f,.f,.f,.f,.f,.f,.f,.f,.f,.f,.f,.f,.f,.f,.f,.f,.f,.f,.f,.f,.f,.f,.f,.f,.f,.f,.f,.f,.f,.f,.f,.f,.f] (fun k=>[(6,aa .i64 k)]) (hv (.box [.pv (.int .i64 x.now), .pv (.bool x.online), .pv (.int .i64 x.device), .pv (.lst (x.storage.buckets.map XBucket.e)), .pv (.lst (x.pages.map XPage.e)), .pv (.int .i64 x.nextPage), .pv (.lst (x.locks.locks.map XLock.e)), .pv (.lst (x.channel.mails.map XMail.e)), .pv (.lst (x.sites.map XSite.e)), .pv (.lst (x.servers.map XServer.e))]) (.box [.pv (.int .i64 0), .pv (.bool false), .pv (.int .i64 0), .nil, .nil, .pv (.int .i64 0), .nil, .nil, .nil, .nil]) (.box [.pv (.int .i64 x.now), .pv (.bool x.online), .pv (.int .i64 x.device), .nil, .arr 3, .pv (.int .i64 x.nextPage), .arr 4, .arr 5, .arr 6, .arr 7]) [.darr 11 (x.pages.map XPage.e), .darr 4 (x.locks.locks.map XLock.e), .darr 3 (x.channel.mails.map XMail.e), .darr 4 (x.sites.map XSite.e)] 5 (x.servers.map XServer.e)) rfl ?_ ?_ ?_
  ·exact Kn.q [0,1,2,3,4,5,6,7] (by simp[hv,List.cons_append,List.nil_append,List.take_zero,aP,aN,aO,dR,bo,aM,be,aE,dq,bE,bi,bS,L.ren,aQ])
  ·intro k hk
   have ek:=e_servers k hk
   have hx:=XServer.e.eq_1 x.servers[k]
   have ht:=bU (e:=XServer.e) hk
   rw[hx]at ht
   have N0:=eI 4 (x.servers[k].store.items.map XItem.e)
   generalize nd 4 (x.servers[k].store.items.map XItem.e)=n0 at N0 ek
   cases k with
   |zero=>
    simp only[hv,List.cons_append,List.nil_append,List.take_zero,ht]
    rcases N0 with⟨q0,rfl⟩|⟨q0,rfl⟩
    ·simp only[q0]at ek
     simp[co,hk,hx,ek,bV,q0]
     exact Kn.q [0,1,2,3,4,5,6,11]
    ·simp[co,hk,hx,ek,bV]
     exact Kn.q [0,1,2,3,4,5,6,12]
   |succ k=>
    obtain⟨i1,i2,i3,i4,i5,i6⟩:=mE (n:=x.servers.length) (by unfold maxLen;omega) hk
    have m1:=eR (m:=k+1+1) (z:=96) (by omega) (by omega)
    simp only[hv,List.cons_append,List.nil_append,List.take_zero,ht]
    generalize hT:List.take (k+1) _=T
    have hTl:T.length=k+1:=by rw[←hT];simp;omega
    rcases N0 with⟨q0,rfl⟩|⟨q0,rfl⟩
    ·simp only[q0]at ek
     simp[co,hk,hx,ek,i1,i2,i3,i4,i5,i6,hTl,m1,q0]
     exact Kn.q [0,1,2,3,4,5,6,11]
    ·simp[co,hk,hx,ek,i1,i2,i3,i4,i5,i6,hTl,m1]
     exact Kn.q [0,1,2,3,4,5,6,12]
  have hT2:(x.servers.map XServer.e).take x.servers.length=(x.servers.map XServer.e):=List.take_of_length_le (by simp)
  simp only[hv,hT2,List.cons_append,List.nil_append]
  simp[co]
 ·refine ae (fn:=jf) rfl ?_
  simp[jf,c0,c2,c3]
  refine cL aR Cl.fin x.pages.length [.f,.t,.t,.t,.t,.f,.f,.f,.f,.f,.f,.f,.f,.f,.f,.f,.f,.f,.f,.f,.f,.f,.f,.f,.f,.f,.f,.f,.f,.f,.f,.f,.f,.f,.f,.f,.f,.f,.f,.f,.f,.f,.f,.f,.f,.f,.f,.f,.f,.f,.f,.f,.f,.f,.f,.f,.f,.f,.f,.f,.f,.f,.f,.f,.f,.f,.f,.f,.f,.f,.f,.f,.f,.f,.f,.f,.f,.f,.f,.f,.f] (fun k=>[(4,aa .i64 k)]) (hv (.box [.pv (.int .i64 x.now), .pv (.bool x.online), .pv (.int .i64 x.device), .pv (.lst (x.storage.buckets.map XBucket.e)), .pv (.lst (x.pages.map XPage.e)), .pv (.int .i64 x.nextPage), .pv (.lst (x.locks.locks.map XLock.e)), .pv (.lst (x.channel.mails.map XMail.e)), .pv (.lst (x.sites.map XSite.e)), .pv (.lst (x.servers.map XServer.e))]) (.box [.pv (.int .i64 0), .pv (.bool false), .pv (.int .i64 0), .nil, .nil, .pv (.int .i64 0), .nil, .nil, .nil, .nil]) (.box [.pv (.int .i64 x.now), .pv (.bool x.online), .pv (.int .i64 x.device), .arr 3, .arr 4, .pv (.int .i64 x.nextPage), .pv (.lst (x.locks.locks.map XLock.e)), .pv (.lst (x.channel.mails.map XMail.e)), .pv (.lst (x.sites.map XSite.e)), .pv (.lst (x.servers.map XServer.e))]) [.darr 24 (x.storage.buckets.map XBucket.e)] 11 (x.pages.map XPage.e)) rfl ?_ ?_ ?_
  ·exact Kn.q [0,1,2,3,4] (by simp[hv,List.cons_append,List.nil_append,List.take_zero,aP,aN,aO,dR,bo,aM,be,aE,dq,bE,bi,bS,L.ren,aQ])
  ·intro k hk
   have ek:=e_pages k hk
   have hx:=XPage.e.eq_1 x.pages[k]
   have ht:=bU (e:=XPage.e) hk
   rw[hx]at ht
   cases k with
   |zero=>
    simp only[hv,List.cons_append,List.nil_append,List.take_zero,ht]
    simp[de,hk,hx,ek,bV]
    exact Kn.q [0,1,2,3,9]
   |succ k=>
    obtain⟨i1,i2,i3,i4,i5,i6⟩:=mE (n:=x.pages.length) (by unfold maxLen;omega) hk
    have m1:=eR (m:=k+1+1) (z:=144) (by omega) (by omega)
    simp only[hv,List.cons_append,List.nil_append,List.take_zero,ht]
    generalize hT:List.take (k+1) _=T
    have hTl:T.length=k+1:=by rw[←hT];simp;omega
    simp[de,hk,hx,ek,i1,i2,i3,i4,i5,i6,hTl,m1]
    exact Kn.q [0,1,2,3,9]
  have hT0:(x.pages.map XPage.e).take x.pages.length=(x.pages.map XPage.e):=List.take_of_length_le (by simp)
  simp only[hv,hT0,List.cons_append,List.nil_append]
  simp[de,c2,c3]
  refine cL aR Cl.fin x.sites.length [.f,.t,.t,.t,.f,.t,.f,.f,.f,.f,.f,.f,.f,.f,.f,.f,.f,.f,.f,.f,.f,.f,.f,.f,.f,.f,.f,.f,.f,.f,.f,.f,.f,.f,.f,.f,.f,.f,.f,.f,.f,.f,.f,.f,.f,.f,.f,.f,.f,.f,.f,.f,.f,.f,.f,.f,.f,.f,.f,.f,.f,.f,.f,.f,.f,.f,.f,.f,.f,.f,.f,.f,.f,.f,.f,.f,.f,.f,.f,.f,.f] (fun k=>[(5,aa .i64 k)]) (hv (.box [.pv (.int .i64 x.now), .pv (.bool x.online), .pv (.int .i64 x.device), .pv (.lst (x.storage.buckets.map XBucket.e)), .pv (.lst (x.pages.map XPage.e)), .pv (.int .i64 x.nextPage), .pv (.lst (x.locks.locks.map XLock.e)), .pv (.lst (x.channel.mails.map XMail.e)), .pv (.lst (x.sites.map XSite.e)), .pv (.lst (x.servers.map XServer.e))]) (.box [.pv (.int .i64 0), .pv (.bool false), .pv (.int .i64 0), .nil, .nil, .pv (.int .i64 0), .nil, .nil, .nil, .nil]) (.box [.pv (.int .i64 x.now), .pv (.bool x.online), .pv (.int .i64 x.device), .arr 3, .arr 4, .pv (.int .i64 x.nextPage), .arr 5, .arr 6, .arr 7, .pv (.lst (x.servers.map XServer.e))]) [.darr 24 (x.storage.buckets.map XBucket.e), .darr 11 (x.pages.map XPage.e), .darr 4 (x.locks.locks.map XLock.e), .darr 3 (x.channel.mails.map XMail.e)] 4 (x.sites.map XSite.e)) rfl ?_ ?_ ?_
  ·exact Kn.q [0,1,2,3,4,5,6,7] (by simp[hv,List.cons_append,List.nil_append,List.take_zero,aP,aN,aO,dR,bo,aM,be,aE,dq,bE,bi,bS,L.ren,aQ])
  ·intro k hk
   have ek:=e_sites k hk
   have hx:=XSite.e.eq_1 x.sites[k]
   have ht:=bU (e:=XSite.e) hk
   rw[hx]at ht
   cases k with
   |zero=>
    simp only[hv,List.cons_append,List.nil_append,List.take_zero,ht]
    simp[dJ,hk,hx,ek,bV]
    exact Kn.q [0,1,2,3,4,5,6,10]
   |succ k=>
    obtain⟨i1,i2,i3,i4,i5,i6⟩:=mE (n:=x.sites.length) (by unfold maxLen;omega) hk
    have m1:=eR (m:=k+1+1) (z:=56) (by omega) (by omega)
    simp only[hv,List.cons_append,List.nil_append,List.take_zero,ht]
    generalize hT:List.take (k+1) _=T
    have hTl:T.length=k+1:=by rw[←hT];simp;omega
    simp[dJ,hk,hx,ek,i1,i2,i3,i4,i5,i6,hTl,m1]
    exact Kn.q [0,1,2,3,4,5,6,10]
  have hT1:(x.sites.map XSite.e).take x.sites.length=(x.sites.map XSite.e):=List.take_of_length_le (by simp)
  simp only[hv,hT1,List.cons_append,List.nil_append]
  simp[dJ]
  refine cL aR Cl.fin x.servers.length [.f,.t,.t,.t,.f,.f,.t,.f,.f,.f,.f,.f,.f,.f,.f,.f,.f,.f,.f,.f,.f,.f,.f,.f,.f,.f,.f,.f,.f,.f,.f,.f,.f,.f,.f,.f,.f,.f,.f,.f,.f,.f,.f,.f,.f,.f,.f,.f,.f,.f,.f,.f,.f,.f,.f,.f,.f,.f,.f,.f,.f,.f,.f,.f,.f,.f,.f,.f,.f,.f,.f,.f,.f,.f,.f,.f,.f,.f,.f,.f,.f] (fun k=>[(6,aa .i64 k)]) (hv (.box [.pv (.int .i64 x.now), .pv (.bool x.online), .pv (.int .i64 x.device), .pv (.lst (x.storage.buckets.map XBucket.e)), .pv (.lst (x.pages.map XPage.e)), .pv (.int .i64 x.nextPage), .pv (.lst (x.locks.locks.map XLock.e)), .pv (.lst (x.channel.mails.map XMail.e)), .pv (.lst (x.sites.map XSite.e)), .pv (.lst (x.servers.map XServer.e))]) (.box [.pv (.int .i64 0), .pv (.bool false), .pv (.int .i64 0), .nil, .nil, .pv (.int .i64 0), .nil, .nil, .nil, .nil]) (.box [.pv (.int .i64 x.now), .pv (.bool x.online), .pv (.int .i64 x.device), .arr 3, .arr 4, .pv (.int .i64 x.nextPage), .arr 5, .arr 6, .arr 7, .arr 8]) [.darr 24 (x.storage.buckets.map XBucket.e), .darr 11 (x.pages.map XPage.e), .darr 4 (x.locks.locks.map XLock.e), .darr 3 (x.channel.mails.map XMail.e), .darr 4 (x.sites.map XSite.e)] 5 (x.servers.map XServer.e)) rfl ?_ ?_ ?_
  ·exact Kn.q [0,1,2,3,4,5,6,7,8] (by simp[hv,List.cons_append,List.nil_append,List.take_zero,aP,aN,aO,dR,bo,aM,be,aE,dq,bE,bi,bS,L.ren,aQ])
  ·intro k hk
   have ek:=e_servers k hk
   have hx:=XServer.e.eq_1 x.servers[k]
   have ht:=bU (e:=XServer.e) hk
   rw[hx]at ht
   have N0:=eI 4 (x.servers[k].store.items.map XItem.e)
   generalize nd 4 (x.servers[k].store.items.map XItem.e)=n0 at N0 ek
   cases k with
   |zero=>
    simp only[hv,List.cons_append,List.nil_append,List.take_zero,ht]
    rcases N0 with⟨q0,rfl⟩|⟨q0,rfl⟩
    ·simp only[q0]at ek
     simp[co,hk,hx,ek,bV,q0]
     exact Kn.q [0,1,2,3,4,5,6,7,12]
    ·simp[co,hk,hx,ek,bV]
     exact Kn.q [0,1,2,3,4,5,6,7,13]
   |succ k=>
    obtain⟨i1,i2,i3,i4,i5,i6⟩:=mE (n:=x.servers.length) (by unfold maxLen;omega) hk
    have m1:=eR (m:=k+1+1) (z:=96) (by omega) (by omega)
    simp only[hv,List.cons_append,List.nil_append,List.take_zero,ht]
    generalize hT:List.take (k+1) _=T
    have hTl:T.length=k+1:=by rw[←hT];simp;omega
    rcases N0 with⟨q0,rfl⟩|⟨q0,rfl⟩
    ·simp only[q0]at ek
     simp[co,hk,hx,ek,i1,i2,i3,i4,i5,i6,hTl,m1,q0]
     exact Kn.q [0,1,2,3,4,5,6,7,12]
    ·simp[co,hk,hx,ek,i1,i2,i3,i4,i5,i6,hTl,m1]
     exact Kn.q [0,1,2,3,4,5,6,7,13]
  have hT2:(x.servers.map XServer.e).take x.servers.length=(x.servers.map XServer.e):=List.take_of_length_le (by simp)
  simp only[hv,hT2,List.cons_append,List.nil_append]
  simp[co]
end Gi
namespace Gi
open Go Go.RowKit
set_option maxHeartbeats 8000000
set_option maxRecDepth 4000
attribute [local simp] bu sQ bg bX ep fZ ej fY f8 f7 uP uY uQ uZ uR u0 uS vd uT ve uU vf uV vg uW vh uX vi V.cells plain bn f9 isInt isStr isBool bin cW jN cX jO f4 un asList L.view ap V.view viewL aS av da cf bP comp aK bt dz ct bI bG bH bO bj cz aX bK aQ aY bM cB bL bJ bN V.flat L.flat dL du bA putAt thaw thawL thawT V.ow f6 ew ez cY f5 cZ eu freezeVs freezeLs freezeL V.mut L.mut aJ fq i7 aM be aE dq bE bi bS L.ren aU dM cj dQ bT bC wp_seq wp_block bF eB db cg dd wp_skip wp_exit wp_ret cN cM cS cO dj dk di cq aW L.notArr aP aN aO eA bo storeD bc fR br cE bf nE L.mov L.closed V.closed PV.bare PV.flat
abbrev wN (w:XWorld)(bs:List XBucket):List L:=[.pv (.int .i64 w.now), .pv (.bool w.online), .pv (.int .i64 w.device),nd 24 (bs.map XBucket.e), .down 11 (w.pages.map XPage.e), .pv (.int .i64 w.nextPage), .down 4 (w.locks.locks.map XLock.e), .down 3 (w.channel.mails.map XMail.e),nd 4 (w.sites.map XSite.e),nd 5 (w.servers.map XServer.e)]
abbrev wO (w:XWorld)(bs:List XBucket):List L:=[.pv (.int .i64 w.now), .pv (.bool w.online), .pv (.int .i64 w.device),Ei 24 (bs.map XBucket.e), .own 11 (w.pages.map XPage.e), .pv (.int .i64 w.nextPage), .own 4 (w.locks.locks.map XLock.e), .own 3 (w.channel.mails.map XMail.e), .own 4 (w.sites.map XSite.e), .own 5 (w.servers.map XServer.e)]
def NR (w:XWorld)(s t:List UInt8):List XBucket×Bool:=match wq w,w.storage.buckets.findIdx? (IT s t)with
 |true,some j=>match w.storage.buckets[j]? with
  |some b=>(w.storage.buckets.set j {b with persistent:=true},true)
  |none=>(w.storage.buckets,false)
 |_,_=>(w.storage.buckets,false)
theorem PL {w:XWorld}(h:wq w=true):w.sites.map XSite.e≠[]∧w.servers.map XServer.e≠[]:=by
 unfold wq at h
 simp only[Bool.and_eq_true,beq_iff_eq]at h
 obtain⟨_,_,_,_,_,_,h7,h8,_⟩:=h
 exact⟨fun e=>by have:=congrArg List.length e;simp at this;rw[this]at h7;simp at h7,fun e=>by have:=congrArg List.length e;simp at this;rw[this]at h8;simp at h8⟩
theorem KO {bs:List XBucket}{j:Nat}(hj:j<bs.length):(bs.set j {bs[j]with persistent:=true}).map XBucket.e=(bs.map XBucket.e).set j ((bs[j]).e.set 23 (.bool true)):=by rw[List.map_set];rfl
theorem qP {w:XWorld}(h:w.Ok 1048576)(s t:List UInt8):ag Ph aG 619 [w.v,dS s,dS t]=some (.tup [(true,wN w (NR w s t).1),(false,[.pv (.bool (NR w s t).2)])]):=by
 have c0:=wi (Nat.le_refl 1048576) h
 have e1:=Au h
 have e2:=ot (bs:=w.storage.buckets) (Nat.le_trans h.2.2.1.1 (by unfold maxLen;omega)) s t
 unfold gB at e2
 unfold NR
 cases b1:wq w<;>rw[b1]at e1
 ·simp only
  generalize (match w.storage.buckets.findIdx? (IT s t)with|some i=>(i:Int)|none=> -1)=F at e2
  rcases eI 24 (w.storage.buckets.map XBucket.e)with⟨q3,u3⟩|⟨q3,u3⟩<;>rcases eI 4 (w.sites.map XSite.e)with⟨q8,u8⟩|⟨q8,u8⟩<;>rcases eI 5 (w.servers.map XServer.e)with⟨q9,u9⟩|⟨q9,u9⟩<;>rw[u3,u8,u9]at c0<;>(refine ae (fn:=dE) rfl ?_;simp(maxSteps:=9999999) [dE,c0,e1,e2,u3,u8,u9])
 obtain⟨n8,n9⟩:=PL b1
 cases b2:w.storage.buckets.findIdx? (IT s t)with
 |none=>
  rw[b2]at e2
  simp only at e2⊢
  have l0:dK (-1) 0=true:=rfl
  rcases eI 24 (w.storage.buckets.map XBucket.e)with⟨q3,u3⟩|⟨q3,u3⟩<;>rcases eI 4 (w.sites.map XSite.e)with⟨q8,u8⟩|⟨q8,u8⟩<;>rcases eI 5 (w.servers.map XServer.e)with⟨q9,u9⟩|⟨q9,u9⟩<;>first|exact absurd q8 n8|exact absurd q9 n9|(rw[u3,u8,u9]at c0;refine ae (fn:=dE) rfl ?_;simp(maxSteps:=9999999) [dE,c0,e1,e2,l0,u3,u8,u9])
 |some j=>
  rw[b2]at e2
  obtain⟨hj,_⟩:=List.findIdx?_eq_some_iff_getElem.1 b2
  simp only[hj,List.getElem?_eq_getElem]at e2⊢
  have hp:=KO hj
  have hx:=XBucket.e.eq_1 w.storage.buckets[j]
  rw[hx]at hp
  simp only[List.set_cons_succ,List.set_cons_zero]at hp
  have n3:w.storage.buckets.map XBucket.e≠[]:=fun e=>by have:=congrArg List.length e;simp at this;simp[this]at hj
  have n3':(w.storage.buckets.set j {w.storage.buckets[j]with persistent:=true}).map XBucket.e≠[]:=fun e=>by have:=congrArg List.length e;simp at this;simp[this]at hj
  have u3:=(eI 24 (w.storage.buckets.map XBucket.e)).resolve_left (fun q=>n3 q.1)
  have u3':=(eI 24 ((w.storage.buckets.set j {w.storage.buckets[j]with persistent:=true}).map XBucket.e)).resolve_left (fun q=>n3' q.1)
  have u8:=(eI 4 (w.sites.map XSite.e)).resolve_left (fun q=>n8 q.1)
  have u9:=(eI 5 (w.servers.map XServer.e)).resolve_left (fun q=>n9 q.1)
  rw[u3.2,u8.2,u9.2]at c0
  simp only[wN,u3'.2,u8.2,u9.2]
  rw[hp]
  generalize w.storage.buckets.set j {w.storage.buckets[j]with persistent:=true}=NB at hp
  refine ae (fn:=dE) rfl ?_
  simp(maxSteps:=9999999) [dE,c0,e1,e2,hj,hx,uy]
theorem qR {w:XWorld}(h:w.Ok 1048576)(s t:List UInt8):ag Ph aG 618 [w.v,dS s,dS t]=some (.tup [(true,wO w (NR w s t).1),(false,[.pv (.bool (NR w s t).2)])]):=by
 have c0:=AS (Nat.le_refl 1048576) h
 have e1:=AB h
 have e2:=oG (bs:=w.storage.buckets) (Nat.le_trans h.2.2.1.1 (by unfold maxLen;omega)) s t
 unfold gB at e2
 unfold NR
 cases b1:wq w<;>rw[b1]at e1
 ·simp only
  generalize (match w.storage.buckets.findIdx? (IT s t)with|some i=>(i:Int)|none=> -1)=F at e2
  rcases A0 24 (w.storage.buckets.map XBucket.e)with⟨q3,u3,u4⟩|⟨q3,u3,u4⟩<;>rw[u3]at c0<;>(refine ae (fn:=dF) rfl ?_;simp(maxSteps:=9999999) [dF,c0,e1,e2,u4])
 cases b2:w.storage.buckets.findIdx? (IT s t)with
 |none=>
  rw[b2]at e2
  simp only at e2⊢
  have l0:dK (-1) 0=true:=rfl
  rcases A0 24 (w.storage.buckets.map XBucket.e)with⟨q3,u3,u4⟩|⟨q3,u3,u4⟩<;>rw[u3]at c0<;>(refine ae (fn:=dF) rfl ?_;simp(maxSteps:=9999999) [dF,c0,e1,e2,l0,u4])
 |some j=>
  rw[b2]at e2
  obtain⟨hj,_⟩:=List.findIdx?_eq_some_iff_getElem.1 b2
  simp only[hj,List.getElem?_eq_getElem]at e2⊢
  have hp:=KO hj
  have hx:=XBucket.e.eq_1 w.storage.buckets[j]
  rw[hx]at hp
  simp only[List.set_cons_succ,List.set_cons_zero]at hp
  have n3:w.storage.buckets.map XBucket.e≠[]:=fun e=>by have:=congrArg List.length e;simp at this;simp[this]at hj
  have n3':(w.storage.buckets.set j {w.storage.buckets[j]with persistent:=true}).map XBucket.e≠[]:=fun e=>by have:=congrArg List.length e;simp at this;simp[this]at hj
  have u3:=(A0 24 (w.storage.buckets.map XBucket.e)).resolve_left (fun q=>n3 q.1)
  have u3':=(A0 24 ((w.storage.buckets.set j {w.storage.buckets[j]with persistent:=true}).map XBucket.e)).resolve_left (fun q=>n3' q.1)
  rw[u3.2.1]at c0
  simp only[wO,u3'.2.2]
  rw[hp]
  refine ae (fn:=dF) rfl ?_
  simp(maxSteps:=9999999) [dF,c0,e1,e2,hj,hx,uy]
end Gi
namespace Gi
open Go Go.RowKit
set_option maxHeartbeats 8000000
set_option maxRecDepth 8000
attribute [local simp] bu fm aj ah az aI bg bX Opd.ev put V.cells plain bn f9 isInt isStr isBool bin bD un asList L.view ap V.view viewL done aS av bx bP comp aK bt ai V.flat L.flat dL du bA putAt freezeVs freezeLs freezeL V.mut L.mut lent AObj.unz L.unsub pE sL jB rE kE wt PV.flat PV.bare jt AObj.zone pb thaw thawL thawT V.closed L.closed
def WR (c0:Int)(c1:Bool)(c2:Int)(c3 c4:List (List PV))(c5:Int)(c6 c7 c8 c9:List (List PV)):List PV:=[.int .i64 c0, .bool c1, .int .i64 c2, .lst c3, .lst c4, .int .i64 c5, .lst c6, .lst c7, .lst c8, .lst c9]
def WP (c0:Int)(c1:Bool)(c2:Int)(c3 c4:List (List PV))(c5:Int)(c6 c7 c8 c9:List (List PV)):List L:=[.pv (.int .i64 c0), .pv (.bool c1), .pv (.int .i64 c2), .pv (.lst c3), .pv (.lst c4), .pv (.int .i64 c5), .pv (.lst c6), .pv (.lst c7), .pv (.lst c8), .pv (.lst c9)]
theorem OJ (k:Int):bQ am [] k=([],k):=rfl
theorem Nw {c0 c2 c5 d0 d2 d5 l0:Int}{c1 d1 b:Bool}{c3 c4 c6 c7 c8 c9 d3 d4 d6 d7 d8 d9:List (List PV)}{s t:List UInt8}(h0:ba eT (WR c0 c1 c2 c3 c4 c5 c6 c7 c8 c9))(hs0:eO (WR c0 c1 c2 c3 c4 c5 c6 c7 c8 c9)≤1048576)(h1:ba eT (WR d0 d1 d2 d3 d4 d5 d6 d7 d8 d9))(hs1:eO (WR d0 d1 d2 d3 d4 d5 d6 d7 d8 d9)≤2097152)(m0:ag Ph aG 104 [.agg (WP c0 c1 c2 c3 c4 c5 c6 c7 c8 c9),aa .i64 1048576]=some (aa .i64 l0))(n0:¬l0<0)(ls:¬(1048576:Int)<s.length)(lt:¬(1048576:Int)<t.length)
 (e1:ag Ph aG 619 [.agg (WP c0 c1 c2 c3 c4 c5 c6 c7 c8 c9),dS s,dS t]=some (.tup [(true,[.pv (.int .i64 d0), .pv (.bool d1), .pv (.int .i64 d2),nd 24 d3, .down 11 d4, .pv (.int .i64 d5), .down 4 d6, .down 3 d7,nd 4 d8,nd 5 d9]),(false,[.pv (.bool b)])]))
 (e2:ag Ph aG 618 [.agg (WP c0 c1 c2 c3 c4 c5 c6 c7 c8 c9),dS s,dS t]=some (.tup [(true,[.pv (.int .i64 d0), .pv (.bool d1), .pv (.int .i64 d2),Ei 24 d3, .own 11 d4, .pv (.int .i64 d5), .own 4 d6, .own 3 d7, .own 4 d8, .own 5 d9]),(false,[.pv (.bool b)])])):ag Ph aG 610 [.agg (WP c0 c1 c2 c3 c4 c5 c6 c7 c8 c9),dS s,dS t]=some (au true):=by
 have to0:ag Ph aG 106 [.agg (WP c0 c1 c2 c3 c4 c5 c6 c7 c8 c9)]=some (.agg (gA eT (WR c0 c1 c2 c3 c4 c5 c6 c7 c8 c9))):=J6 (ext:=aG) _ h0 hs0
 have hset:(gA eT (WR c0 c1 c2 c3 c4 c5 c6 c7 c8 c9)).map du=WP c0 c1 c2 c3 c4 c5 c6 c7 c8 c9:=OQ h0
 have hcl:V.closed (.agg (gA eT (WR c0 c1 c2 c3 c4 c5 c6 c7 c8 c9)))=true:=rV h0
 have hth:∀hh,pb hh (.agg (gA eT (WR c0 c1 c2 c3 c4 c5 c6 c7 c8 c9)))=(.agg [.pv (.int .i64 c0), .pv (.bool c1), .pv (.int .i64 c2), .arr hh.length, .arr (hh.length+1), .pv (.int .i64 c5), .arr (hh.length+1+1), .arr (hh.length+1+1+1), .arr (hh.length+1+1+1+1), .arr (hh.length+1+1+1+1+1)],hh++[.zarr 24 c3, .zarr 11 c4, .zarr 4 c6, .zarr 3 c7, .zarr 4 c8, .zarr 5 c9]):=fun hh=>Ma h0 hh
 have eq0:ag Ph aG 108 [.agg (WP c0 c1 c2 c3 c4 c5 c6 c7 c8 c9), .agg (WP c0 c1 c2 c3 c4 c5 c6 c7 c8 c9)]=some (au true):=Bx (ext:=aG) _ h0
 have eq1:ag Ph aG 108 [.agg (WP d0 d1 d2 d3 d4 d5 d6 d7 d8 d9), .agg (WP d0 d1 d2 d3 d4 d5 d6 d7 d8 d9)]=some (au true):=Bx (ext:=aG) _ h1
 generalize gA eT (WR c0 c1 c2 c3 c4 c5 c6 c7 c8 c9)=OW at to0 hset hcl hth
 have cw:=sI am _ eT 1 h0 (by decide)
 have cw1:=sI am _ eT 1 h1 (by decide)
 have mw:=F5 (ext:=aG) _ h0 1 (by omega) (by unfold tC;omega)
 have hd:=FU (ext:=aG) _ h1 1 (by omega) (by unfold tC;omega)
 have cw0:=lD am (WR c0 c1 c2 c3 c4 c5 c6 c7 c8 c9) 1
 have cw2:=lD am (WR d0 d1 d2 d3 d4 d5 d6 d7 d8 d9) 1
 have hk1:(eY am (WR d0 d1 d2 d3 d4 d5 d6 d7 d8 d9) 1).2≤tC:=by unfold tC;omega
 have mg:=Rg h1 (k:=1) (by omega) hk1
 simp only[WR,WP,eT,GS,L9,eY,List.map_cons,List.map_nil]at m0 e1 e2 to0 hset hth eq0 eq1 mw hd cw0 cw2⊢
 have tl:dx.length=24∧iY.length=11∧iw.length=4∧ix.length=3∧iZ.length=4∧fA.length=5:=⟨rfl,rfl,rfl,rfl,rfl,rfl⟩
 simp only[tl]at mw
 clear cw cw1 h0 h1 hs0 hs1 hk1 tl
 rcases ES 24 d3 with⟨rfl,u3,v3,w3,o3⟩|⟨_,u3,v3,w3,o3⟩<;>rcases ES 4 d8 with⟨rfl,u8,v8,w8,o8⟩|⟨_,u8,v8,w8,o8⟩<;>rcases ES 5 d9 with⟨rfl,u9,v9,w9,o9⟩|⟨_,u9,v9,w9,o9⟩
 all_goals
  simp only[u3,u8,u9]at e1
  simp only[o3]at e2
  simp only[v3,v8,v9,w3,w8,w9]at mg
  (try simp only[OJ]at mg hd cw2)
  have hk:=Int.not_lt.2 (Int.le_trans (by decide:(0:Int)≤1) cw0)
  have hk2:=Int.not_lt.2 (Int.le_trans (by decide:(0:Int)≤1) cw2)
  refine eW (fn:=bm) rfl ?_
  simp[bm,m0,n0,ls,lt,to0,hset, ↓hcl, ↓hth,eq0,eq1,e1,e2,mw,mg,hd,hk,hk2]
end Gi
namespace Gi
open Go Go.RowKit
set_option maxHeartbeats 8000000
set_option maxRecDepth 8000
attribute [local simp] bu fm aj ah az aI bg bX Opd.ev put V.cells plain bn f9 isInt isStr isBool bin bD un asList L.view ap V.view viewL done aS av bx bP comp aK bt ai V.flat L.flat dL du bA putAt freezeVs freezeLs freezeL V.mut L.mut lent AObj.unz L.unsub pE sL jB rE kE wt PV.flat PV.bare jt AObj.zone
theorem OR {b:XBucket}(h:ba dx b.e):ba dx ({b with persistent:=true}:XBucket).e∧eO ({b with persistent:=true}:XBucket).e=eO b.e:=by
 refine⟨?_,by simp only[XBucket.e,eO,sz]⟩
 simp only[XBucket.e,dx,ba,ni]at h⊢
 exact h
theorem Df :∀{rows:List (List PV)}{j:Nat}{r:List PV}(hj:j<rows.length),eO r=eO rows[j]→cC (rows.set j r)=cC rows
 |x::rows,0,r,_,h=>by simp only[List.set_cons_zero,cC];simp only[List.getElem_cons_zero]at h;omega
 |x::rows,j+1,r,hj,h=>by
  have ih:=Df (rows:=rows) (j:=j) (r:=r) (by simpa using hj) (by simpa using h)
  simp only[List.set_cons_succ,cC,ih]
theorem OU {w:XWorld}{s t:List UInt8}(h:ni (.lst dx) (.lst (w.storage.buckets.map XBucket.e))):ni (.lst dx) (.lst ((NR w s t).1.map XBucket.e))∧sz (.lst ((NR w s t).1.map XBucket.e))=sz (.lst (w.storage.buckets.map XBucket.e)):=by
 unfold NR
 split
 ·split
  ·rename_i b hb
   obtain⟨hj,rfl⟩:=List.getElem?_eq_some_iff.1 hb
   obtain⟨h1,h2⟩:=aL h
   have hr:=OR (h2 _ (List.mem_map.2 ⟨_,List.getElem_mem hj,rfl⟩))
   rw[List.map_set,jJ,jJ,List.length_set,Df (by simpa using hj) (by simpa using hr.2)]
   refine⟨⟨by simpa using h1,fun r hr'=> ?_⟩,rfl⟩
   rcases List.mem_or_eq_of_mem_set hr' with m|rfl
   ·exact h2 r m
   ·exact hr.1
  ·exact⟨h,rfl⟩
 ·exact⟨h,rfl⟩
theorem wr {r0:List PV}{s1 s2:List UInt8}(h0:ba eT r0)(h1:ni .str (.str s1))(h2:ni .str (.str s2)):ag Ph aG 610 [.agg (r0.map .pv),dS s1,dS s2]=some (au true):=by
 obtain⟨w,rfl,hok⟩:=XWorld.of (B:=eO r0) r0 h0 (Nat.le_refl _)
 have m0:ag Ph aG 104 [.agg (WP w.now w.online w.device (w.storage.buckets.map XBucket.e) (w.pages.map XPage.e) w.nextPage (w.locks.locks.map XLock.e) (w.channel.mails.map XMail.e) (w.sites.map XSite.e) (w.servers.map XServer.e)),aa .i64 1048576]=some (aa .i64 (less 1048576 (eO w.e))):=JV (ext:=aG) _ h0 1048576 (by omega) (by omega)
 show ag Ph aG 610 [.agg (WP w.now w.online w.device (w.storage.buckets.map XBucket.e) (w.pages.map XPage.e) w.nextPage (w.locks.locks.map XLock.e) (w.channel.mails.map XMail.e) (w.sites.map XSite.e) (w.servers.map XServer.e)),dS s1,dS s2]=_
 by_cases b1:(1048576:Int)<s1.length
 ·refine eW (fn:=bm) rfl ?_
  simp[WP,bm,b1]
 by_cases b2:(1048576:Int)<s2.length
 ·refine eW (fn:=bm) rfl ?_
  simp[WP,bm,b1,b2]
 generalize q0:less 1048576 (eO w.e)=l0 at m0
 by_cases n0:l0<0
 ·refine eW (fn:=bm) rfl ?_
  simp only[WP]at m0
  simp[WP,bm,b1,b2,m0,n0]
 obtain⟨le0,hz0⟩:=Nx (by omega) q0 n0
 have hs0:eO w.e≤1048576:=by omega
 have hk:=XWorld.Ok.mono hs0 hok
 have e1:=qP hk s1 s2
 have e2:=qR hk s1 s2
 have h0':=h0
 simp only[XWorld.e,eT,ba]at h0'
 obtain⟨g0,g1,g2,g3,g4⟩:=h0'
 have sp:=OU (w:=w) (s:=s1) (t:=s2) g3
 refine Nw (d3:=(NR w s1 s2).1.map XBucket.e) (b:=(NR w s1 s2).2) h0 hs0 (d0:=w.now) (d1:=w.online) (d2:=w.device) (d4:=w.pages.map XPage.e) (d5:=w.nextPage) (d6:=w.locks.locks.map XLock.e) (d7:=w.channel.mails.map XMail.e) (d8:=w.sites.map XSite.e) (d9:=w.servers.map XServer.e) ?_ ?_ m0 n0 b1 b2 e1 e2
 ·simp only[WR,eT,ba]
  exact⟨g0,g1,g2,sp.1,g4⟩
 ·simp only[XWorld.e,eO]at hs0
  simp only[WR,eO,sp.2]
  omega
end Gi
