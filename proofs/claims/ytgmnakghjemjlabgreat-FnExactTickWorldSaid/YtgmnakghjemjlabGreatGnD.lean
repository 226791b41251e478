/- Of this proof. -/
import Derived.Test.YtgmnakghjemjlabGreatGmC
import Derived.Test.YtgmnakghjemjlabGreatGmA
import Derived.Test.YtgmnakghjemjlabGreatGkb
import Derived.Test.YtgmnakghjemjlabGreatGki
set_option linter.unusedSimpArgs false
set_option linter.unusedVariables false
namespace Gi
open Go Go.RowKit
set_option maxHeartbeats 8000000
set_option maxRecDepth 4000
attribute [local simp] bw ah aw aH bg bY Opd.ev put V.cells plain bo gr isInt isStr isBool bin bN oe od un asList L.view ap V.view viewL aU ar bz bP comp aK bu dz cr bD bB bC bx bc bU aO bH aS aX bJ bV bI bG bK V.flat L.flat dJ dk bt putAt thaw thawL thawT freezeVs freezeLs freezeL V.mut L.mut aJ aV dL ce dO bQ bF wp_seq wp_block n5 wp_cond wp_skip wp_exit wp_ret cK cI cS cL df dg de cq aW L.notArr aR aP aQ dY bp storeD a9 fT br cE bh nK L.mov L.closed V.closed PV.bare PV.flat
def hv (b0 b1 b2:AObj)(rest:List AObj)(z:Nat)(rows:List (List PV))(k:Nat):List AObj:=b0::b1::b2::(rest++[.darr z (rows.take k)])
theorem Br {B:Nat}(hB:B≤1048576){x:XWorld}(h:x.Ok B):ag Ph aE 433 [.agg [.pv (.int .i64 x.now), .pv (.bool x.online), .pv (.int .i64 x.device), .pv (.lst (x.storage.buckets.map XBucket.e)), .pv (.lst (x.pages.map XPage.e)), .pv (.int .i64 x.nextPage), .pv (.lst (x.locks.locks.map XLock.e)), .pv (.lst (x.channel.mails.map XMail.e)), .pv (.lst (x.sites.map XSite.e)), .pv (.lst (x.servers.map XServer.e))]]=some (.agg [.pv (.int .i64 x.now), .pv (.bool x.online), .pv (.int .i64 x.device),nd 24 (x.storage.buckets.map XBucket.e), .down 11 (x.pages.map XPage.e), .pv (.int .i64 x.nextPage), .down 4 (x.locks.locks.map XLock.e), .down 3 (x.channel.mails.map XMail.e), .down 4 (x.sites.map XSite.e), .down 5 (x.servers.map XServer.e)]):=by
 obtain⟨h_now,h_device,h_storage,h_pages,h_nextPage,h_locks,h_channel,h_sites,h_servers⟩:=h
 have c0:=Bp hB h_storage
 have c2:=Bm hB h_locks
 have c3:=Bn hB h_channel
 have e_pages:∀k(hk:k<x.pages.length),_:=fun k hk=>Bh hB (h_pages.2 _ (List.getElem_mem hk))
 have hl_pages:x.pages.length≤1048576:=Nat.le_trans h_pages.1 hB
 have e_sites:∀k(hk:k<x.sites.length),_:=fun k hk=>Bf hB (h_sites.2 _ (List.getElem_mem hk))
 have hl_sites:x.sites.length≤1048576:=Nat.le_trans h_sites.1 hB
 have e_servers:∀k(hk:k<x.servers.length),_:=fun k hk=>Bj hB (h_servers.2 _ (List.getElem_mem hk))
 have hl_servers:x.servers.length≤1048576:=Nat.le_trans h_servers.1 hB
 clear h_now h_device h_storage h_pages h_nextPage h_locks h_channel h_sites h_servers
 have N:=eG 24 (x.storage.buckets.map XBucket.e)
 generalize nd 24 (x.storage.buckets.map XBucket.e)=n at N c0⊢
 rcases N with⟨-,rfl⟩|⟨-,rfl⟩
 ·refine ae (fn:=ju) rfl ?_
  simp[ju,c0,c2,c3]
  refine cF aT Cl.fin x.pages.length [.f,.t,.t,.t,.t,.f,.f,.f,.f,.f,.f,.f,.f,.f,.f,.f,.f,.f,.f,.f,.f,.f,.f,.f,.f,.f,.f,.f,.f,.f,.f,.f,.f,.f,.f,.f,.f,.f,.f,.f,.f,.f,.f,.f,.f,.f,.f,.f,.f,.f,.f,.f,.f,.f,.f,.f,.f,.f,.f,.f,.f,.f,.f,.f,.f,.f,.f,.f,.f,.f,.f,.f,.f,.f,.f,.f,.f,.f,.f,.f,.f] (fun k=>[(4,aa .i64 k)]) (hv (.box [.pv (.int .i64 x.now), .pv (.bool x.online), .pv (.int .i64 x.device), .pv (.lst (x.storage.buckets.map XBucket.e)), .pv (.lst (x.pages.map XPage.e)), .pv (.int .i64 x.nextPage), .pv (.lst (x.locks.locks.map XLock.e)), .pv (.lst (x.channel.mails.map XMail.e)), .pv (.lst (x.sites.map XSite.e)), .pv (.lst (x.servers.map XServer.e))]) (.box [.pv (.int .i64 0), .pv (.bool false), .pv (.int .i64 0), .nil, .nil, .pv (.int .i64 0), .nil, .nil, .nil, .nil]) (.box [.pv (.int .i64 x.now), .pv (.bool x.online), .pv (.int .i64 x.device), .nil, .arr 3, .pv (.int .i64 x.nextPage), .pv (.lst (x.locks.locks.map XLock.e)), .pv (.lst (x.channel.mails.map XMail.e)), .pv (.lst (x.sites.map XSite.e)), .pv (.lst (x.servers.map XServer.e))]) [] 11 (x.pages.map XPage.e)) rfl ?_ ?_ ?_
  ·exact Kn.q [0,1,2,3] (by simp[hv,List.cons_append,List.nil_append,List.take_zero,aR,aP,aQ,dY,bp,aN,be,aG,dv,bM,bi,bS,L.ren,aS])
  ·intro k hk
   have ek:=e_pages k hk
   have hx:=XPage.e.eq_1 x.pages[k]
   have ht:=bW (e:=XPage.e) hk
   rw[hx]at ht
   cases k with
   |zero=>
    simp only[hv,List.cons_append,List.nil_append,List.take_zero,ht]
    simp[du,hk,hx,ek,bX]
    exact Kn.q [0,1,2,8]
   |succ k=>
    obtain⟨i1,i2,i3,i4,i5,i6⟩:=mZ (n:=x.pages.length) (by unfold maxLen;omega) hk
    have m1:=eF (m:=k+1+1) (z:=144) (by omega) (by omega)
    simp only[hv,List.cons_append,List.nil_append,List.take_zero,ht]
    generalize hT:List.take (k+1) _=T
    have hTl:T.length=k+1:=by rw[←hT];simp;omega
    simp[du,hk,hx,ek,i1,i2,i3,i4,i5,i6,hTl,m1]
    exact Kn.q [0,1,2,8]
  have hT0:(x.pages.map XPage.e).take x.pages.length=(x.pages.map XPage.e):=List.take_of_length_le (by simp)
  simp only[hv,hT0,List.cons_append,List.nil_append]
  simp[du,c2,c3]
  refine cF aT Cl.fin x.sites.length [.f,.t,.t,.t,.f,.t,.f,.f,.f,.f,.f,.f,.f,.f,.f,.f,.f,.f,.f,.f,.f,.f,.f,.f,.f,.f,.f,.f,.f,.f,.f,.f,.f,.f,.f,.f,.f,.f,.f,.f,.f,.f,.f,.f,.f,.f,.f,.f,.f,.f,.f,.f,.f,.f,.f,.f,.f,.f,.f,.f,.f,.f,.f,.f,.f,.f,.f,.f,.f,.f,.f,.f,.f,.f,.f,.f,.f,.f,.f,.f,.f] (fun k=>[(5,aa .i64 k)]) (hv (.box [.pv (.int .i64 x.now), .pv (.bool x.online), .pv (.int .i64 x.device), .pv (.lst (x.storage.buckets.map XBucket.e)), .pv (.lst (x.pages.map XPage.e)), .pv (.int .i64 x.nextPage), .pv (.lst (x.locks.locks.map XLock.e)), .pv (.lst (x.channel.mails.map XMail.e)), .pv (.lst (x.sites.map XSite.e)), .pv (.lst (x.servers.map XServer.e))]) (.box [.pv (.int .i64 0), .pv (.bool false), .pv (.int .i64 0), .nil, .nil, .pv (.int .i64 0), .nil, .nil, .nil, .nil]) (.box [.pv (.int .i64 x.now), .pv (.bool x.online), .pv (.int .i64 x.device), .nil, .arr 3, .pv (.int .i64 x.nextPage), .arr 4, .arr 5, .arr 6, .pv (.lst (x.servers.map XServer.e))]) [.darr 11 (x.pages.map XPage.e), .darr 4 (x.locks.locks.map XLock.e), .darr 3 (x.channel.mails.map XMail.e)] 4 (x.sites.map XSite.e)) rfl ?_ ?_ ?_
  ·exact Kn.q [0,1,2,3,4,5,6] (by simp[hv,List.cons_append,List.nil_append,List.take_zero,aR,aP,aQ,dY,bp,aN,be,aG,dv,bM,bi,bS,L.ren,aS])
  ·intro k hk
   have ek:=e_sites k hk
   have hx:=XSite.e.eq_1 x.sites[k]
   have ht:=bW (e:=XSite.e) hk
   rw[hx]at ht
   cases k with
   |zero=>
    simp only[hv,List.cons_append,List.nil_append,List.take_zero,ht]
    simp[dN,hk,hx,ek,bX]
    exact Kn.q [0,1,2,3,4,5,9]
   |succ k=>
    obtain⟨i1,i2,i3,i4,i5,i6⟩:=mZ (n:=x.sites.length) (by unfold maxLen;omega) hk
    have m1:=eF (m:=k+1+1) (z:=56) (by omega) (by omega)
    simp only[hv,List.cons_append,List.nil_append,List.take_zero,ht]
    generalize hT:List.take (k+1) _=T
    have hTl:T.length=k+1:=by rw[←hT];simp;omega
    simp[dN,hk,hx,ek,i1,i2,i3,i4,i5,i6,hTl,m1]
    exact Kn.q [0,1,2,3,4,5,9]
  have hT1:(x.sites.map XSite.e).take x.sites.length=(x.sites.map XSite.e):=List.take_of_length_le (by simp)
  simp only[hv,hT1,List.cons_append,List.nil_append]
  simp[dN]
  refine cF aT Cl.fin x.servers.length [.f,.t,.t,.t,.f,.f,.t,.f,.f,.f,.f,.f,.f,.f,.f,.f,.f,.f,.f,.f,.f,.f,.f,.f,.f,.f,.f,.f,.f,.f,.f,.f,.f,.f,.f,.f,.f,.f,.f,.f,.f,.f,.f,.f,.f,.f,.f,.f,.f,.f,.f,.f,.f,.f,.f,.f,.f,.f,.f,.f,.f,.f,.f,.f,.f,.f,.f,.f,.f,.f,.f,.f,.f,.f,.f,.f,.f,.f,.f,.f,.f] (fun k=>[(6,aa .i64 k)]) (hv (.box [.pv (.int .i64 x.now), .pv (.bool x.online), .pv (.int .i64 x.device), .pv (.lst (x.storage.buckets.map XBucket.e)), .pv (.lst (x.pages.map XPage.e)), .pv (.int .i64 x.nextPage), .pv (.lst (x.locks.locks.map XLock.e)), .pv (.lst (x.channel.mails.map XMail.e)), .pv (.lst (x.sites.map XSite.e)), .pv (.lst (x.servers.map XServer.e))]) (.box [.pv (.int .i64 0), .pv (.bool false), .pv (.int .i64 0), .nil, .nil, .pv (.int .i64 0), .nil, .nil, .nil, .nil]) (.box [.pv (.int .i64 x.now), .pv (.bool x.online), .pv (.int .i64 x.device), .nil, .arr 3, .pv (.int .i64 x.nextPage), .arr 4, .arr 5, .arr 6, .arr 7]) [.darr 11 (x.pages.map XPage.e), .darr 4 (x.locks.locks.map XLock.e), .darr 3 (x.channel.mails.map XMail.e), .darr 4 (x.sites.map XSite.e)] 5 (x.servers.map XServer.e)) rfl ?_ ?_ ?_
  ·exact Kn.q [0,1,2,3,4,5,6,7] (by simp[hv,List.cons_append,List.nil_append,List.take_zero,aR,aP,aQ,dY,bp,aN,be,aG,dv,bM,bi,bS,L.ren,aS])
  ·intro k hk
   have ek:=e_servers k hk
   have hx:=XServer.e.eq_1 x.servers[k]
   have ht:=bW (e:=XServer.e) hk
   rw[hx]at ht
   have N0:=eG 4 (x.servers[k].store.items.map XItem.e)
   generalize nd 4 (x.servers[k].store.items.map XItem.e)=n0 at N0 ek
   cases k with
   |zero=>
    simp only[hv,List.cons_append,List.nil_append,List.take_zero,ht]
    rcases N0 with⟨q0,rfl⟩|⟨q0,rfl⟩
    ·simp only[q0]at ek
     simp[cz,hk,hx,ek,bX,q0]
     exact Kn.q [0,1,2,3,4,5,6,11]
    ·simp[cz,hk,hx,ek,bX]
     exact Kn.q [0,1,2,3,4,5,6,12]
   |succ k=>
    obtain⟨i1,i2,i3,i4,i5,i6⟩:=mZ (n:=x.servers.length) (by unfold maxLen;omega) hk
    have m1:=eF (m:=k+1+1) (z:=96) (by omega) (by omega)
    simp only[hv,List.cons_append,List.nil_append,List.take_zero,ht]
    generalize hT:List.take (k+1) _=T
    have hTl:T.length=k+1:=by rw[←hT];simp;omega
    rcases N0 with⟨q0,rfl⟩|⟨q0,rfl⟩
    ·simp only[q0]at ek
     simp[cz,hk,hx,ek,i1,i2,i3,i4,i5,i6,hTl,m1,q0]
     exact Kn.q [0,1,2,3,4,5,6,11]
    ·simp[cz,hk,hx,ek,i1,i2,i3,i4,i5,i6,hTl,m1]
     exact Kn.q [0,1,2,3,4,5,6,12]
  have hT2:(x.servers.map XServer.e).take x.servers.length=(x.servers.map XServer.e):=List.take_of_length_le (by simp)
  simp only[hv,hT2,List.cons_append,List.nil_append]
  simp[cz]
 ·refine ae (fn:=ju) rfl ?_
  simp[ju,c0,c2,c3]
  refine cF aT Cl.fin x.pages.length [.f,.t,.t,.t,.t,.f,.f,.f,.f,.f,.f,.f,.f,.f,.f,.f,.f,.f,.f,.f,.f,.f,.f,.f,.f,.f,.f,.f,.f,.f,.f,.f,.f,.f,.f,.f,.f,.f,.f,.f,.f,.f,.f,.f,.f,.f,.f,.f,.f,.f,.f,.f,.f,.f,.f,.f,.f,.f,.f,.f,.f,.f,.f,.f,.f,.f,.f,.f,.f,.f,.f,.f,.f,.f,.f,.f,.f,.f,.f,.f,.f] (fun k=>[(4,aa .i64 k)]) (hv (.box [.pv (.int .i64 x.now), .pv (.bool x.online), .pv (.int .i64 x.device), .pv (.lst (x.storage.buckets.map XBucket.e)), .pv (.lst (x.pages.map XPage.e)), .pv (.int .i64 x.nextPage), .pv (.lst (x.locks.locks.map XLock.e)), .pv (.lst (x.channel.mails.map XMail.e)), .pv (.lst (x.sites.map XSite.e)), .pv (.lst (x.servers.map XServer.e))]) (.box [.pv (.int .i64 0), .pv (.bool false), .pv (.int .i64 0), .nil, .nil, .pv (.int .i64 0), .nil, .nil, .nil, .nil]) (.box [.pv (.int .i64 x.now), .pv (.bool x.online), .pv (.int .i64 x.device), .arr 3, .arr 4, .pv (.int .i64 x.nextPage), .pv (.lst (x.locks.locks.map XLock.e)), .pv (.lst (x.channel.mails.map XMail.e)), .pv (.lst (x.sites.map XSite.e)), .pv (.lst (x.servers.map XServer.e))]) [.darr 24 (x.storage.buckets.map XBucket.e)] 11 (x.pages.map XPage.e)) rfl ?_ ?_ ?_
  ·exact Kn.q [0,1,2,3,4] (by simp[hv,List.cons_append,List.nil_append,List.take_zero,aR,aP,aQ,dY,bp,aN,be,aG,dv,bM,bi,bS,L.ren,aS])
  ·intro k hk
   have ek:=e_pages k hk
   have hx:=XPage.e.eq_1 x.pages[k]
   have ht:=bW (e:=XPage.e) hk
   rw[hx]at ht
   cases k with
   |zero=>
    simp only[hv,List.cons_append,List.nil_append,List.take_zero,ht]
    simp[du,hk,hx,ek,bX]
    exact Kn.q [0,1,2,3,9]
   |succ k=>
    obtain⟨i1,i2,i3,i4,i5,i6⟩:=mZ (n:=x.pages.length) (by unfold maxLen;omega) hk
    have m1:=eF (m:=k+1+1) (z:=144) (by omega) (by omega)
    simp only[hv,List.cons_append,List.nil_append,List.take_zero,ht]
    generalize hT:List.take (k+1) _=T
    have hTl:T.length=k+1:=by rw[←hT];simp;omega
    simp[du,hk,hx,ek,i1,i2,i3,i4,i5,i6,hTl,m1]
    exact Kn.q [0,1,2,3,9]
  have hT0:(x.pages.map XPage.e).take x.pages.length=(x.pages.map XPage.e):=List.take_of_length_le (by simp)
  simp only[hv,hT0,List.cons_append,List.nil_append]
  simp[du,c2,c3]
  refine cF aT Cl.fin x.sites.length [.f,.t,.t,.t,.f,.t,.f,.f,.f,.f,.f,.f,.f,.f,.f,.f,.f,.f,.f,.f,.f,.f,.f,.f,.f,.f,.f,.f,.f,.f,.f,.f,.f,.f,.f,.f,.f,.f,.f,.f,.f,.f,.f,.f,.f,.f,.f,.f,.f,.f,.f,.f,.f,.f,.f,.f,.f,.f,.f,.f,.f,.f,.f,.f,.f,.f,.f,.f,.f,.f,.f,.f,.f,.f,.f,.f,.f,.f,.f,.f,.f] (fun k=>[(5,aa .i64 k)]) (hv (.box [.pv (.int .i64 x.now), .pv (.bool x.online), .pv (.int .i64 x.device), .pv (.lst (x.storage.buckets.map XBucket.e)), .pv (.lst (x.pages.map XPage.e)), .pv (.int .i64 x.nextPage), .pv (.lst (x.locks.locks.map XLock.e)), .pv (.lst (x.channel.mails.map XMail.e)), .pv (.lst (x.sites.map XSite.e)), .pv (.lst (x.servers.map XServer.e))]) (.box [.pv (.int .i64 0), .pv (.bool false), .pv (.int .i64 0), .nil, .nil, .pv (.int .i64 0), .nil, .nil, .nil, .nil]) (.box [.pv (.int .i64 x.now), .pv (.bool x.online), .pv (.int .i64 x.device), .arr 3, .arr 4, .pv (.int .i64 x.nextPage), .arr 5, .arr 6, .arr 7, .pv (.lst (x.servers.map XServer.e))]) [.darr 24 (x.storage.buckets.map XBucket.e), .darr 11 (x.pages.map XPage.e), .darr 4 (x.locks.locks.map XLock.e), .darr 3 (x.channel.mails.map XMail.e)] 4 (x.sites.map XSite.e)) rfl ?_ ?_ ?_
  ·exact Kn.q [0,1,2,3,4,5,6,7] (by simp[hv,List.cons_append,List.nil_append,List.take_zero,aR,aP,aQ,dY,bp,aN,be,aG,dv,bM,bi,bS,L.ren,aS])
  ·intro k hk
   have ek:=e_sites k hk
   have hx:=XSite.e.eq_1 x.sites[k]
   have ht:=bW (e:=XSite.e) hk
   rw[hx]at ht
   cases k with
   |zero=>
    simp only[hv,List.cons_append,List.nil_append,List.take_zero,ht]
    simp[dN,hk,hx,ek,bX]
    exact Kn.q [0,1,2,3,4,5,6,10]
   |succ k=>
    obtain⟨i1,i2,i3,i4,i5,i6⟩:=mZ (n:=x.sites.length) (by unfold maxLen;omega) hk
    have m1:=eF (m:=k+1+1) (z:=56) (by omega) (by omega)
    simp only[hv,List.cons_append,List.nil_append,List.take_zero,ht]
    generalize hT:List.take (k+1) _=T
    have hTl:T.length=k+1:=by rw[←hT];simp;omega
    simp[dN,hk,hx,ek,i1,i2,i3,i4,i5,i6,hTl,m1]
    exact Kn.q [0,1,2,3,4,5,6,10]
  have hT1:(x.sites.map XSite.e).take x.sites.length=(x.sites.map XSite.e):=List.take_of_length_le (by simp)
  simp only[hv,hT1,List.cons_append,List.nil_append]
  simp[dN]
  refine cF aT Cl.fin x.servers.length [.f,.t,.t,.t,.f,.f,.t,.f,.f,.f,.f,.f,.f,.f,.f,.f,.f,.f,.f,.f,.f,.f,.f,.f,.f,.f,.f,.f,.f,.f,.f,.f,.f,.f,.f,.f,.f,.f,.f,.f,.f,.f,.f,.f,.f,.f,.f,.f,.f,.f,.f,.f,.f,.f,.f,.f,.f,.f,.f,.f,.f,.f,.f,.f,.f,.f,.f,.f,.f,.f,.f,.f,.f,.f,.f,.f,.f,.f,.f,.f,.f] (fun k=>[(6,aa .i64 k)]) (hv (.box [.pv (.int .i64 x.now), .pv (.bool x.online), .pv (.int .i64 x.device), .pv (.lst (x.storage.buckets.map XBucket.e)), .pv (.lst (x.pages.map XPage.e)), .pv (.int .i64 x.nextPage), .pv (.lst (x.locks.locks.map XLock.e)), .pv (.lst (x.channel.mails.map XMail.e)), .pv (.lst (x.sites.map XSite.e)), .pv (.lst (x.servers.map XServer.e))]) (.box [.pv (.int .i64 0), .pv (.bool false), .pv (.int .i64 0), .nil, .nil, .pv (.int .i64 0), .nil, .nil, .nil, .nil]) (.box [.pv (.int .i64 x.now), .pv (.bool x.online), .pv (.int .i64 x.device), .arr 3, .arr 4, .pv (.int .i64 x.nextPage), .arr 5, .arr 6, .arr 7, .arr 8]) [.darr 24 (x.storage.buckets.map XBucket.e), .darr 11 (x.pages.map XPage.e), .darr 4 (x.locks.locks.map XLock.e), .darr 3 (x.channel.mails.map XMail.e), .darr 4 (x.sites.map XSite.e)] 5 (x.servers.map XServer.e)) rfl ?_ ?_ ?_
  ·exact Kn.q [0,1,2,3,4,5,6,7,8] (by simp[hv,List.cons_append,List.nil_append,List.take_zero,aR,aP,aQ,dY,bp,aN,be,aG,dv,bM,bi,bS,L.ren,aS])
  ·intro k hk
   have ek:=e_servers k hk
   have hx:=XServer.e.eq_1 x.servers[k]
   have ht:=bW (e:=XServer.e) hk
   rw[hx]at ht
   have N0:=eG 4 (x.servers[k].store.items.map XItem.e)
   generalize nd 4 (x.servers[k].store.items.map XItem.e)=n0 at N0 ek
   cases k with
   |zero=>
    simp only[hv,List.cons_append,List.nil_append,List.take_zero,ht]
    rcases N0 with⟨q0,rfl⟩|⟨q0,rfl⟩
    ·simp only[q0]at ek
     simp[cz,hk,hx,ek,bX,q0]
     exact Kn.q [0,1,2,3,4,5,6,7,12]
    ·simp[cz,hk,hx,ek,bX]
     exact Kn.q [0,1,2,3,4,5,6,7,13]
   |succ k=>
    obtain⟨i1,i2,i3,i4,i5,i6⟩:=mZ (n:=x.servers.length) (by unfold maxLen;omega) hk
    have m1:=eF (m:=k+1+1) (z:=96) (by omega) (by omega)
    simp only[hv,List.cons_append,List.nil_append,List.take_zero,ht]
    generalize hT:List.take (k+1) _=T
    have hTl:T.length=k+1:=by rw[←hT];simp;omega
    rcases N0 with⟨q0,rfl⟩|⟨q0,rfl⟩
    ·simp only[q0]at ek
     simp[cz,hk,hx,ek,i1,i2,i3,i4,i5,i6,hTl,m1,q0]
     exact Kn.q [0,1,2,3,4,5,6,7,12]
    ·simp[cz,hk,hx,ek,i1,i2,i3,i4,i5,i6,hTl,m1]
     exact Kn.q [0,1,2,3,4,5,6,7,13]
  have hT2:(x.servers.map XServer.e).take x.servers.length=(x.servers.map XServer.e):=List.take_of_length_le (by simp)
  simp only[hv,hT2,List.cons_append,List.nil_append]
  simp[cz]
end Gi
namespace Gi
open Go Go.RowKit
set_option maxHeartbeats 8000000
set_option maxRecDepth 4000
attribute [local simp] bw rW bg bY dS fY dR fX f7 f6 um uB uo uC uq uD ur uE ut uF uu uG uw uH uy uI uz uJ V.cells plain bo gr isInt isStr isBool bin cT jF cU jG fZ un asList L.view ap V.view viewL aU ar cX bZ bP comp aK bu dz cr bD bB bC bx bc bU aO bH aS aX bJ bV bI bG bK V.flat L.flat dJ dk bt putAt thaw thawL thawT V.ow f5 dW dX cV f4 cW dV freezeVs freezeLs freezeL V.mut L.mut aJ cG iK aN be aG dv bM bi bS L.ren aV dL ce dO bQ bF wp_seq wp_block bA ed cY ca cZ wp_skip wp_exit wp_ret cK cI cS cL df dg de cq aW L.notArr aR aP aQ dZ bp storeD a9 fT br cE bh nK L.mov L.closed V.closed PV.bare PV.flat
abbrev wN (w:XWorld)(bs:List XBucket):List L:=[.pv (.int .i64 w.now), .pv (.bool w.online), .pv (.int .i64 w.device),nd 24 (bs.map XBucket.e), .down 11 (w.pages.map XPage.e), .pv (.int .i64 w.nextPage), .down 4 (w.locks.locks.map XLock.e), .down 3 (w.channel.mails.map XMail.e),nd 4 (w.sites.map XSite.e),nd 5 (w.servers.map XServer.e)]
abbrev wO (w:XWorld)(bs:List XBucket):List L:=[.pv (.int .i64 w.now), .pv (.bool w.online), .pv (.int .i64 w.device),A8 24 (bs.map XBucket.e), .own 11 (w.pages.map XPage.e), .pv (.int .i64 w.nextPage), .own 4 (w.locks.locks.map XLock.e), .own 3 (w.channel.mails.map XMail.e), .own 4 (w.sites.map XSite.e), .own 5 (w.servers.map XServer.e)]
theorem Qr {w:XWorld}(h:pG w=true):w.sites.map XSite.e≠[]∧w.servers.map XServer.e≠[]:=by
 unfold pG at h
 simp only[Bool.and_eq_true,beq_iff_eq]at h
 obtain⟨_,_,_,_,_,_,h7,h8,_⟩:=h
 exact⟨fun e=>by have:=congrArg List.length e;simp at this;rw[this]at h7;simp at h7,fun e=>by have:=congrArg List.length e;simp at this;rw[this]at h8;simp at h8⟩
end Gi
namespace Gi
open Go Go.RowKit
set_option maxHeartbeats 8000000
set_option maxRecDepth 8000
attribute [local simp] bw fm aj ah aw aH bg bY Opd.ev put V.cells plain bo gr isInt isStr isBool bin bN un asList L.view ap V.view viewL done aU ar bz bP comp aK bu ai V.flat L.flat dJ dk bt putAt freezeVs freezeLs freezeL V.mut L.mut lent AObj.unz L.unsub oX rh jn ru jY ub PV.flat PV.bare jg AObj.zone pk thaw thawL thawT V.closed L.closed
def WR (c0:Int)(c1:Bool)(c2:Int)(c3 c4:List (List PV))(c5:Int)(c6 c7 c8 c9:List (List PV)):List PV:=[.int .i64 c0, .bool c1, .int .i64 c2, .lst c3, .lst c4, .int .i64 c5, .lst c6, .lst c7, .lst c8, .lst c9]
def WP (c0:Int)(c1:Bool)(c2:Int)(c3 c4:List (List PV))(c5:Int)(c6 c7 c8 c9:List (List PV)):List L:=[.pv (.int .i64 c0), .pv (.bool c1), .pv (.int .i64 c2), .pv (.lst c3), .pv (.lst c4), .pv (.int .i64 c5), .pv (.lst c6), .pv (.lst c7), .pv (.lst c8), .pv (.lst c9)]
theorem Pt (k:Int):bR ak [] k=([],k):=rfl
end Gi
namespace Gi
open Go Go.RowKit
set_option maxHeartbeats 8000000
set_option maxRecDepth 4000
attribute [local simp] bw rW bg bY dS fY dR fX f7 f6 um uB uo uC uq uD ur uE ut uF uu uG uw uH uy uI uz uJ V.cells plain bo gr isInt isStr isBool bin cT jF cU jG fZ un asList L.view ap V.view viewL aU ar cX bZ bP comp aK bu dz cr bD bB bC bx bc bU aO bH aS aX bJ bV bI bG bK V.flat L.flat dJ dk bt putAt thaw thawL thawT V.ow f5 dW dX cV f4 cW dV freezeVs freezeLs freezeL V.mut L.mut aJ cG iK aN be aG dv bM bi bS L.ren aV dL ce dO bQ bF wp_seq wp_block bA ed cY ca cZ wp_skip wp_exit wp_ret cK cI cS cL df dg de cq aW L.notArr aR aP aQ dZ bp storeD a9 fT br cE bh nK L.mov L.closed V.closed PV.bare PV.flat
def HD (now:Int):Int:=cond (dA now (-1000000000000)) now (IntKind.i64.wrap (now-30))
def J1 (s t:List UInt8)(p:XPage):Bool:=p.site==s&&p.top==t
def A5 (b:XBucket)(ps:List XPage)(now:Int):Bool:=dA b.lastUsed (HD now)&&(!b.persistent&&(!(dA 0 b.replica.sync.outbox.writes.length)&& !(fA ps.length (io (J1 b.site b.top) ps))))
theorem NZ {α:Type}(p:α→Bool)(xs:List α):(!(dA (ib p xs) 0))=fA xs.length (io p xs):=by
 rcases K0 p xs with h|⟨j,hj,h1,h2⟩
 ·rw[h,lY (by omega)]
  refine(Jw fun j hj=> ?_).symm
  have:=KZ h _ (List.getElem_mem hj)
  simp only[io,List.getElem?_eq_getElem hj];exact this
 ·rw[h1,ud (by omega)]
  refine(Jx hj ?_).symm
  simp only[io,List.getElem?_eq_getElem hj];exact h2
theorem tE (b:XBucket){ps:List XPage}(hl:ps.length≤maxLen)(now:Int):ag Ph aE 655 [b.v,bm (ps.map XPage.e),aa .i64 now]=some (au (A5 b ps now)):=by
 have hb:=XBucket.e.eq_1 b
 have e1:=Dc (e:=XPage.e) (p:=J1 b.site b.top) (xs:=ps) (k:=658) (z:=11) (kc:=684) (caps:=[b.e]) rfl hl (fun _=>rfl) (fun x _=>by
  refine ae (fn:=jp) rfl ?_
  simp +contextual (maxSteps:=9999999) [jp,XPage.e.eq_1,hb,F4,J1])
 rw[hb]at e1
 have e2:ag Ph aE 683 [bm (ps.map XPage.e), .one (.fn 684 [b.e])]=some (au (fA ps.length (io (J1 b.site b.top) ps))):=by
  rw[←NZ,hb]
  refine ae (fn:=di) rfl ?_
  simp(maxSteps:=9999999) [di,e1]
 rw[hb]at e2
 unfold A5 HD
 generalize fA ps.length (io (J1 b.site b.top) ps)=A at e2⊢
 refine ae (fn:=cH) rfl ?_
 cases c1:dA now (-1000000000000)
 ·cases c2:dA b.lastUsed (IntKind.i64.wrap (now-30))
  ·simp(maxSteps:=9999999) [cH,c1,c2,cond_false]
  cases c3:b.persistent
  rotate_left
  ·simp(maxSteps:=9999999) [cH,c1,c2,c3]
  cases c4:dA 0 b.replica.sync.outbox.writes.length
  rotate_left
  ·simp(maxSteps:=9999999) [cH,c1,c2,c3,c4]
  rw[c3]at e2
  simp(maxSteps:=9999999) [cH,c1,c2,c3,c4,kE,pB,e2]
 ·cases c2:dA b.lastUsed now
  ·simp(maxSteps:=9999999) [cH,c1,c2]
  cases c3:b.persistent
  rotate_left
  ·simp(maxSteps:=9999999) [cH,c1,c2,c3]
  cases c4:dA 0 b.replica.sync.outbox.writes.length
  rotate_left
  ·simp(maxSteps:=9999999) [cH,c1,c2,c3,c4]
  rw[c3]at e2
  simp(maxSteps:=9999999) [cH,c1,c2,c3,c4,kE,pB,e2]
theorem Bo (now:Int):ag Ph aE 682 [aa .i64 now]=some (aa .i64 (HD now)):=by
 unfold HD
 refine ae (fn:=oO) rfl ?_
 cases c1:dA now (-1000000000000)<;>simp(maxSteps:=9999999) [oO,c1]
theorem tQ (b:XBucket){ps:List XPage}(hl:ps.length≤maxLen)(now:Int):ag Ph aE 654 [b.v,bm (ps.map XPage.e),aa .i64 now]=some (au (A5 b ps now)):=by
 have e1:=Bo now
 unfold A5
 generalize HD now=L at e1⊢
 refine ae (fn:=kT) rfl ?_
 simp +contextual (maxSteps:=9999999) [kT]
 refine aC aT Cl.fin [.f,.t,.t,.t,.f,.f,.f,.t,.f,.f,.f,.f,.f,.f,.f,.f,.f,.f,.f,.f,.f,.f,.f,.f,.f,.f,.f,.f,.f,.f,.f,.f,.f,.f,.f,.f,.f,.f,.f,.f,.f,.f,.f,.f,.f,.f,.f,.f,.f,.f,.f] (fun k=>[(7,aa .i64 k)]) ps.length (io (J1 b.site b.top) ps) rfl (by simp) (fun k hk _=> ?_) (fun _ hp=> ?_)
 ·simp +contextual (maxSteps:=9999999) [eA,io,J1,hk,XPage.e.eq_1 ps[k],aF hl hk,aY hk]
 ·have h0:(((b.replica.sync.outbox.writes.length:Nat):Int)==0)= !(dA 0 b.replica.sync.outbox.writes.length):=by
   unfold dA
   by_cases q:b.replica.sync.outbox.writes.length=0
   ·simp[q]
   ·have:((b.replica.sync.outbox.writes.length:Nat):Int)≠0:=by omega
    rw[beq_eq_false_iff_ne.2 this];simp;omega
  cases c2:dA b.lastUsed L
  ·simp(maxSteps:=9999999) [eA,hp,e1,c2]
  cases c3:b.persistent
  ·simp(maxSteps:=9999999) [eA,hp,e1,c2,c3,h0]
  ·simp(maxSteps:=9999999) [eA,hp,e1,c2,c3]
def iJ (bs:List XBucket)(ps:List XPage)(now:Int):List XBucket:=bs.filter fun b=> !(A5 b ps now)
def lR (bs:List XBucket)(ps:List XPage)(now:Int):List (List UInt8):=(bs.filter fun b=>A5 b ps now).map fun b=>b.site++[47]++b.top
theorem Oi {bs:List XBucket}{ps:List XPage}{now:Int}{k:Nat}(hk:k<bs.length)(h:A5 bs[k] ps now=true):iJ (bs.take (k+1)) ps now=iJ (bs.take k) ps now∧lR (bs.take (k+1)) ps now=lR (bs.take k) ps now++[bs[k].site++[47]++bs[k].top]:=by
 rw[List.take_succ_eq_append_getElem hk]
 simp only[iJ,lR,List.filter_append,List.filter_cons,List.filter_nil,h,List.map_append,List.map_cons,List.map_nil,Bool.not_true,Bool.not_false,if_true,List.append_nil,Bool.false_eq_true,if_false,and_self]
theorem Oh {bs:List XBucket}{ps:List XPage}{now:Int}{k:Nat}(hk:k<bs.length)(h:A5 bs[k] ps now=false):iJ (bs.take (k+1)) ps now=iJ (bs.take k) ps now++[bs[k]]∧lR (bs.take (k+1)) ps now=lR (bs.take k) ps now:=by
 rw[List.take_succ_eq_append_getElem hk]
 simp only[iJ,lR,List.filter_append,List.filter_cons,List.filter_nil,h,List.map_append,List.map_cons,List.map_nil,Bool.not_true,Bool.not_false,if_true,List.append_nil,Bool.false_eq_true,if_false,and_self]
theorem sw (bs:List XBucket)(ps:List XPage)(now:Int):(iJ bs ps now).length≤bs.length∧(lR bs ps now).length≤bs.length:=by
 unfold iJ lR
 refine⟨List.length_filter_le _ _,?_⟩
 rw[List.length_map];exact List.length_filter_le _ _
def xF (R:List (List PV))(d:Nat→List (List PV)→AObj)(K G:List (List PV)):List AObj:=match K with
 |[]=>[.box [.pv (.lst R)], .box [.nil], .box [.nil],d 1 G]
 |r::rs=>[.box [.pv (.lst R)], .box [.nil], .box [.arr 4],d 1 G,d 24 (r::rs)]
theorem yR {bs:List XBucket}(hl:bs.length≤1048576)(h:∀b∈bs,b.Ok 1048576){ps:List XPage}(hp:ps.length≤1048576)(now:Int):ag Ph aE 635 [.agg [.pv (.lst (bs.map XBucket.e))],bm (ps.map XPage.e),aa .i64 now]=some (.tup [(true,[nd 24 ((iJ bs ps now).map XBucket.e)]),(false,[.down 1 ((lR bs ps now).map nI)])]):=by
 have hm:bs.length≤maxLen:=by unfold maxLen;omega
 have hpm:ps.length≤maxLen:=by unfold maxLen;omega
 refine ae (fn:=nc) rfl ?_
 simp(maxSteps:=9999999) [nc]
 refine cF aT Cl.fin bs.length [.f,.t,.t,.f,.f,.f,.t,.f,.t,.t,.f,.f,.f,.f,.f,.t,.t,.t,.f,.f,.f,.f,.f,.f,.f,.f,.f,.f,.f,.f,.f,.f,.f,.f,.f,.f,.f,.f,.f,.f,.f,.f,.f,.f] (fun k=>[(9, .one (.arr 3)),(17,aa .i64 k)]) (fun k=>xF (bs.map XBucket.e) .darr ((iJ (bs.take k) ps now).map XBucket.e) ((lR (bs.take k) ps now).map nI)) rfl ?_ ?_ ?_
 ·exact Kn.of [0,1,2,3] (by decide) (by simp[xF,iJ,lR]) (by simp)
 ·intro k hk
  have ev:=tE bs[k] hpm now
  have hb:=h _ (List.getElem_mem hk)
  have hx:=XBucket.e.eq_1 bs[k]
  have wk:=aF hm hk
  have lk:=aY hk
  obtain⟨kl,gl⟩:=sw (bs.take k) ps now
  have tl:(bs.take k).length≤1048576:=by rw[List.length_take];omega
  cases hev:A5 bs[k] ps now
  ·obtain⟨r1,r2⟩:=Oh hk hev
   rw[r1,r2,List.map_append]
   have ec:=oU (Nat.le_refl 1048576) hb
   rw[hev]at ev
   generalize hG:(lR (bs.take k) ps now).map nI=G
   generalize hK:(iJ (bs.take k) ps now).map XBucket.e=K
   have hKl:K.length≤1048576:=by rw[←hK,List.length_map];omega
   have m1:=eF (m:=K.length+1) (z:=328) (by omega) (by omega)
   clear hK hG r1 r2 hb kl gl tl hev
   simp only[XBucket.v]at ev
   have N0:=eG 2 (bs[k].caches.caches.map XCache.e)
   generalize nd 2 (bs[k].caches.caches.map XCache.e)=n0 at N0 ec
   have N1:=eG 3 (bs[k].disk.base.stores.map XStore.e)
   generalize nd 3 (bs[k].disk.base.stores.map XStore.e)=n1 at N1 ec
   have N2:=eG 4 (bs[k].replica.base.items.map XItem.e)
   generalize nd 4 (bs[k].replica.base.items.map XItem.e)=n2 at N2 ec
   cases K with
   |nil=>
    rcases N0 with⟨q0,rfl⟩|⟨q0,rfl⟩<;>rcases N1 with⟨q1,rfl⟩|⟨q1,rfl⟩<;>rcases N2 with⟨q2,rfl⟩|⟨q2,rfl⟩
    ·simp only[q0,q1,q2]at ec ev
     simp(maxSteps:=9999999) [xF,aM,hk,hx,ev,ec,wk,lk,m1,q0,q1,q2,-cG]
     exact Kn.of [0,1,2,3,9] (by decide) (by simp[hx,q0,q1,q2]) (by simp)
    ·simp only[q0,q1]at ec ev
     simp(maxSteps:=9999999) [xF,aM,hk,hx,ev,ec,wk,lk,m1,q0,q1,-cG]
     exact Kn.of [0,1,2,3,10] (by decide) (by simp[hx,q0,q1]) (by simp)
    ·simp only[q0,q2]at ec ev
     simp(maxSteps:=9999999) [xF,aM,hk,hx,ev,ec,wk,lk,m1,q0,q2,-cG]
     exact Kn.of [0,1,2,3,10] (by decide) (by simp[hx,q0,q2]) (by simp)
    ·simp only[q0]at ec ev
     simp(maxSteps:=9999999) [xF,aM,hk,hx,ev,ec,wk,lk,m1,q0,-cG]
     exact Kn.of [0,1,2,3,11] (by decide) (by simp[hx,q0]) (by simp)
    ·simp only[q1,q2]at ec ev
     simp(maxSteps:=9999999) [xF,aM,hk,hx,ev,ec,wk,lk,m1,q1,q2,-cG]
     exact Kn.of [0,1,2,3,10] (by decide) (by simp[hx,q1,q2]) (by simp)
    ·simp only[q1]at ec ev
     simp(maxSteps:=9999999) [xF,aM,hk,hx,ev,ec,wk,lk,m1,q1,-cG]
     exact Kn.of [0,1,2,3,11] (by decide) (by simp[hx,q1]) (by simp)
    ·simp only[q2]at ec ev
     simp(maxSteps:=9999999) [xF,aM,hk,hx,ev,ec,wk,lk,m1,q2,-cG]
     exact Kn.of [0,1,2,3,11] (by decide) (by simp[hx,q2]) (by simp)
    ·simp(maxSteps:=9999999) [xF,aM,hk,hx,ev,ec,wk,lk,m1,-cG]
     exact Kn.of [0,1,2,3,12] (by decide) (by simp[hx]) (by simp)
   |cons r rs=>
    simp only[List.length_cons]at m1
    rcases N0 with⟨q0,rfl⟩|⟨q0,rfl⟩<;>rcases N1 with⟨q1,rfl⟩|⟨q1,rfl⟩<;>rcases N2 with⟨q2,rfl⟩|⟨q2,rfl⟩
    ·simp only[q0,q1,q2]at ec ev
     simp(maxSteps:=9999999) [xF,aM,hk,hx,ev,ec,wk,lk,m1,q0,q1,q2,-cG]
     exact Kn.of [0,1,2,3,10] (by decide) (by simp[hx,q0,q1,q2]) (by simp)
    ·simp only[q0,q1]at ec ev
     simp(maxSteps:=9999999) [xF,aM,hk,hx,ev,ec,wk,lk,m1,q0,q1,-cG]
     exact Kn.of [0,1,2,3,11] (by decide) (by simp[hx,q0,q1]) (by simp)
    ·simp only[q0,q2]at ec ev
     simp(maxSteps:=9999999) [xF,aM,hk,hx,ev,ec,wk,lk,m1,q0,q2,-cG]
     exact Kn.of [0,1,2,3,11] (by decide) (by simp[hx,q0,q2]) (by simp)
    ·simp only[q0]at ec ev
     simp(maxSteps:=9999999) [xF,aM,hk,hx,ev,ec,wk,lk,m1,q0,-cG]
     exact Kn.of [0,1,2,3,12] (by decide) (by simp[hx,q0]) (by simp)
    ·simp only[q1,q2]at ec ev
     simp(maxSteps:=9999999) [xF,aM,hk,hx,ev,ec,wk,lk,m1,q1,q2,-cG]
     exact Kn.of [0,1,2,3,11] (by decide) (by simp[hx,q1,q2]) (by simp)
    ·simp only[q1]at ec ev
     simp(maxSteps:=9999999) [xF,aM,hk,hx,ev,ec,wk,lk,m1,q1,-cG]
     exact Kn.of [0,1,2,3,12] (by decide) (by simp[hx,q1]) (by simp)
    ·simp only[q2]at ec ev
     simp(maxSteps:=9999999) [xF,aM,hk,hx,ev,ec,wk,lk,m1,q2,-cG]
     exact Kn.of [0,1,2,3,12] (by decide) (by simp[hx,q2]) (by simp)
    ·simp(maxSteps:=9999999) [xF,aM,hk,hx,ev,ec,wk,lk,m1,-cG]
     exact Kn.of [0,1,2,3,13] (by decide) (by simp[hx]) (by simp)
  ·obtain⟨r1,r2⟩:=Oi hk hev
   rw[r1,r2,List.map_append]
   rw[hev]at ev
   generalize hG:(lR (bs.take k) ps now).map nI=G
   generalize (iJ (bs.take k) ps now).map XBucket.e=K
   have hGl:G.length≤1048576:=by rw[←hG,List.length_map];omega
   have m1:=eF (m:=G.length+1) (z:=16) (by omega) (by omega)
   have m2:bs[k].site.length+1≤9223372036854775807∧bs[k].site.length+1+bs[k].top.length≤9223372036854775807∧bs[k].site.length+(bs[k].top.length+1)≤9223372036854775807:=by have:=hb.1;have:=hb.2.1;omega
   clear hG r1 r2 hb kl gl tl hev
   cases K with
   |nil=>
    simp(maxSteps:=9999999) [xF,aM,hk,hx,ev,wk,lk,m1,m2,-cG]
    exact Kn.of [0,1,2,6] (by decide) (by simp[nI]) (by simp)
   |cons r rs=>
    simp(maxSteps:=9999999) [xF,aM,hk,hx,ev,wk,lk,m1,m2,-cG]
    exact Kn.of [0,1,2,7,4] (by decide) (by simp[nI]) (by simp)
 ·rw[List.take_length]
  cases(iJ bs ps now).map XBucket.e<;>simp(maxSteps:=9999999) [xF,aM,nd]
theorem zt {bs:List XBucket}(hl:bs.length≤1048576)(h:∀b∈bs,b.Ok 1048576){ps:List XPage}(hp:ps.length≤1048576)(now:Int):ag Ph aE 634 [.agg [.pv (.lst (bs.map XBucket.e))],bm (ps.map XPage.e),aa .i64 now]=some (.tup [(true,[A8 24 ((iJ bs ps now).map XBucket.e)]),(false,[.own 1 ((lR bs ps now).map nI)])]):=by
 have hm:bs.length≤maxLen:=by unfold maxLen;omega
 have hpm:ps.length≤maxLen:=by unfold maxLen;omega
 refine ae (fn:=nq) rfl ?_
 simp(maxSteps:=9999999) [nq]
 refine cF aT Cl.fin bs.length [.f,.t,.t,.t,.f,.f,.t,.f,.t,.t,.t,.f,.f,.f,.f,.f,.f,.f,.f,.f,.f,.f,.f,.f,.f,.f,.f,.f,.f,.f,.f,.f,.f,.f,.f,.f,.f,.f,.f,.f,.f,.f,.f,.f,.f,.f,.f,.f,.f,.f,.f,.f,.f,.f,.f,.f,.f,.f] (fun k=>[(9, .one (.arr 3)),(10,aa .i64 k)]) (fun k=>xF (bs.map XBucket.e) .arr ((iJ (bs.take k) ps now).map XBucket.e) ((lR (bs.take k) ps now).map nI)) rfl ?_ ?_ ?_
 ·exact Kn.of [0,1,2,3] (by decide) (by simp[xF,iJ,lR]) (by simp)
 ·intro k hk
  have ev:=tQ bs[k] hpm now
  have hb:=h _ (List.getElem_mem hk)
  have hx:=XBucket.e.eq_1 bs[k]
  have wk:=aF hm hk
  have lk:=aY hk
  obtain⟨kl,gl⟩:=sw (bs.take k) ps now
  have tl:(bs.take k).length≤1048576:=by rw[List.length_take];omega
  cases hev:A5 bs[k] ps now
  ·obtain⟨r1,r2⟩:=Oh hk hev
   rw[r1,r2,List.map_append]
   have ec:=rE (Nat.le_refl 1048576) hb
   rw[hev]at ev
   generalize hG:(lR (bs.take k) ps now).map nI=G
   generalize hK:(iJ (bs.take k) ps now).map XBucket.e=K
   have hKl:K.length≤1048576:=by rw[←hK,List.length_map];omega
   have m1:=eF (m:=K.length+1) (z:=328) (by omega) (by omega)
   clear hK hG r1 r2 hb kl gl tl hev
   simp only[XBucket.v]at ev
   cases K with
   |nil=>
    simp(maxSteps:=9999999) [xF,eL,hk,hx,ev,ec,wk,lk,m1, ↓bV, ↓bx, ↓bc, ↓bU, ↓aO,-cG]
    exact Kn.of [0,1,2,3,5] (by decide) (by simp[hx]) (by simp)
   |cons r rs=>
    simp only[List.length_cons]at m1
    simp(maxSteps:=9999999) [xF,eL,hk,hx,ev,ec,wk,lk,m1, ↓bV, ↓bx, ↓bc, ↓bU, ↓aO,-cG]
    exact Kn.of [0,1,2,3,6] (by decide) (by simp[hx]) (by simp)
  ·obtain⟨r1,r2⟩:=Oi hk hev
   rw[r1,r2,List.map_append]
   rw[hev]at ev
   generalize hG:(lR (bs.take k) ps now).map nI=G
   generalize (iJ (bs.take k) ps now).map XBucket.e=K
   have hGl:G.length≤1048576:=by rw[←hG,List.length_map];omega
   have m1:=eF (m:=G.length+1) (z:=16) (by omega) (by omega)
   have m2:bs[k].site.length+1≤9223372036854775807∧bs[k].site.length+1+bs[k].top.length≤9223372036854775807∧bs[k].site.length+(bs[k].top.length+1)≤9223372036854775807:=by have:=hb.1;have:=hb.2.1;omega
   clear hG r1 r2 hb kl gl tl hev
   cases K with
   |nil=>
    simp(maxSteps:=9999999) [xF,eL,hk,hx,ev,wk,lk,m1,m2,-cG]
    exact Kn.of [0,1,2,5] (by decide) (by simp[nI]) (by simp)
   |cons r rs=>
    simp(maxSteps:=9999999) [xF,eL,hk,hx,ev,wk,lk,m1,m2,-cG]
    exact Kn.of [0,1,2,6,4] (by decide) (by simp[nI]) (by simp)
 ·rw[List.take_length]
  cases(iJ bs ps now).map XBucket.e<;>simp(maxSteps:=9999999) [xF,eL,A8]
end Gi
