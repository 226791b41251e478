/- Of this proof. -/
import Derived.Test.YtpfadfkomcbecaaGreatGmC
import Derived.Test.YtpfadfkomcbecaaGreatGlP
import Derived.Test.YtpfadfkomcbecaaGreatGkq
import Derived.Test.YtpfadfkomcbecaaGreatGmB
set_option linter.unusedSimpArgs false
set_option linter.unusedVariables false
namespace Gi
open Go Go.RowKit
set_option maxHeartbeats 8000000
set_option maxRecDepth 4000
attribute [local simp] start ah az aH bf bU Opd.ev put V.cells plain bm gu isInt isStr isBool bin bM oE oD un asList L.view ap V.view viewL aV au bE bN comp aK bq dw co bz bw bx bI bi cq aW bD aR aX bG cr bF bC bH V.flat L.flat dG dk bt putAt thaw thawL thawT freezeVs freezeLs freezeL V.mut L.mut aJ aT dH ca dL bO bB wp_seq wp_block ov wp_cond wp_skip wp_exit wp_ret cG cE cP cH dd de db cj aU L.notArr aQ aO aP dW bn storeD a9 fR bo cD be nX L.mov L.closed V.closed PV.bare PV.flat
def hv (b0 b1 b2:AObj)(rest:List AObj)(z:Nat)(rows:List (List PV))(k:Nat):List AObj:=b0::b1::b2::(rest++[.darr z (rows.take k)])
theorem B1 {B:Nat}(hB:B≤1048576){x:XWorld}(h:x.Ok B):ag Ph aF 433 [.agg [.pv (.int .i64 x.now), .pv (.bool x.online), .pv (.int .i64 x.device), .pv (.lst (x.storage.buckets.map XBucket.e)), .pv (.lst (x.pages.map XPage.e)), .pv (.int .i64 x.nextPage), .pv (.lst (x.locks.locks.map XLock.e)), .pv (.lst (x.channel.mails.map XMail.e)), .pv (.lst (x.sites.map XSite.e)), .pv (.lst (x.servers.map XServer.e))]]=some (.agg [.pv (.int .i64 x.now), .pv (.bool x.online), .pv (.int .i64 x.device),nd 24 (x.storage.buckets.map XBucket.e), .down 11 (x.pages.map XPage.e), .pv (.int .i64 x.nextPage), .down 4 (x.locks.locks.map XLock.e), .down 3 (x.channel.mails.map XMail.e), .down 4 (x.sites.map XSite.e), .down 5 (x.servers.map XServer.e)]):=by
 obtain⟨h_now,h_device,h_storage,h_pages,h_nextPage,h_locks,h_channel,h_sites,h_servers⟩:=h
 have c0:=BY hB h_storage
 have c2:=r7 hB h_locks
 have c3:=BV hB h_channel
 have e_pages:∀k(hk:k<x.pages.length),_:=fun k hk=>BP hB (h_pages.2 _ (List.getElem_mem hk))
 have hl_pages:x.pages.length≤1048576:=Nat.le_trans h_pages.1 hB
 have e_sites:∀k(hk:k<x.sites.length),_:=fun k hk=>BN hB (h_sites.2 _ (List.getElem_mem hk))
 have hl_sites:x.sites.length≤1048576:=Nat.le_trans h_sites.1 hB
 have e_servers:∀k(hk:k<x.servers.length),_:=fun k hk=>BR hB (h_servers.2 _ (List.getElem_mem hk))
 have hl_servers:x.servers.length≤1048576:=Nat.le_trans h_servers.1 hB
 clear h_now h_device h_storage h_pages h_nextPage h_locks h_channel h_sites h_servers
 have N:=fi 24 (x.storage.buckets.map XBucket.e)
 generalize nd 24 (x.storage.buckets.map XBucket.e)=n at N c0⊢
 rcases N with⟨-,rfl⟩|⟨-,rfl⟩
 ·refine ae (fn:=jx) rfl ?_
  simp[jx,c0,c2,c3]
  refine cy aM Cl.fin x.pages.length [.f,.t,.t,.t,.t,.f,.f,.f,.f,.f,.f,.f,.f,.f,.f,.f,.f,.f,.f,.f,.f,.f,.f,.f,.f,.f,.f,.f,.f,.f,.f,.f,.f,.f,.f,.f,.f,.f,.f,.f,.f,.f,.f,.f,.f,.f,.f,.f,.f,.f,.f,.f,.f,.f,.f,.f,.f,.f,.f,.f,.f,.f,.f,.f,.f,.f,.f,.f,.f,.f,.f,.f,.f,.f,.f,.f,.f,.f,.f,.f,.f] (fun k=>[(4,aa .i64 k)]) (hv (.box [.pv (.int .i64 x.now), .pv (.bool x.online), .pv (.int .i64 x.device), .pv (.lst (x.storage.buckets.map XBucket.e)), .pv (.lst (x.pages.map XPage.e)), .pv (.int .i64 x.nextPage), .pv (.lst (x.locks.locks.map XLock.e)), .pv (.lst (x.channel.mails.map XMail.e)), .pv (.lst (x.sites.map XSite.e)), .pv (.lst (x.servers.map XServer.e))]) (.box [.pv (.int .i64 0), .pv (.bool false), .pv (.int .i64 0), .nil, .nil, .pv (.int .i64 0), .nil, .nil, .nil, .nil]) (.box [.pv (.int .i64 x.now), .pv (.bool x.online), .pv (.int .i64 x.device), .nil, .arr 3, .pv (.int .i64 x.nextPage), .pv (.lst (x.locks.locks.map XLock.e)), .pv (.lst (x.channel.mails.map XMail.e)), .pv (.lst (x.sites.map XSite.e)), .pv (.lst (x.servers.map XServer.e))]) [] 11 (x.pages.map XPage.e)) rfl ?_ ?_ ?_
  ·exact Kn.q [0,1,2,3] (by simp[hv,List.cons_append,List.nil_append,List.take_zero,aQ,aO,aP,dW,bn,aN,bd,aG,dj,bK,bg,bQ,L.ren,aR])
  ·intro k hk
   have ek:=e_pages k hk
   have hx:=XPage.e.eq_1 x.pages[k]
   have ht:=bV (e:=XPage.e) hk
   rw[hx]at ht
   cases k with
   |zero=>
    simp only[hv,List.cons_append,List.nil_append,List.take_zero,ht]
    simp[di,hk,hx,ek,bW]
    exact Kn.q [0,1,2,8]
   |succ k=>
    obtain⟨i1,i2,i3,i4,i5,i6⟩:=nk (n:=x.pages.length) (by unfold maxLen;omega) hk
    have m1:=eR (m:=k+1+1) (z:=144) (by omega) (by omega)
    simp only[hv,List.cons_append,List.nil_append,List.take_zero,ht]
    generalize hT:List.take (k+1) _=T
    have hTl:T.length=k+1:=by rw[←hT];simp;omega
    simp[di,hk,hx,ek,i1,i2,i3,i4,i5,i6,hTl,m1]
    exact Kn.q [0,1,2,8]
  have hT0:(x.pages.map XPage.e).take x.pages.length=(x.pages.map XPage.e):=List.take_of_length_le (by simp)
  simp only[hv,hT0,List.cons_append,List.nil_append]
  simp[di,c2,c3]
  refine cy aM Cl.fin x.sites.length [.f,.t,.t,.t,.f,.t,.f,.f,.f,.f,.f,.f,.f,.f,.f,.f,.f,.f,.f,.f,.f,.f,.f,.f,.f,.f,.f,.f,.f,.f,.f,.f,.f,.f,.f,.f,.f,.f,.f,.f,.f,.f,.f,.f,.f,.f,.f,.f,.f,.f,.f,.f,.f,.f,.f,.f,.f,.f,.f,.f,.f,.f,.f,.f,.f,.f,.f,.f,.f,.f,.f,.f,.f,.f,.f,.f,.f,.f,.f,.f,.f] (fun k=>[(5,aa .i64 k)]) (hv (.box [.pv (.int .i64 x.now), .pv (.bool x.online), .pv (.int .i64 x.device), .pv (.lst (x.storage.buckets.map XBucket.e)), .pv (.lst (x.pages.map XPage.e)), .pv (.int .i64 x.nextPage), .pv (.lst (x.locks.locks.map XLock.e)), .pv (.lst (x.channel.mails.map XMail.e)), .pv (.lst (x.sites.map XSite.e)), .pv (.lst (x.servers.map XServer.e))]) (.box [.pv (.int .i64 0), .pv (.bool false), .pv (.int .i64 0), .nil, .nil, .pv (.int .i64 0), .nil, .nil, .nil, .nil]) (.box [.pv (.int .i64 x.now), .pv (.bool x.online), .pv (.int .i64 x.device), .nil, .arr 3, .pv (.int .i64 x.nextPage), .arr 4, .arr 5, .arr 6, .pv (.lst (x.servers.map XServer.e))]) [.darr 11 (x.pages.map XPage.e), .darr 4 (x.locks.locks.map XLock.e), .darr 3 (x.channel.mails.map XMail.e)] 4 (x.sites.map XSite.e)) rfl ?_ ?_ ?_
  ·exact Kn.q [0,1,2,3,4,5,6] (by simp[hv,List.cons_append,List.nil_append,List.take_zero,aQ,aO,aP,dW,bn,aN,bd,aG,dj,bK,bg,bQ,L.ren,aR])
  ·intro k hk
   have ek:=e_sites k hk
   have hx:=XSite.e.eq_1 x.sites[k]
   have ht:=bV (e:=XSite.e) hk
   rw[hx]at ht
   cases k with
   |zero=>
    simp only[hv,List.cons_append,List.nil_append,List.take_zero,ht]
    simp[dJ,hk,hx,ek,bW]
    exact Kn.q [0,1,2,3,4,5,9]
   |succ k=>
    obtain⟨i1,i2,i3,i4,i5,i6⟩:=nk (n:=x.sites.length) (by unfold maxLen;omega) hk
    have m1:=eR (m:=k+1+1) (z:=56) (by omega) (by omega)
    simp only[hv,List.cons_append,List.nil_append,List.take_zero,ht]
    generalize hT:List.take (k+1) _=T
    have hTl:T.length=k+1:=by rw[←hT];simp;omega
    simp[dJ,hk,hx,ek,i1,i2,i3,i4,i5,i6,hTl,m1]
    exact Kn.q [0,1,2,3,4,5,9]
  have hT1:(x.sites.map XSite.e).take x.sites.length=(x.sites.map XSite.e):=List.take_of_length_le (by simp)
  simp only[hv,hT1,List.cons_append,List.nil_append]
  simp[dJ]
  refine cy aM Cl.fin x.servers.length [.f,.t,.t,.t,.f,.f,.t,.f,.f,.f,.f,.f,.f,.f,.f,.f,.f,.f,.f,.f,.f,.f,.f,.f,.f,.f,.f,.f,.f,.f,.f,.f,.f,.f,.f,.f,.f,.f,.f,.f,.f,.f,.f,.f,.f,.f,.f,.f,.f,.f,.f,.f,.f,.f,.f,.f,.f,.f,.f,.f,.f,.f,.f,.f,.f,.f,.f,.f,.f,.f,.f,.f,.f,.f,.f,.f,.f,.f,.f,.f,.f] (fun k=>[(6,aa .i64 k)]) (hv (.box [.pv (.int .i64 x.now), .pv (.bool x.online), .pv (.int .i64 x.device), .pv (.lst (x.storage.buckets.map XBucket.e)), .pv (.lst (x.pages.map XPage.e)), .pv (.int .i64 x.nextPage), .pv (.lst (x.locks.locks.map XLock.e)), .pv (.lst (x.channel.mails.map XMail.e)), .pv (.lst (x.sites.map XSite.e)), .pv (.lst (x.servers.map XServer.e))]) (.box [.pv (.int .i64 0), .pv (.bool false), .pv (.int .i64 0), .nil, .nil, .pv (.int .i64 0), .nil, .nil, .nil, .nil]) (.box [.pv (.int .i64 x.now), .pv (.bool x.online), .pv (.int .i64 x.device), .nil, .arr 3, .pv (.int .i64 x.nextPage), .arr 4, .arr 5, .arr 6, .arr 7]) [.darr 11 (x.pages.map XPage.e), .darr 4 (x.locks.locks.map XLock.e), .darr 3 (x.channel.mails.map XMail.e), .darr 4 (x.sites.map XSite.e)] 5 (x.servers.map XServer.e)) rfl ?_ ?_ ?_
  ·exact Kn.q [0,1,2,3,4,5,6,7] (by simp[hv,List.cons_append,List.nil_append,List.take_zero,aQ,aO,aP,dW,bn,aN,bd,aG,dj,bK,bg,bQ,L.ren,aR])
  ·intro k hk
   have ek:=e_servers k hk
   have hx:=XServer.e.eq_1 x.servers[k]
   have ht:=bV (e:=XServer.e) hk
   rw[hx]at ht
   have N0:=fi 4 (x.servers[k].store.items.map XItem.e)
   generalize nd 4 (x.servers[k].store.items.map XItem.e)=n0 at N0 ek
   cases k with
   |zero=>
    simp only[hv,List.cons_append,List.nil_append,List.take_zero,ht]
    rcases N0 with⟨q0,rfl⟩|⟨q0,rfl⟩
    ·simp only[q0]at ek
     simp[cz,hk,hx,ek,bW,q0]
     exact Kn.q [0,1,2,3,4,5,6,11]
    ·simp[cz,hk,hx,ek,bW]
     exact Kn.q [0,1,2,3,4,5,6,12]
   |succ k=>
    obtain⟨i1,i2,i3,i4,i5,i6⟩:=nk (n:=x.servers.length) (by unfold maxLen;omega) hk
    have m1:=eR (m:=k+1+1) (z:=96) (by omega) (by omega)
    simp only[hv,List.cons_append,List.nil_append,List.take_zero,ht]
    generalize hT:List.take (k+1) _=T
    have hTl:T.length=k+1:=by rw[←hT];simp;omega
    rcases N0 with⟨q0,rfl⟩|⟨q0,rfl⟩
    ·simp only[q0]at ek
     simp[cz,hk,hx,ek,i1,i2,i3,i4,i5,i6,hTl,m1,q0]
     exact Kn.q [0,1,2,3,4,5,6,11]
    ·simp[cz,hk,hx,ek,i1,i2,i3,i4,i5,i6,hTl,m1]
     exact Kn.q [0,1,2,3,4,5,6,12]
  have hT2:(x.servers.map XServer.e).take x.servers.length=(x.servers.map XServer.e):=List.take_of_length_le (by simp)
  simp only[hv,hT2,List.cons_append,List.nil_append]
  simp[cz]
 ·refine ae (fn:=jx) rfl ?_
  simp[jx,c0,c2,c3]
  refine cy aM Cl.fin x.pages.length [.f,.t,.t,.t,.t,.f,.f,.f,.f,.f,.f,.f,.f,.f,.f,.f,.f,.f,.f,.f,.f,.f,.f,.f,.f,.f,.f,.f,.f,.f,.f,.f,.f,.f,.f,.f,.f,.f,.f,.f,.f,.f,.f,.f,.f,.f,.f,.f,.f,.f,.f,.f,.f,.f,.f,.f,.f,.f,.f,.f,.f,.f,.f,.f,.f,.f,.f,.f,.f,.f,.f,.f,.f,.f,.f,.f,.f,.f,.f,.f,.f] (fun k=>[(4,aa .i64 k)]) (hv (.box [.pv (.int .i64 x.now), .pv (.bool x.online), .pv (.int .i64 x.device), .pv (.lst (x.storage.buckets.map XBucket.e)), .pv (.lst (x.pages.map XPage.e)), .pv (.int .i64 x.nextPage), .pv (.lst (x.locks.locks.map XLock.e)), .pv (.lst (x.channel.mails.map XMail.e)), .pv (.lst (x.sites.map XSite.e)), .pv (.lst (x.servers.map XServer.e))]) (.box [.pv (.int .i64 0), .pv (.bool false), .pv (.int .i64 0), .nil, .nil, .pv (.int .i64 0), .nil, .nil, .nil, .nil]) (.box [.pv (.int .i64 x.now), .pv (.bool x.online), .pv (.int .i64 x.device), .arr 3, .arr 4, .pv (.int .i64 x.nextPage), .pv (.lst (x.locks.locks.map XLock.e)), .pv (.lst (x.channel.mails.map XMail.e)), .pv (.lst (x.sites.map XSite.e)), .pv (.lst (x.servers.map XServer.e))]) [.darr 24 (x.storage.buckets.map XBucket.e)] 11 (x.pages.map XPage.e)) rfl ?_ ?_ ?_
  ·exact Kn.q [0,1,2,3,4] (by simp[hv,List.cons_append,List.nil_append,List.take_zero,aQ,aO,aP,dW,bn,aN,bd,aG,dj,bK,bg,bQ,L.ren,aR])
  ·intro k hk
   have ek:=e_pages k hk
   have hx:=XPage.e.eq_1 x.pages[k]
   have ht:=bV (e:=XPage.e) hk
   rw[hx]at ht
   cases k with
   |zero=>
    simp only[hv,List.cons_append,List.nil_append,List.take_zero,ht]
    simp[di,hk,hx,ek,bW]
    exact Kn.q [0,1,2,3,9]
   |succ k=>
    obtain⟨i1,i2,i3,i4,i5,i6⟩:=nk (n:=x.pages.length) (by unfold maxLen;omega) hk
    have m1:=eR (m:=k+1+1) (z:=144) (by omega) (by omega)
    simp only[hv,List.cons_append,List.nil_append,List.take_zero,ht]
    generalize hT:List.take (k+1) _=T
    have hTl:T.length=k+1:=by rw[←hT];simp;omega
    simp[di,hk,hx,ek,i1,i2,i3,i4,i5,i6,hTl,m1]
    exact Kn.q [0,1,2,3,9]
  have hT0:(x.pages.map XPage.e).take x.pages.length=(x.pages.map XPage.e):=List.take_of_length_le (by simp)
  simp only[hv,hT0,List.cons_append,List.nil_append]
  simp[di,c2,c3]
  refine cy aM Cl.fin x.sites.length [.f,.t,.t,.t,.f,.t,.f,.f,.f,.f,.f,.f,.f,.f,.f,.f,.f,.f,.f,.f,.f,.f,.f,.f,.f,.f,.f,.f,.f,.f,.f,.f,.f,.f,.f,.f,.f,.f,.f,.f,.f,.f,.f,.f,.f,.f,.f,.f,.f,.f,.f,.f,.f,.f,.f,.f,.f,.f,.f,.f,.f,.f,.f,.f,.f,.f,.f,.f,.f,.f,.f,.f,.f,.f,.f,.f,.f,.f,.f,.f,.f] (fun k=>[(5,aa .i64 k)]) (hv (.box [.pv (.int .i64 x.now), .pv (.bool x.online), .pv (.int .i64 x.device), .pv (.lst (x.storage.buckets.map XBucket.e)), .pv (.lst (x.pages.map XPage.e)), .pv (.int .i64 x.nextPage), .pv (.lst (x.locks.locks.map XLock.e)), .pv (.lst (x.channel.mails.map XMail.e)), .pv (.lst (x.sites.map XSite.e)), .pv (.lst (x.servers.map XServer.e))]) (.box [.pv (.int .i64 0), .pv (.bool false), .pv (.int .i64 0), .nil, .nil, .pv (.int .i64 0), .nil, .nil, .nil, .nil]) (.box [.pv (.int .i64 x.now), .pv (.bool x.online), .pv (.int .i64 x.device), .arr 3, .arr 4, .pv (.int .i64 x.nextPage), .arr 5, .arr 6, .arr 7, .pv (.lst (x.servers.map XServer.e))]) [.darr 24 (x.storage.buckets.map XBucket.e), .darr 11 (x.pages.map XPage.e), .darr 4 (x.locks.locks.map XLock.e), .darr 3 (x.channel.mails.map XMail.e)] 4 (x.sites.map XSite.e)) rfl ?_ ?_ ?_
  ·exact Kn.q [0,1,2,3,4,5,6,7] (by simp[hv,List.cons_append,List.nil_append,List.take_zero,aQ,aO,aP,dW,bn,aN,bd,aG,dj,bK,bg,bQ,L.ren,aR])
  ·intro k hk
   have ek:=e_sites k hk
   have hx:=XSite.e.eq_1 x.sites[k]
   have ht:=bV (e:=XSite.e) hk
   rw[hx]at ht
   cases k with
   |zero=>
    simp only[hv,List.cons_append,List.nil_append,List.take_zero,ht]
    simp[dJ,hk,hx,ek,bW]
    exact Kn.q [0,1,2,3,4,5,6,10]
   |succ k=>
    obtain⟨i1,i2,i3,i4,i5,i6⟩:=nk (n:=x.sites.length) (by unfold maxLen;omega) hk
    have m1:=eR (m:=k+1+1) (z:=56) (by omega) (by omega)
    simp only[hv,List.cons_append,List.nil_append,List.take_zero,ht]
    generalize hT:List.take (k+1) _=T
    have hTl:T.length=k+1:=by rw[←hT];simp;omega
    simp[dJ,hk,hx,ek,i1,i2,i3,i4,i5,i6,hTl,m1]
    exact Kn.q [0,1,2,3,4,5,6,10]
  have hT1:(x.sites.map XSite.e).take x.sites.length=(x.sites.map XSite.e):=List.take_of_length_le (by simp)
  simp only[hv,hT1,List.cons_append,List.nil_append]
  simp[dJ]
  refine cy aM Cl.fin x.servers.length [.f,.t,.t,.t,.f,.f,.t,.f,.f,.f,.f,.f,.f,.f,.f,.f,.f,.f,.f,.f,.f,.f,.f,.f,.f,.f,.f,.f,.f,.f,.f,.f,.f,.f,.f,.f,.f,.f,.f,.f,.f,.f,.f,.f,.f,.f,.f,.f,.f,.f,.f,.f,.f,.f,.f,.f,.f,.f,.f,.f,.f,.f,.f,.f,.f,.f,.f,.f,.f,.f,.f,.f,.f,.f,.f,.f,.f,.f,.f,.f,.f] (fun k=>[(6,aa .i64 k)]) (hv (.box [.pv (.int .i64 x.now), .pv (.bool x.online), .pv (.int .i64 x.device), .pv (.lst (x.storage.buckets.map XBucket.e)), .pv (.lst (x.pages.map XPage.e)), .pv (.int .i64 x.nextPage), .pv (.lst (x.locks.locks.map XLock.e)), .pv (.lst (x.channel.mails.map XMail.e)), .pv (.lst (x.sites.map XSite.e)), .pv (.lst (x.servers.map XServer.e))]) (.box [.pv (.int .i64 0), .pv (.bool false), .pv (.int .i64 0), .nil, .nil, .pv (.int .i64 0), .nil, .nil, .nil, .nil]) (.box [.pv (.int .i64 x.now), .pv (.bool x.online), .pv (.int .i64 x.device), .arr 3, .arr 4, .pv (.int .i64 x.nextPage), .arr 5, .arr 6, .arr 7, .arr 8]) [.darr 24 (x.storage.buckets.map XBucket.e), .darr 11 (x.pages.map XPage.e), .darr 4 (x.locks.locks.map XLock.e), .darr 3 (x.channel.mails.map XMail.e), .darr 4 (x.sites.map XSite.e)] 5 (x.servers.map XServer.e)) rfl ?_ ?_ ?_
  ·exact Kn.q [0,1,2,3,4,5,6,7,8] (by simp[hv,List.cons_append,List.nil_append,List.take_zero,aQ,aO,aP,dW,bn,aN,bd,aG,dj,bK,bg,bQ,L.ren,aR])
  ·intro k hk
   have ek:=e_servers k hk
   have hx:=XServer.e.eq_1 x.servers[k]
   have ht:=bV (e:=XServer.e) hk
   rw[hx]at ht
   have N0:=fi 4 (x.servers[k].store.items.map XItem.e)
   generalize nd 4 (x.servers[k].store.items.map XItem.e)=n0 at N0 ek
   cases k with
   |zero=>
    simp only[hv,List.cons_append,List.nil_append,List.take_zero,ht]
    rcases N0 with⟨q0,rfl⟩|⟨q0,rfl⟩
    ·simp only[q0]at ek
     simp[cz,hk,hx,ek,bW,q0]
     exact Kn.q [0,1,2,3,4,5,6,7,12]
    ·simp[cz,hk,hx,ek,bW]
     exact Kn.q [0,1,2,3,4,5,6,7,13]
   |succ k=>
    obtain⟨i1,i2,i3,i4,i5,i6⟩:=nk (n:=x.servers.length) (by unfold maxLen;omega) hk
    have m1:=eR (m:=k+1+1) (z:=96) (by omega) (by omega)
    simp only[hv,List.cons_append,List.nil_append,List.take_zero,ht]
    generalize hT:List.take (k+1) _=T
    have hTl:T.length=k+1:=by rw[←hT];simp;omega
    rcases N0 with⟨q0,rfl⟩|⟨q0,rfl⟩
    ·simp only[q0]at ek
     simp[cz,hk,hx,ek,i1,i2,i3,i4,i5,i6,hTl,m1,q0]
     exact Kn.q [0,1,2,3,4,5,6,7,12]
    ·simp[cz,hk,hx,ek,i1,i2,i3,i4,i5,i6,hTl,m1]
     exact Kn.q [0,1,2,3,4,5,6,7,13]
  have hT2:(x.servers.map XServer.e).take x.servers.length=(x.servers.map XServer.e):=List.take_of_length_le (by simp)
  simp only[hv,hT2,List.cons_append,List.nil_append]
  simp[cz]
end Gi
namespace Gi
open Go Go.RowKit
set_option maxHeartbeats 8000000
set_option maxRecDepth 4000
attribute [local simp] start sj bf bU dQ fY dP fX f7 f6 uH uQ uI uR uJ uS uK uT uL uU uM uV uN uW uO uX uP uY V.cells plain bm gu isInt isStr isBool bin cQ jJ cR jK fZ un asList L.view ap V.view viewL aV au cU bX bN comp aK bq dw co bz bw bx bI bi cq aW bD aR aX bG cr bF bC bH V.flat L.flat dG dk bt putAt thaw thawL thawT V.ow f5 dU dV cS f4 cT dS freezeVs freezeLs freezeL V.mut L.mut aJ eS iO aN bd aG dj bK bg bQ L.ren aT dH ca dL bO bB wp_seq wp_block bv dY cW bY cX wp_skip wp_exit wp_ret cG cE cP cH dd de db cj aU L.notArr aQ aO aP dX bn storeD a9 fR bo cD be nX L.mov L.closed V.closed PV.bare PV.flat
abbrev wN (w:XWorld)(bs:List XBucket):List L:=[.pv (.int .i64 w.now), .pv (.bool w.online), .pv (.int .i64 w.device),nd 24 (bs.map XBucket.e), .down 11 (w.pages.map XPage.e), .pv (.int .i64 w.nextPage), .down 4 (w.locks.locks.map XLock.e), .down 3 (w.channel.mails.map XMail.e),nd 4 (w.sites.map XSite.e),nd 5 (w.servers.map XServer.e)]
abbrev wO (w:XWorld)(bs:List XBucket):List L:=[.pv (.int .i64 w.now), .pv (.bool w.online), .pv (.int .i64 w.device),FN 24 (bs.map XBucket.e), .own 11 (w.pages.map XPage.e), .pv (.int .i64 w.nextPage), .own 4 (w.locks.locks.map XLock.e), .own 3 (w.channel.mails.map XMail.e), .own 4 (w.sites.map XSite.e), .own 5 (w.servers.map XServer.e)]
theorem R8 {w:XWorld}(h:xx w=true):w.sites.map XSite.e≠[]∧w.servers.map XServer.e≠[]:=by
 unfold xx at h
 simp only[Bool.and_eq_true,beq_iff_eq]at h
 obtain⟨_,_,_,_,_,_,h7,h8,_⟩:=h
 exact⟨fun e=>by have:=congrArg List.length e;simp at this;rw[this]at h7;simp at h7,fun e=>by have:=congrArg List.length e;simp at this;rw[this]at h8;simp at h8⟩
def Sp (x y:XLock):Bool:=y.name==x.name&&(!y.held||(!y.shared|| !x.shared))
def DZ (ls:List XLock)(n:Nat)(x:XLock):Bool:= !(fT n (iu (Sp x) ls))
def uu (x:XLock)(b:Bool):XLock:=⟨x.name,x.page,x.shared,b⟩
def nP (ls:List XLock)(k:Nat):List XLock:=match ls[k]? with
 |some x=>cond x.held ls (ls.set k (uu x (DZ ls k x)))
 |none=>ls
def mc (ls:List XLock):Nat→List XLock
 |0=>ls
 |k+1=>nP (mc ls k) k
def zr (ls:List XLock):List XLock:=mc ls ls.length
def mF (page:Int)(ls:List XLock):List XLock:=ls.filter fun x=> !(x.page==page)
def FO (page:Int)(ls:List XLock):List XLock:=zr (mF page ls)
theorem Lb (ls:List XLock)(k:Nat):(nP ls k).length=ls.length:=by
 unfold nP
 split
 ·rename_i x _;cases x.held<;>simp
 ·rfl
theorem pf (ls:List XLock):∀k,(mc ls k).length=ls.length
 |0=>rfl
 |k+1=>by rw[mc,Lb,pf ls k]
theorem DC {ls:List XLock}{k:Nat}(hk:k<ls.length)(h:ls[k].held=true):nP ls k=ls:=by
 unfold nP;rw[List.getElem?_eq_getElem hk];simp only[h,cond_true]
theorem xd {ls:List XLock}{k:Nat}(hk:k<ls.length)(h:ls[k].held=false):nP ls k=ls.set k (uu ls[k] (DZ ls k ls[k])):=by
 unfold nP;rw[List.getElem?_eq_getElem hk];simp only[h,cond_false]
theorem La {x:XLock}{b:Bool}(h:x.held=b):uu x b=x:=by cases x;simp only[uu];cases h;rfl
theorem Py {ls:List XLock}{k:Nat}(hk:k<ls.length)(h:ls[k].held=false)(m:DZ ls k ls[k]=false):nP ls k=ls:=by
 rw[xd hk h,m,La h,List.set_getElem_self]
theorem Mn {ls:List XLock}{k:Nat}(b:Bool)(hk:k<ls.length):(ls.set k (uu ls[k] b)).map XLock.e=(ls.map XLock.e).set k ((ls[k]).e.set 3 (.bool b)):=by rw[List.map_set];rfl
theorem zJ (page:Int)(ls:List XLock):(mF page ls).length≤ls.length:=List.length_filter_le _ _
theorem Jy {page:Int}{ls:List XLock}{B:Nat}(h:(XLockTable.mk ls).Ok B):(XLockTable.mk (mF page ls)).Ok B:=⟨Nat.le_trans (zJ page ls) h.1,fun y m=>h.2 y (List.mem_filter.1 m).1⟩
theorem Lk {page:Int}{ls:List XLock}{k:Nat}(hk:k<ls.length):mF page (ls.take (k+1))=mF page (ls.take k)++(if ls[k].page==page then []else [ls[k]]):=by
 rw[List.take_succ_eq_append_getElem hk,mF,List.filter_append]
 congr 1
 cases h:(ls[k].page==page)<;>simp[List.filter_cons,h]
def Lc (x:XLock):XLock:=uu x false
theorem NW (ls:List XLock)(k:Nat):(nP ls k).map Lc=ls.map Lc:=by
 by_cases hk:k<ls.length
 ·cases h:ls[k].held
  ·rw[xd hk h,List.map_set]
   have:Lc (uu ls[k] (DZ ls k ls[k]))=(ls.map Lc)[k]'(by simpa using hk):=by simp[Lc,uu]
   rw[this,List.set_getElem_self]
  ·rw[DC hk h]
 ·unfold nP;rw[List.getElem?_eq_none (by omega)]
theorem Gp (ls:List XLock):∀k,(mc ls k).map Lc=ls.map Lc
 |0=>rfl
 |k+1=>by rw[mc,NW,Gp ls k]
theorem Ai :∀ls:List XLock,bP (ls.map XLock.e)=bP ((ls.map Lc).map XLock.e)
 |[]=>rfl
 |x::ls=>by simp only[List.map_cons,bP,Ai ls,XLock.e,Lc,uu,eK,sz]
theorem PC (x:XLock):aZ te x.e↔aZ te (Lc x).e:=by simp only[XLock.e,Lc,uu,te,aZ,nv]
theorem Jx {α:Type}{e:α→List PV}{p:α→Bool}{call:Nat→List V→Option V}{c:Nat}{caps:List V}:∀{xs:List α},(∀x∈xs,call c (.agg ((e x).map .pv)::caps)=some (ar (p x)))→eF call c caps (xs.map e)=some ((xs.filter fun x=> !p x).map e)
 |[],_=>rfl
 |x::xs,h=>by
  have ih:=Jx (xs:=xs) fun y hy=>h y (List.mem_cons_of_mem _ hy)
  have hx:=h x List.mem_cons_self
  rw[List.map_cons,eF,hx,ih]
  cases hp:p x<;>simp[ar,List.filter_cons,hp]
def rX (id:Int)(p:XPage):Bool:=p.id==id
theorem xq {w:XWorld}(hl:w.pages.length≤maxLen)(id:Int):ag Ph aF 638 [w.v,aa .i64 id]=some (aa .i64 (gv (rX id) w.pages)):=by
 have e1:=DT (e:=XPage.e) (p:=rX id) (xs:=w.pages) (k:=658) (z:=11) (kc:=659) (caps:=[[.int .i64 id]]) rfl hl (fun _=>rfl) (fun x _=>by
  refine ae (fn:=kP) rfl ?_
  simp +contextual (maxSteps:=9999999) [kP,XPage.e.eq_1,r9,rX])
 refine ae (fn:=mP) rfl ?_
 simp(maxSteps:=9999999) [mP,kK,pO,e1]
theorem BW {ps:List XPage}(hl:ps.length≤maxLen)(id:Int):ag Ph aF 656 [bu (ps.map XPage.e),aa .i64 id]=some (aa .i64 (gv (rX id) ps)):=by
 refine ae (fn:=o5) rfl ?_
 simp(maxSteps:=9999999) [o5]
 refine aA aM Cl.fin [.t,.t,.f,.f,.f,.t,.f,.f,.f,.f,.f,.f,.f,.f,.f,.f,.f,.f,.f,.f] (fun k=>[(5,aa .i64 k)]) ps.length (iu (rX id) ps) rfl (by simp) (fun k hk hj=> ?_) (fun hj _=> ?_)
 ·have hf:=vE hk hj
  simp +contextual (maxSteps:=9999999) [jI,iu,rX,hk,hf,aD hl hk,aS hk,XPage.e.eq_1 ps[k]]
 ·simp(maxSteps:=9999999) [jI,zp hj]
theorem xT {w:XWorld}(hl:w.pages.length≤maxLen)(id:Int):ag Ph aF 636 [w.v,aa .i64 id]=some (aa .i64 (gv (rX id) w.pages)):=by
 have e1:=BW hl id
 refine ae (fn:=m7) rfl ?_
 simp(maxSteps:=9999999) [m7,e1]
theorem BD {ls:List XLock}(hl:ls.length≤maxLen){i:Nat}(hi:i<ls.length):ag Ph aF 687 [.agg [.pv (.lst (ls.map XLock.e))],aa .i64 (i:Int)]=some (ar (DZ ls i ls[i])):=by
 have w:=dz (e:=XLock.e) (z:=4) (fun _=>rfl) ls
 have hx:=XLock.e.eq_1 ls[i]
 unfold DZ
 refine ae (fn:=oL) rfl ?_
 simp(maxSteps:=9999999) [oL,w,Nat.le_of_lt hi]
 refine aA aM Cl.fin [.f,.t,.t,.f,.f,.f,.f,.f,.f,.f,.t,.t,.t,.f,.f,.f,.f,.f,.f,.f,.f,.f,.f,.f,.f,.f,.f,.f,.f,.f,.f,.f,.f,.f,.f,.f,.f,.f,.f,.f,.f,.f,.f,.f,.f] (fun j=>[(12,aa .i64 j)]) i (iu (Sp ls[i]) ls) rfl (by simp) (fun j hj _=> ?_) (fun _ hq=> ?_)
 ·have hj2:j<ls.length:=by omega
  simp +contextual (maxSteps:=9999999) [jG,iu,Sp,hj,hj2,hi,hx,XLock.e.eq_1 ls[j],aD hl hj2,aS hj]
 ·simp(maxSteps:=9999999) [jG,hq]
theorem Ej {ls:List XLock}(hl:ls.length≤maxLen){i:Nat}(hi:i<ls.length)(x:XLock):ag Ph aF 685 [bu (ls.map XLock.e),aa .i64 (i:Int),x.v]=some (ar (DZ ls i x)):=by
 unfold DZ
 refine ae (fn:=qa) rfl ?_
 simp(maxSteps:=9999999) [qa]
 refine aA aM Cl.fin [.t,.t,.f,.f,.f,.t,.f,.t,.f,.f,.f,.f,.f,.f,.f,.f,.f,.f,.f,.f,.f,.f,.f,.f,.f,.f,.f,.f,.f,.f,.f,.f,.f,.f,.f,.f,.f,.f,.f,.f,.f,.f] (fun j=>[(7,aa .i64 j)]) i (iu (Sp x) ls) rfl (by simp) (fun j hj _=> ?_) (fun _ hq=> ?_)
 ·have hj2:j<ls.length:=by omega
  simp +contextual (maxSteps:=9999999) [kB,iu,Sp,hj,hj2,XLock.e.eq_1 ls[j],aD hl hj2,aS hj]
 ·simp(maxSteps:=9999999) [kB,hq]
theorem vH {ls:List XLock}(h:(XLockTable.mk ls).Ok 1048576):ag Ph aF 662 [.agg [.pv (.lst (ls.map XLock.e))]]=some (.agg [.down 4 ((zr ls).map XLock.e)]):=by
 have hm:ls.length≤maxLen:=Nat.le_trans h.1 (by unfold maxLen;omega)
 have c0:=mf (Nat.le_refl 1048576) h
 refine ae (fn:=lE) rfl ?_
 simp(maxSteps:=9999999) [lE,c0]
 refine cy aM Cl.fin ls.length [.f,.f,.t,.t,.f,.f,.f,.f,.f,.t,.t,.f,.f,.f,.f,.f,.f,.f,.f,.f,.f,.f,.f,.f,.f,.f,.f,.f,.f,.f] (fun k=>[(10,aa .i64 k)]) (fun k=>[.box [.pv (.lst (ls.map XLock.e))], .box [.nil], .darr 4 ((mc ls k).map XLock.e), .box [.arr 2]]) rfl ?_ ?_ ?_
 ·simp[mc]
 ·intro k hk
  have hl2:=pf ls k
  have wk:=aD hm hk
  have lk:=aS hk
  show wp _ (fun e τ=>e= .normal∧Kn ⟨_,[.box [.pv (.lst (ls.map XLock.e))], .box [.nil], .darr 4 ((nP (mc ls k) k).map XLock.e), .box [.arr 2]]⟩ τ) _ _
  generalize mc ls k=L at hl2⊢
  have hk2:k<L.length:=by omega
  have hx:=XLock.e.eq_1 L[k]
  cases hh:L[k].held
  ·rw[xd hk2 hh]
   have e1:=BD (ls:=L) (by omega) hk2
   have he:=Mn (DZ L k L[k]) hk2
   rw[hx]at he
   simp only[List.set_cons_succ,List.set_cons_zero]at he
   rw[he]
   rw[hh]at hx
   generalize DZ L k L[k]=mb at e1⊢
   simp(maxSteps:=9999999) [fK,hk2,hx,e1,wk,lk]
  ·rw[DC hk2 hh]
   rw[hh]at hx
   simp(maxSteps:=9999999) [fK,hk2,hx,wk,lk]
 ·simp(maxSteps:=9999999) [fK,zr]
theorem sD {ls:List XLock}(h:(XLockTable.mk ls).Ok 1048576)(page:Int):ag Ph aF 639 [.agg [.pv (.lst (ls.map XLock.e))],aa .i64 page]=some (.agg [.down 4 ((FO page ls).map XLock.e)]):=by
 have c0:=mf (Nat.le_refl 1048576) h
 have c1:=vH (Jy (page:=page) h)
 have c2:eF (ag Ph aF) 661 [r9 [.int .i64 page]] (ls.map XLock.e)=some ((mF page ls).map XLock.e):=Jx (e:=XLock.e) (p:=fun x:XLock=>x.page==page) fun x _=>by
  refine ae (fn:=iW) rfl ?_
  simp +contextual (maxSteps:=9999999) [iW,XLock.e.eq_1,r9]
 unfold FO
 refine ae (fn:=jY) rfl ?_
 simp(maxSteps:=9999999) [jY,c0,c1,c2,kK,pO,zV]
theorem v6 {ls:List XLock}(h:(XLockTable.mk ls).Ok 1048576):ag Ph aF 657 [.agg [.pv (.lst (ls.map XLock.e))]]=some (.agg [.own 4 ((zr ls).map XLock.e)]):=by
 have hm:ls.length≤maxLen:=Nat.le_trans h.1 (by unfold maxLen;omega)
 have c0:=r7 (Nat.le_refl 1048576) h
 refine ae (fn:=lQ) rfl ?_
 simp(maxSteps:=9999999) [lQ,c0]
 refine cy aM Cl.fin ls.length [.f,.f,.t,.t,.t,.f,.f,.f,.f,.f,.f,.f,.f,.f,.f,.f,.f,.f,.f,.f,.f,.f,.f,.f,.f,.f,.f,.f,.f,.f,.f,.f,.f,.f,.f,.f,.f,.f] (fun k=>[(4,aa .i64 k)]) (fun k=>[.box [.pv (.lst (ls.map XLock.e))], .box [.nil], .arr 4 ((mc ls k).map XLock.e), .box [.arr 2]]) rfl ?_ ?_ ?_
 ·simp[mc]
 ·intro k hk
  have hl2:=pf ls k
  have wk:=aD hm hk
  have lk:=aS hk
  show wp _ (fun e τ=>e= .normal∧Kn ⟨_,[.box [.pv (.lst (ls.map XLock.e))], .box [.nil], .arr 4 ((nP (mc ls k) k).map XLock.e), .box [.arr 2]]⟩ τ) _ _
  generalize mc ls k=L at hl2⊢
  have hk2:k<L.length:=by omega
  have hx:=XLock.e.eq_1 L[k]
  cases hh:L[k].held
  ·have e1:=Ej (ls:=L) (by omega) hk2 L[k]
   cases mb:DZ L k L[k]
   ·rw[Py hk2 hh mb]
    rw[mb]at e1
    simp only[XLock.v]at e1
    rw[hh]at hx e1
    simp(maxSteps:=9999999) [eL,hk,hk2,hx,e1,wk,lk,hl2]
   ·rw[xd hk2 hh,mb]
    have he:=Mn true hk2
    rw[hx]at he
    simp only[List.set_cons_succ,List.set_cons_zero]at he
    rw[he]
    rw[mb]at e1
    simp only[XLock.v]at e1
    rw[hh]at hx e1
    simp(maxSteps:=9999999) [eL,hk,hk2,hx,e1,wk,lk,hl2]
  ·rw[DC hk2 hh]
   rw[hh]at hx
   simp(maxSteps:=9999999) [eL,hk,hk2,hx,wk,lk,hl2]
 ·simp(maxSteps:=9999999) [eL,zr,pf]
def hRl (R K:List (List PV)):List AObj:=match K with
 |[]=>[.box [.pv (.lst R)], .box [.nil], .box [.nil]]
 |r::rs=>[.box [.pv (.lst R)], .box [.nil], .box [.arr 3], .arr 4 (r::rs)]
theorem sY {ls:List XLock}(h:(XLockTable.mk ls).Ok 1048576)(page:Int):ag Ph aF 637 [.agg [.pv (.lst (ls.map XLock.e))],aa .i64 page]=some (.agg [.own 4 ((FO page ls).map XLock.e)]):=by
 have hm:ls.length≤maxLen:=Nat.le_trans h.1 (by unfold maxLen;omega)
 refine ae (fn:=j6) rfl ?_
 simp(maxSteps:=9999999) [j6]
 refine cy aM Cl.fin ls.length [.f,.t,.t,.f,.t,.t,.t,.f,.f,.f,.f,.f,.f,.f,.f,.f,.f,.f,.f,.f,.f,.f,.f,.f,.f,.f,.f,.f,.f,.f,.f,.f,.f,.f,.f] (fun k=>[(6,aa .i64 k)]) (fun k=>hRl (ls.map XLock.e) ((mF page (ls.take k)).map XLock.e)) rfl ?_ ?_ ?_
 ·exact Kn.of [0,1,2] (by decide) (by simp[hRl,mF]) (by simp)
 ·intro k hk
  have hx:=XLock.e.eq_1 ls[k]
  have wk:=aD hm hk
  have lk:=aS hk
  have hl1:ls.length≤1048576:=h.1
  have tl:(mF page (ls.take k)).length≤1048576:=Nat.le_trans (zJ _ _) (by rw[List.length_take];omega)
  have lt:=Lk (page:=page) hk
  rw[lt,List.map_append]
  generalize hK:(mF page (ls.take k)).map XLock.e=K
  have hKl:K.length≤1048576:=by rw[←hK,List.length_map];exact tl
  have m1:=eR (m:=K.length+1) (z:=32) (by omega) (by omega)
  clear hK lt tl
  cases hp:(ls[k].page==page)
  ·cases K with
   |nil=>
    simp(maxSteps:=9999999) [hRl,dx,hk,hx,hp,wk,lk,m1,-eS]
    exact Kn.of [0,1,2,4] (by decide) (by simp[hx]) (by simp)
   |cons r rs=>
    simp only[List.length_cons]at m1
    simp(maxSteps:=9999999) [hRl,dx,hk,hx,hp,wk,lk,m1,-eS]
    exact Kn.of [0,1,2,5] (by decide) (by simp[hx]) (by simp)
  ·cases K with
   |nil=>
    simp(maxSteps:=9999999) [hRl,dx,hk,hx,hp,wk,lk,m1]
   |cons r rs=>
    simp(maxSteps:=9999999) [hRl,dx,hk,hx,hp,wk,lk,m1]
 ·rw[List.take_length]
  have c1:=v6 (Jy (page:=page) h)
  unfold FO
  generalize (zr (mF page ls)).map XLock.e=GR at c1⊢
  cases hK:(mF page ls).map XLock.e<;>rw[hK]at c1<;>simp(maxSteps:=9999999) [hRl,dx,c1]
def ul (p:XPage):XPage:={p with machine:={p.machine with done:=true}}
def ER (w:XWorld)(id:Int):XWorld×Bool:=match xx w,w.pages.findIdx? (rX id)with
 |true,some j=>match w.pages[j]? with
  |some p=>(⟨w.now,w.online,w.device,w.storage,w.pages.set j (ul p),w.nextPage,⟨FO id w.locks.locks⟩,w.channel,w.sites,w.servers⟩,true)
  |none=>(w,false)
 |_,_=>(w,false)
theorem JZ {ps:List XPage}{j:Nat}(hj:j<ps.length):(ps.set j (ul ps[j])).map XPage.e=(ps.map XPage.e).set j ((ps[j]).e.set 9 (.bool true)):=by rw[List.map_set];rfl
theorem zB {w:XWorld}(h:w.Ok 1048576)(id:Int):ag Ph aF 623 [w.v,aa .i64 id]=some (.tup [(true,wN (ER w id).1 (ER w id).1.storage.buckets),(false,[.pv (.bool (ER w id).2)])]):=by
 have c0:=xt (Nat.le_refl 1048576) h
 have e1:=BA h
 have e2:=xq (w:=w) (Nat.le_trans h.2.2.2.1.1 (by unfold maxLen;omega)) id
 have e3:=sD (ls:=w.locks.locks) h.2.2.2.2.2.1 id
 unfold gv at e2
 unfold ER
 cases b1:xx w<;>rw[b1]at e1
 ·simp only
  generalize (match w.pages.findIdx? (rX id)with|some i=>(i:Int)|none=> -1)=F at e2
  rcases fi 24 (w.storage.buckets.map XBucket.e)with⟨q3,u3⟩|⟨q3,u3⟩<;>rcases fi 4 (w.sites.map XSite.e)with⟨q8,u8⟩|⟨q8,u8⟩<;>rcases fi 5 (w.servers.map XServer.e)with⟨q9,u9⟩|⟨q9,u9⟩<;>rw[u3,u8,u9]at c0<;>(refine ae (fn:=fE) rfl ?_;simp(maxSteps:=9999999) [fE,c0,e1,e2,u3,u8,u9])
 obtain⟨n8,n9⟩:=R8 b1
 have u8:=((fi 4 (w.sites.map XSite.e)).resolve_left (fun q=>n8 q.1)).2
 have u9:=((fi 5 (w.servers.map XServer.e)).resolve_left (fun q=>n9 q.1)).2
 rw[u8,u9]at c0
 cases b2:w.pages.findIdx? (rX id)with
 |none=>
  rw[b2]at e2
  simp only at e2⊢
  have l0:dK (-1) 0=true:=rfl
  rcases fi 24 (w.storage.buckets.map XBucket.e)with⟨q3,u3⟩|⟨q3,u3⟩<;>(rw[u3]at c0;refine ae (fn:=fE) rfl ?_;simp(maxSteps:=9999999) [fE,c0,e1,e2,l0,u3,u8,u9])
 |some j=>
  rw[b2]at e2
  obtain⟨hj,_⟩:=List.findIdx?_eq_some_iff_getElem.1 b2
  simp only[hj,List.getElem?_eq_getElem]at e2⊢
  have hp:=JZ hj
  have hx:=XPage.e.eq_1 w.pages[j]
  rw[hx]at hp
  simp only[List.set_cons_succ,List.set_cons_zero]at hp
  simp only[wN,u8,u9]
  rw[hp]
  generalize w.pages.set j (ul w.pages[j])=NB at hp
  rcases fi 24 (w.storage.buckets.map XBucket.e)with⟨q3,u3⟩|⟨q3,u3⟩<;>(rw[u3]at c0;refine ae (fn:=fE) rfl ?_;simp(maxSteps:=9999999) [fE,c0,e1,e2,e3,hj,hx,vT,u3])
theorem Ac {w:XWorld}(h:w.Ok 1048576)(id:Int):ag Ph aF 622 [w.v,aa .i64 id]=some (.tup [(true,wO (ER w id).1 (ER w id).1.storage.buckets),(false,[.pv (.bool (ER w id).2)])]):=by
 have c0:=B1 (Nat.le_refl 1048576) h
 have e1:=BI h
 have e2:=xT (w:=w) (Nat.le_trans h.2.2.2.1.1 (by unfold maxLen;omega)) id
 have e3:=sY (ls:=w.locks.locks) h.2.2.2.2.2.1 id
 unfold gv at e2
 unfold ER
 cases b1:xx w<;>rw[b1]at e1
 ·simp only
  generalize (match w.pages.findIdx? (rX id)with|some i=>(i:Int)|none=> -1)=F at e2
  rcases HL 24 (w.storage.buckets.map XBucket.e)with⟨q3,u3,u4⟩|⟨q3,u3,u4⟩<;>rw[u3]at c0<;>(refine ae (fn:=fG) rfl ?_;simp(maxSteps:=9999999) [fG,c0,e1,e2,u4])
 cases b2:w.pages.findIdx? (rX id)with
 |none=>
  rw[b2]at e2
  simp only at e2⊢
  have l0:dK (-1) 0=true:=rfl
  rcases HL 24 (w.storage.buckets.map XBucket.e)with⟨q3,u3,u4⟩|⟨q3,u3,u4⟩<;>rw[u3]at c0<;>(refine ae (fn:=fG) rfl ?_;simp(maxSteps:=9999999) [fG,c0,e1,e2,l0,u4])
 |some j=>
  rw[b2]at e2
  obtain⟨hj,_⟩:=List.findIdx?_eq_some_iff_getElem.1 b2
  simp only[hj,List.getElem?_eq_getElem]at e2⊢
  have hp:=JZ hj
  have hx:=XPage.e.eq_1 w.pages[j]
  rw[hx]at hp
  simp only[List.set_cons_succ,List.set_cons_zero]at hp
  simp only[wO]
  rw[hp]
  generalize w.pages.set j (ul w.pages[j])=NB at hp
  rcases HL 24 (w.storage.buckets.map XBucket.e)with⟨q3,u3,u4⟩|⟨q3,u3,u4⟩<;>rw[u3]at c0<;>(refine ae (fn:=fG) rfl ?_;simp(maxSteps:=9999999) [fG,c0,e1,e2,e3,hj,hx,vT,u4])
end Gi
