/- A part. -/
import Derived.Test.YtndiampmpmbfoaaGreatGmC
import Derived.Test.YtndiampmpmbfoaaGreatGlP
import Derived.Test.YtndiampmpmbfoaaGreatGkj
set_option linter.all false
namespace Gi
open Go Go.RowKit
set_option maxHeartbeats 8000000
set_option maxRecDepth 4000
attribute [local simp] start ah aG bc bG cz Opd.ev put V.cells plain bA gv isInt isStr isBool bin cG qm ql un asList L.view al V.view viewL aZ am cj bS comp aO bJ cT bW bw bu bv aS aE bT aw aR aW aK br bq ba bz bB V.flat L.flat da df bD putAt thaw thawL thawT freezeVs freezeLs freezeL V.mut L.mut aJ aY dq ca dD bU cf wp_seq wp_block qg wp_cond wp_skip wp_exit wp_ret co cH cL cK cP cQ cO bV aM L.bC aV aT aU fa bt storeD bf fm ai ct aA nq L.bG L.closed V.closed PV.bare PV.flat
def hv (b0 b1 b2:Y0)(rest:List Y0)(z:Nat)(rows:List (List PV))(k:Nat):List Y0:=b0::b1::b2::(rest++[.bA z (rows.take k)])
def uY {B:Nat}(hB:B<=1048576){x:YI}(h:x.Ok B):ag Ph aC 433 [.agg [.pv (.int .i64 x.al), .pv (.bool x.aO), .pv (.int .i64 x.aQ), .pv (.lst (x.a8.a2.map Y4.e)), .pv (.lst (x.aJ.map Z8.e)), .pv (.int .i64 x.aH), .pv (.lst (x.aI.aI.map Z6.e)), .pv (.lst (x.aN.aU.map Z9.e)), .pv (.lst (x.aK.map Z7.e)), .pv (.lst (x.a4.map Y3.e))]]=some (.agg [.pv (.int .i64 x.al), .pv (.bool x.aO), .pv (.int .i64 x.aQ),nd 24 (x.a8.a2.map Y4.e), .down 11 (x.aJ.map Z8.e), .pv (.int .i64 x.aH), .down 4 (x.aI.aI.map Z6.e), .down 3 (x.aN.aU.map Z9.e), .down 4 (x.aK.map Z7.e), .down 5 (x.a4.map Y3.e)]):=by
 obtain⟨ay,ar,a5,ab,af,aj,a6,ad,a1⟩:=h
 have c0:=Ey hB a5
 have c2:=Eu hB aj
 have c3:=Ev hB a6
 have ak:∀k(hk:k<x.aJ.length),_:=fun k hk=>Er hB (ab.2 _ (Zf hk))
 have az:x.aJ.length<=1048576:=Zc ab.1 hB
 have an:∀k(hk:k<x.aK.length),_:=fun k hk=>Eo hB (ad.2 _ (Zf hk))
 have aF:x.aK.length<=1048576:=Zc ad.1 hB
 have a7:∀k(hk:k<x.a4.length),_:=fun k hk=>pX hB (a1.2 _ (Zf hk))
 have au:x.a4.length<=1048576:=Zc a1.1 hB
 clear ay ar a5 ab af aj a6 ad a1
 have N:=fq 24 (x.a8.a2.map Y4.e)
 generalize nd 24 (x.a8.a2.map Y4.e)=n at N c0⊢
 rcases N with⟨-,rfl⟩|⟨-,rfl⟩
 ·refine ae rfl ?_
  simp[kX,c0,c2,c3]
  refine dB bh Cl.fin x.aJ.length [.f,.t,.t,.t,.t,.f,.f,.f,.f,.f,.f,.f,.f,.f,.f,.f,.f,.f,.f,.f,.f,.f,.f,.f,.f,.f,.f,.f,.f,.f,.f,.f,.f,.f,.f,.f,.f,.f,.f,.f,.f,.f,.f,.f,.f,.f,.f,.f,.f,.f,.f,.f,.f,.f,.f,.f,.f,.f,.f,.f,.f,.f,.f,.f,.f,.f,.f,.f,.f,.f,.f,.f,.f,.f,.f,.f,.f,.f,.f,.f,.f] (fun k=>[(4,aa .i64 k)]) (hv (.box [.pv (.int .i64 x.al), .pv (.bool x.aO), .pv (.int .i64 x.aQ), .pv (.lst (x.a8.a2.map Y4.e)), .pv (.lst (x.aJ.map Z8.e)), .pv (.int .i64 x.aH), .pv (.lst (x.aI.aI.map Z6.e)), .pv (.lst (x.aN.aU.map Z9.e)), .pv (.lst (x.aK.map Z7.e)), .pv (.lst (x.a4.map Y3.e))]) (.box [.pv (.int .i64 0), .pv (.bool false), .pv (.int .i64 0), .nil, .nil, .pv (.int .i64 0), .nil, .nil, .nil, .nil]) (.box [.pv (.int .i64 x.al), .pv (.bool x.aO), .pv (.int .i64 x.aQ), .nil, .arr 3, .pv (.int .i64 x.aH), .pv (.lst (x.aI.aI.map Z6.e)), .pv (.lst (x.aN.aU.map Z9.e)), .pv (.lst (x.aK.map Z7.e)), .pv (.lst (x.a4.map Y3.e))]) [] 11 (x.aJ.map Z8.e)) rfl ?_ ?_ ?_
  ·exact Kn.q [0,1,2,3] (by simp[hv,Zg,Zi,ZQ,aV,aT,aU,fa,bt,be,bC,aN,dC,bQ,bj,bX,L.bD,aW])
  ·intro k hk
   have ek:=ak k hk
   have hx:=Z8.e.eq_1 x.aJ[k]
   have ht:=cU (e:=Z8.e) hk
   rw[hx]at ht
   cases k with
   |zero=>
    simp only[hv,Zg,Zi,ZQ,ht]
    simp[eh,hk,hx,ek,cV]
    exact Kn.q [0,1,2,8]
   |succ k=>
    obtain⟨i1,i2,i3,i4,i5,i6⟩:=pk (n:=x.aJ.length) (by unfold maxLen;omega) hk
    have m1:=ez (m:=k+1+1) (z:=144) (by omega) (by omega)
    simp only[hv,Zg,Zi,ZQ,ht]
    generalize hT:List.take (k+1) _=T
    have ao:T.length=k+1:=by rw[<-hT];simp;omega
    simp[eh,hk,hx,ek,i1,i2,i3,i4,i5,i6,ao,m1]
    exact Kn.q [0,1,2,8]
  have b5:(x.aJ.map Z8.e).take x.aJ.length=(x.aJ.map Z8.e):=Zs (by simp)
  simp only[hv,b5,Zg,Zi]
  simp[eh,c2,c3]
  refine dB bh Cl.fin x.aK.length [.f,.t,.t,.t,.f,.t,.f,.f,.f,.f,.f,.f,.f,.f,.f,.f,.f,.f,.f,.f,.f,.f,.f,.f,.f,.f,.f,.f,.f,.f,.f,.f,.f,.f,.f,.f,.f,.f,.f,.f,.f,.f,.f,.f,.f,.f,.f,.f,.f,.f,.f,.f,.f,.f,.f,.f,.f,.f,.f,.f,.f,.f,.f,.f,.f,.f,.f,.f,.f,.f,.f,.f,.f,.f,.f,.f,.f,.f,.f,.f,.f] (fun k=>[(5,aa .i64 k)]) (hv (.box [.pv (.int .i64 x.al), .pv (.bool x.aO), .pv (.int .i64 x.aQ), .pv (.lst (x.a8.a2.map Y4.e)), .pv (.lst (x.aJ.map Z8.e)), .pv (.int .i64 x.aH), .pv (.lst (x.aI.aI.map Z6.e)), .pv (.lst (x.aN.aU.map Z9.e)), .pv (.lst (x.aK.map Z7.e)), .pv (.lst (x.a4.map Y3.e))]) (.box [.pv (.int .i64 0), .pv (.bool false), .pv (.int .i64 0), .nil, .nil, .pv (.int .i64 0), .nil, .nil, .nil, .nil]) (.box [.pv (.int .i64 x.al), .pv (.bool x.aO), .pv (.int .i64 x.aQ), .nil, .arr 3, .pv (.int .i64 x.aH), .arr 4, .arr 5, .arr 6, .pv (.lst (x.a4.map Y3.e))]) [.bA 11 (x.aJ.map Z8.e), .bA 4 (x.aI.aI.map Z6.e), .bA 3 (x.aN.aU.map Z9.e)] 4 (x.aK.map Z7.e)) rfl ?_ ?_ ?_
  ·exact Kn.q [0,1,2,3,4,5,6] (by simp[hv,Zg,Zi,ZQ,aV,aT,aU,fa,bt,be,bC,aN,dC,bQ,bj,bX,L.bD,aW])
  ·intro k hk
   have ek:=an k hk
   have hx:=Z7.e.eq_1 x.aK[k]
   have ht:=cU (e:=Z7.e) hk
   rw[hx]at ht
   cases k with
   |zero=>
    simp only[hv,Zg,Zi,ZQ,ht]
    simp[eO,hk,hx,ek,cV]
    exact Kn.q [0,1,2,3,4,5,9]
   |succ k=>
    obtain⟨i1,i2,i3,i4,i5,i6⟩:=pk (n:=x.aK.length) (by unfold maxLen;omega) hk
    have m1:=ez (m:=k+1+1) (z:=56) (by omega) (by omega)
    simp only[hv,Zg,Zi,ZQ,ht]
    generalize hT:List.take (k+1) _=T
    have ao:T.length=k+1:=by rw[<-hT];simp;omega
    simp[eO,hk,hx,ek,i1,i2,i3,i4,i5,i6,ao,m1]
    exact Kn.q [0,1,2,3,4,5,9]
  have b6:(x.aK.map Z7.e).take x.aK.length=(x.aK.map Z7.e):=Zs (by simp)
  simp only[hv,b6,Zg,Zi]
  simp[eO]
  refine dB bh Cl.fin x.a4.length [.f,.t,.t,.t,.f,.f,.t,.f,.f,.f,.f,.f,.f,.f,.f,.f,.f,.f,.f,.f,.f,.f,.f,.f,.f,.f,.f,.f,.f,.f,.f,.f,.f,.f,.f,.f,.f,.f,.f,.f,.f,.f,.f,.f,.f,.f,.f,.f,.f,.f,.f,.f,.f,.f,.f,.f,.f,.f,.f,.f,.f,.f,.f,.f,.f,.f,.f,.f,.f,.f,.f,.f,.f,.f,.f,.f,.f,.f,.f,.f,.f] (fun k=>[(6,aa .i64 k)]) (hv (.box [.pv (.int .i64 x.al), .pv (.bool x.aO), .pv (.int .i64 x.aQ), .pv (.lst (x.a8.a2.map Y4.e)), .pv (.lst (x.aJ.map Z8.e)), .pv (.int .i64 x.aH), .pv (.lst (x.aI.aI.map Z6.e)), .pv (.lst (x.aN.aU.map Z9.e)), .pv (.lst (x.aK.map Z7.e)), .pv (.lst (x.a4.map Y3.e))]) (.box [.pv (.int .i64 0), .pv (.bool false), .pv (.int .i64 0), .nil, .nil, .pv (.int .i64 0), .nil, .nil, .nil, .nil]) (.box [.pv (.int .i64 x.al), .pv (.bool x.aO), .pv (.int .i64 x.aQ), .nil, .arr 3, .pv (.int .i64 x.aH), .arr 4, .arr 5, .arr 6, .arr 7]) [.bA 11 (x.aJ.map Z8.e), .bA 4 (x.aI.aI.map Z6.e), .bA 3 (x.aN.aU.map Z9.e), .bA 4 (x.aK.map Z7.e)] 5 (x.a4.map Y3.e)) rfl ?_ ?_ ?_
  ·exact Kn.q [0,1,2,3,4,5,6,7] (by simp[hv,Zg,Zi,ZQ,aV,aT,aU,fa,bt,be,bC,aN,dC,bQ,bj,bX,L.bD,aW])
  ·intro k hk
   have ek:=a7 k hk
   have hx:=Y3.e.eq_1 x.a4[k]
   have ht:=cU (e:=Y3.e) hk
   rw[hx]at ht
   have N0:=fq 4 (x.a4[k].aD.a0.map Y1.e)
   generalize nd 4 (x.a4[k].aD.a0.map Y1.e)=n0 at N0 ek
   cases k with
   |zero=>
    simp only[hv,Zg,Zi,ZQ,ht]
    rcases N0 with⟨q0,rfl⟩|⟨q0,rfl⟩
    ·simp only[q0]at ek
     simp[dh,hk,hx,ek,cV,q0]
     exact Kn.q [0,1,2,3,4,5,6,11]
    ·simp[dh,hk,hx,ek,cV]
     exact Kn.q [0,1,2,3,4,5,6,12]
   |succ k=>
    obtain⟨i1,i2,i3,i4,i5,i6⟩:=pk (n:=x.a4.length) (by unfold maxLen;omega) hk
    have m1:=ez (m:=k+1+1) (z:=96) (by omega) (by omega)
    simp only[hv,Zg,Zi,ZQ,ht]
    generalize hT:List.take (k+1) _=T
    have ao:T.length=k+1:=by rw[<-hT];simp;omega
    rcases N0 with⟨q0,rfl⟩|⟨q0,rfl⟩
    ·simp only[q0]at ek
     simp[dh,hk,hx,ek,i1,i2,i3,i4,i5,i6,ao,m1,q0]
     exact Kn.q [0,1,2,3,4,5,6,11]
    ·simp[dh,hk,hx,ek,i1,i2,i3,i4,i5,i6,ao,m1]
     exact Kn.q [0,1,2,3,4,5,6,12]
  have b7:(x.a4.map Y3.e).take x.a4.length=(x.a4.map Y3.e):=Zs (by simp)
  simp only[hv,b7,Zg,Zi]
  simp[dh]
 ·refine ae rfl ?_
  simp[kX,c0,c2,c3]
  refine dB bh Cl.fin x.aJ.length [.f,.t,.t,.t,.t,.f,.f,.f,.f,.f,.f,.f,.f,.f,.f,.f,.f,.f,.f,.f,.f,.f,.f,.f,.f,.f,.f,.f,.f,.f,.f,.f,.f,.f,.f,.f,.f,.f,.f,.f,.f,.f,.f,.f,.f,.f,.f,.f,.f,.f,.f,.f,.f,.f,.f,.f,.f,.f,.f,.f,.f,.f,.f,.f,.f,.f,.f,.f,.f,.f,.f,.f,.f,.f,.f,.f,.f,.f,.f,.f,.f] (fun k=>[(4,aa .i64 k)]) (hv (.box [.pv (.int .i64 x.al), .pv (.bool x.aO), .pv (.int .i64 x.aQ), .pv (.lst (x.a8.a2.map Y4.e)), .pv (.lst (x.aJ.map Z8.e)), .pv (.int .i64 x.aH), .pv (.lst (x.aI.aI.map Z6.e)), .pv (.lst (x.aN.aU.map Z9.e)), .pv (.lst (x.aK.map Z7.e)), .pv (.lst (x.a4.map Y3.e))]) (.box [.pv (.int .i64 0), .pv (.bool false), .pv (.int .i64 0), .nil, .nil, .pv (.int .i64 0), .nil, .nil, .nil, .nil]) (.box [.pv (.int .i64 x.al), .pv (.bool x.aO), .pv (.int .i64 x.aQ), .arr 3, .arr 4, .pv (.int .i64 x.aH), .pv (.lst (x.aI.aI.map Z6.e)), .pv (.lst (x.aN.aU.map Z9.e)), .pv (.lst (x.aK.map Z7.e)), .pv (.lst (x.a4.map Y3.e))]) [.bA 24 (x.a8.a2.map Y4.e)] 11 (x.aJ.map Z8.e)) rfl ?_ ?_ ?_
  ·exact Kn.q [0,1,2,3,4] (by simp[hv,Zg,Zi,ZQ,aV,aT,aU,fa,bt,be,bC,aN,dC,bQ,bj,bX,L.bD,aW])
  ·intro k hk
   have ek:=ak k hk
   have hx:=Z8.e.eq_1 x.aJ[k]
   have ht:=cU (e:=Z8.e) hk
   rw[hx]at ht
   cases k with
   |zero=>
    simp only[hv,Zg,Zi,ZQ,ht]
    simp[eh,hk,hx,ek,cV]
    exact Kn.q [0,1,2,3,9]
   |succ k=>
    obtain⟨i1,i2,i3,i4,i5,i6⟩:=pk (n:=x.aJ.length) (by unfold maxLen;omega) hk
    have m1:=ez (m:=k+1+1) (z:=144) (by omega) (by omega)
    simp only[hv,Zg,Zi,ZQ,ht]
    generalize hT:List.take (k+1) _=T
    have ao:T.length=k+1:=by rw[<-hT];simp;omega
    simp[eh,hk,hx,ek,i1,i2,i3,i4,i5,i6,ao,m1]
    exact Kn.q [0,1,2,3,9]
  have b5:(x.aJ.map Z8.e).take x.aJ.length=(x.aJ.map Z8.e):=Zs (by simp)
  simp only[hv,b5,Zg,Zi]
  simp[eh,c2,c3]
  refine dB bh Cl.fin x.aK.length [.f,.t,.t,.t,.f,.t,.f,.f,.f,.f,.f,.f,.f,.f,.f,.f,.f,.f,.f,.f,.f,.f,.f,.f,.f,.f,.f,.f,.f,.f,.f,.f,.f,.f,.f,.f,.f,.f,.f,.f,.f,.f,.f,.f,.f,.f,.f,.f,.f,.f,.f,.f,.f,.f,.f,.f,.f,.f,.f,.f,.f,.f,.f,.f,.f,.f,.f,.f,.f,.f,.f,.f,.f,.f,.f,.f,.f,.f,.f,.f,.f] (fun k=>[(5,aa .i64 k)]) (hv (.box [.pv (.int .i64 x.al), .pv (.bool x.aO), .pv (.int .i64 x.aQ), .pv (.lst (x.a8.a2.map Y4.e)), .pv (.lst (x.aJ.map Z8.e)), .pv (.int .i64 x.aH), .pv (.lst (x.aI.aI.map Z6.e)), .pv (.lst (x.aN.aU.map Z9.e)), .pv (.lst (x.aK.map Z7.e)), .pv (.lst (x.a4.map Y3.e))]) (.box [.pv (.int .i64 0), .pv (.bool false), .pv (.int .i64 0), .nil, .nil, .pv (.int .i64 0), .nil, .nil, .nil, .nil]) (.box [.pv (.int .i64 x.al), .pv (.bool x.aO), .pv (.int .i64 x.aQ), .arr 3, .arr 4, .pv (.int .i64 x.aH), .arr 5, .arr 6, .arr 7, .pv (.lst (x.a4.map Y3.e))]) [.bA 24 (x.a8.a2.map Y4.e), .bA 11 (x.aJ.map Z8.e), .bA 4 (x.aI.aI.map Z6.e), .bA 3 (x.aN.aU.map Z9.e)] 4 (x.aK.map Z7.e)) rfl ?_ ?_ ?_
  ·exact Kn.q [0,1,2,3,4,5,6,7] (by simp[hv,Zg,Zi,ZQ,aV,aT,aU,fa,bt,be,bC,aN,dC,bQ,bj,bX,L.bD,aW])
  ·intro k hk
   have ek:=an k hk
   have hx:=Z7.e.eq_1 x.aK[k]
   have ht:=cU (e:=Z7.e) hk
   rw[hx]at ht
   cases k with
   |zero=>
    simp only[hv,Zg,Zi,ZQ,ht]
    simp[eO,hk,hx,ek,cV]
    exact Kn.q [0,1,2,3,4,5,6,10]
   |succ k=>
    obtain⟨i1,i2,i3,i4,i5,i6⟩:=pk (n:=x.aK.length) (by unfold maxLen;omega) hk
    have m1:=ez (m:=k+1+1) (z:=56) (by omega) (by omega)
    simp only[hv,Zg,Zi,ZQ,ht]
    generalize hT:List.take (k+1) _=T
    have ao:T.length=k+1:=by rw[<-hT];simp;omega
    simp[eO,hk,hx,ek,i1,i2,i3,i4,i5,i6,ao,m1]
    exact Kn.q [0,1,2,3,4,5,6,10]
  have b6:(x.aK.map Z7.e).take x.aK.length=(x.aK.map Z7.e):=Zs (by simp)
  simp only[hv,b6,Zg,Zi]
  simp[eO]
  refine dB bh Cl.fin x.a4.length [.f,.t,.t,.t,.f,.f,.t,.f,.f,.f,.f,.f,.f,.f,.f,.f,.f,.f,.f,.f,.f,.f,.f,.f,.f,.f,.f,.f,.f,.f,.f,.f,.f,.f,.f,.f,.f,.f,.f,.f,.f,.f,.f,.f,.f,.f,.f,.f,.f,.f,.f,.f,.f,.f,.f,.f,.f,.f,.f,.f,.f,.f,.f,.f,.f,.f,.f,.f,.f,.f,.f,.f,.f,.f,.f,.f,.f,.f,.f,.f,.f] (fun k=>[(6,aa .i64 k)]) (hv (.box [.pv (.int .i64 x.al), .pv (.bool x.aO), .pv (.int .i64 x.aQ), .pv (.lst (x.a8.a2.map Y4.e)), .pv (.lst (x.aJ.map Z8.e)), .pv (.int .i64 x.aH), .pv (.lst (x.aI.aI.map Z6.e)), .pv (.lst (x.aN.aU.map Z9.e)), .pv (.lst (x.aK.map Z7.e)), .pv (.lst (x.a4.map Y3.e))]) (.box [.pv (.int .i64 0), .pv (.bool false), .pv (.int .i64 0), .nil, .nil, .pv (.int .i64 0), .nil, .nil, .nil, .nil]) (.box [.pv (.int .i64 x.al), .pv (.bool x.aO), .pv (.int .i64 x.aQ), .arr 3, .arr 4, .pv (.int .i64 x.aH), .arr 5, .arr 6, .arr 7, .arr 8]) [.bA 24 (x.a8.a2.map Y4.e), .bA 11 (x.aJ.map Z8.e), .bA 4 (x.aI.aI.map Z6.e), .bA 3 (x.aN.aU.map Z9.e), .bA 4 (x.aK.map Z7.e)] 5 (x.a4.map Y3.e)) rfl ?_ ?_ ?_
  ·exact Kn.q [0,1,2,3,4,5,6,7,8] (by simp[hv,Zg,Zi,ZQ,aV,aT,aU,fa,bt,be,bC,aN,dC,bQ,bj,bX,L.bD,aW])
  ·intro k hk
   have ek:=a7 k hk
   have hx:=Y3.e.eq_1 x.a4[k]
   have ht:=cU (e:=Y3.e) hk
   rw[hx]at ht
   have N0:=fq 4 (x.a4[k].aD.a0.map Y1.e)
   generalize nd 4 (x.a4[k].aD.a0.map Y1.e)=n0 at N0 ek
   cases k with
   |zero=>
    simp only[hv,Zg,Zi,ZQ,ht]
    rcases N0 with⟨q0,rfl⟩|⟨q0,rfl⟩
    ·simp only[q0]at ek
     simp[dh,hk,hx,ek,cV,q0]
     exact Kn.q [0,1,2,3,4,5,6,7,12]
    ·simp[dh,hk,hx,ek,cV]
     exact Kn.q [0,1,2,3,4,5,6,7,13]
   |succ k=>
    obtain⟨i1,i2,i3,i4,i5,i6⟩:=pk (n:=x.a4.length) (by unfold maxLen;omega) hk
    have m1:=ez (m:=k+1+1) (z:=96) (by omega) (by omega)
    simp only[hv,Zg,Zi,ZQ,ht]
    generalize hT:List.take (k+1) _=T
    have ao:T.length=k+1:=by rw[<-hT];simp;omega
    rcases N0 with⟨q0,rfl⟩|⟨q0,rfl⟩
    ·simp only[q0]at ek
     simp[dh,hk,hx,ek,i1,i2,i3,i4,i5,i6,ao,m1,q0]
     exact Kn.q [0,1,2,3,4,5,6,7,12]
    ·simp[dh,hk,hx,ek,i1,i2,i3,i4,i5,i6,ao,m1]
     exact Kn.q [0,1,2,3,4,5,6,7,13]
  have b7:(x.a4.map Y3.e).take x.a4.length=(x.a4.map Y3.e):=Zs (by simp)
  simp only[hv,b7,Zg,Zi]
  simp[dh]
end Gi
namespace Gi
open Go Go.RowKit
set_option maxHeartbeats 8000000
set_option maxRecDepth 4000
attribute [local simp] start qh bG cz dk eR dj eQ eW eV se sx sf sy sh sA si sB sj sC sk sD so sE sp sF su sG V.cells plain bA gv isInt isStr isBool bin cu iq cy ir eS un asList L.view al V.view viewL aZ am cD bM bS comp aO bJ cT bW bw bu bv aS aE bT aw aR aW aK br bq ba bz bB V.flat L.flat da df bD putAt thaw thawL thawT V.ow eU dx dy cB eT cC dw freezeVs freezeLs freezeL V.mut L.mut aJ eF gQ be bC aN dC bQ bj bX L.bD aY dq ca dD bU cf wp_seq wp_block bm dA cE bN cF wp_skip wp_exit wp_ret co cH cL cK cP cQ cO bV aM L.bC aV aT aU dz bt storeD bf fm ai ct aA nq L.bG L.closed V.closed PV.bare PV.flat
def WA (s:Y7):List L:=[.pv (.str s.aE),pB (s.a0.map Y1.e), .pv (.int .i64 s.aT)]
def T8 (x:Y7×Bool):da (KJ x)= .b9 [(true,WA x.1),(false,[.pv (.bool x.2)])]:=by simp[da, ↓br,df,WA]
def Vj (s:Y7):da (.agg [.pv (.str s.aE),nd 4 (s.a0.map Y1.e), .pv (.int .i64 s.aT)])= .agg (WA s):=by simp[da, ↓bq,df,WA]
def it (s:Y7)(k:YL):Z4:=match s.a0[(dQ (Ci k) s.a0).toNat]? with
 |some x=>if 0<=dQ (Ci k) s.a0 then x.aq else⟨[]⟩
 |none=>⟨[]⟩
def PX {α:Type}{p:α->Bool}{xs:List α}(h:0<=dQ p xs):(dQ p xs).toNat<xs.length:=by
 rcases wO p xs with e|⟨k,hk,e,_⟩
 ·rw[e]at h;omega
 ·rw[e];simpa using hk
def Qn {s:Y7}{k:YL}(h:0<=dQ (Ci k) s.a0):∃x,s.a0[(dQ (Ci k) s.a0).toNat]? =some x/\ it s k=x.aq:=by
 refine⟨_,Zm (PX h),?_⟩
 unfold it;rw[Zm (PX h)];simp only[if_pos h]
def Qm {s:Y7}{k:YL}(h:¬0<=dQ (Ci k) s.a0):it s k=⟨[]⟩:=by
 unfold it;split<;>simp[h]
def G0 {B:Nat}{s:Y7}(h:s.Ok B)(k:YL):(it s k).Ok B:=by
 unfold it
 split
 ·rename_i x e
  split
  ·exact(h.2.1.2 x (Zl e)).2
  ·exact⟨Zb9 _,fun f m=>by simp at m⟩
 ·exact⟨Zb9 _,fun f m=>by simp at m⟩
def Yk {n a b:Int}:rg n a b=true↔a<=n/\ n<=b:=by simp[rg,bO]
def X9 {fs:List Y8}(h:dX fs=true):fs.length<=6/\ ∀f∈fs,f.aE.length<=8/\ 0<=f.n/\ f.n<=1000000000000:=by
 simp only[dX,Zh,ZJ]at h
 have hl:=of_decide_eq_false h.2
 refine⟨by omega,fun f m=> ?_⟩
 obtain⟨j,hj,rfl⟩:=I'.1 m
 have:=uc h.1 hj
 simp only[LS,hj,show j-1<fs.length by omega,Zm,K',Za2,Yk]at this
 have q:=this.1
 simp only[dg,qX,Zh,Yk]at q
 exact⟨by omega,this.2.1.1,by omega⟩
def TH {B:Nat}(hB:16<=B){fs:List Y8}(h:dX fs=true):(⟨fs⟩:Z4).Ok B:=by
 obtain⟨h1,h2⟩:=X9 h
 refine⟨by simp only;omega,fun f m=> ?_⟩
 obtain⟨q1,q2,q3⟩:=h2 f m
 exact⟨by omega,by unfold me;omega⟩
def KO {B:Nat}(hB:16<=B){r:Z4}(h:r.Ok B)(nm:List UInt8)(n:Int):(⟨(setR r.fs nm n).1⟩:Z4).Ok B:=by
 unfold setR
 cases c:dX r.fs&&dX (uI r.fs nm n)with
 |false=>exact h
 |true=>
  rw[Zh]at c
  exact TH hB c.2
def Vg {B:Nat}(hB:17<=B){s:Y7}(h:s.Ok B){k:YL}(hk:k.Ok B){r:Z4}(hr:r.Ok B):(xt s k r).1.Ok B:=by
 unfold xt
 cases dW s&&(kD k&&dX r.fs)with
 |false=>exact h
 |true=>
  simp only[cond_true]
  split
  ·exact⟨h.1,KP h hk hr _,h.2.2⟩
  ·split
   ·exact h
   ·rename_i hl
    have bg:=Kt h hk hr
    have hlen:(p6 s k r).length=s.a0.length+1:=by
     have:=AD s.a0 k
     simp[p6];omega
    refine⟨h.1,⟨by simp only;omega,fun x m=> ?_⟩,LQ h.2.2 hk.2.1⟩
    simp only[p6,H',ZL]at m
    rcases m with m|rfl|m
    ·exact h.2.1.2 x (ZI m)
    ·exact⟨hk,hr⟩
    ·exact h.2.1.2 x (Za0 m)
def vj (s:Y7)(w:Y2):Y7×Bool:=cond (setR (it s w.aX).fs w.aP w.n).2 (xt s w.aX ⟨(setR (it s w.aX).fs w.aP w.n).1⟩) (s,false)
def Vk {B:Nat}(hB:17<=B){s:Y7}(h:s.Ok B){w:Y2}(hw:w.Ok B):(vj s w).1.Ok B:=by
 unfold vj
 cases(setR (it s w.aX).fs w.aP w.n).2 with
 |false=>exact h
 |true=>exact Vg hB h hw.2.2.1 (KO (by omega) (G0 h _) _ _)
def Wv {s:Y7}{w:Y2}(h:(vj s w).2=false):(vj s w).1=s:=by
 unfold vj at h⊢
 cases c:(setR (it s w.aX).fs w.aP w.n).2 with
 |false=>rfl
 |true=>
  rw[c]at h
  simp only[cond_true]at h⊢
  unfold xt at h⊢
  cases d:dW s&&(kD w.aX&&dX (setR (it s w.aX).fs w.aP w.n).1)with
  |false=>rw[cond_false]
  |true=>
   rw[d]at h
   simp only[cond_true]at h⊢
   split at h
   ·cases h
   ·split at h
    ·rename_i h1 h2;rw[if_neg h1,if_pos h2]
    ·cases h
def T9 (x:List Y8×Bool):da (Cu x)= .b9 [(true,[.pv (.lst (x.1.map Y8.e))]),(false,[.pv (.bool x.2)])]:=by simp[da,df]
def vF {B:Nat}(b8:17<=B)(hB:B<=1048576){s:Y7}(h:s.Ok B){w:Y2}(hw:w.Ok B):ag Ph aC 326 [s.v, .agg (w.e.map .pv)]=some (uE (vj s w)):=by
 have hl:s.a0.length<=1048576:=Zc h.2.1.1 hB
 have b3:=G0 h w.aX
 have e1:=iL hB h
 have e2:=tC (s:=s) (by unfold maxLen;omega) w.aX
 have e3:ag Ph aC 341 [.agg [.pv (.lst ((it s w.aX).fs.map Y8.e))],eE w.aP,aa .i64 w.n]=some (Cu (setR (it s w.aX).fs w.aP w.n)):=B8 hB b3 hw.2.2.2.1 hw.2.2.2.2
 have e4:ag Ph aC 342 [s.v,w.aX.v, .agg [.pv (.lst ((setR (it s w.aX).fs w.aP w.n).1.map Y8.e))]]=some (uE (xt s w.aX ⟨(setR (it s w.aX).fs w.aP w.n).1⟩)):=Ec hB h hw.2.2.1 (KO (by omega) b3 _ _)
 have b1:(!(bO (dQ (Ci w.aX) s.a0) 0))=decide (0<=dQ (Ci w.aX) s.a0):=by unfold bO;by_cases q:0<=dQ (Ci w.aX) s.a0<;>simp[q];omega
 have ht:=Qn (s:=s) (k:=w.aX)
 have hf:=Qm (s:=s) (k:=w.aX)
 unfold vj
 generalize xt s w.aX ⟨(setR (it s w.aX).fs w.aP w.n).1⟩=p at*
 generalize setR (it s w.aX).fs w.aP w.n=sr at*
 generalize it s w.aX=rc at*
 generalize dQ (Ci w.aX) s.a0=i at*
 obtain⟨bb,b⟩:=sr
 obtain⟨p1,p2⟩:=p
 simp only[uE]at e3 e4⊢
 by_cases q:0<=i
 ·obtain⟨x,hi,hx⟩:=ht q
  have av:=Y1.e.eq_1 x
  rw[<-hx]at av
  have hm:(s.a0.map Y1.e)[i.toNat]? =some x.e:=by rw[Zp,hi];rfl
  cases b
  ·rcases kF 4 (s.a0.map Y1.e)with⟨_,u,_⟩|⟨_,u,_⟩<;>rw[u]at e1<;>(refine ae rfl ?_;simp(maxSteps:=9^9) [dH,Y2.e.eq_1,e1,e2,e3,b1,q,hm,av,u])
  ·rcases kF 4 (p1.a0.map Y1.e)with⟨_,u,_⟩|⟨_,u,_⟩<;>rw[u]at e4<;>(refine ae rfl ?_;simp(maxSteps:=9^9) [dH,Y2.e.eq_1,e2,e3,e4,b1,q,hm,av,u])
 ·have hx:=hf q
  rw[hx]at e3
  simp only[Zz]at e3
  cases b
  ·rcases kF 4 (s.a0.map Y1.e)with⟨_,u,_⟩|⟨_,u,_⟩<;>rw[u]at e1<;>(refine ae rfl ?_;simp(maxSteps:=9^9) [dH,Y2.e.eq_1,e1,e2,e3,b1,q,u])
  ·rcases kF 4 (p1.a0.map Y1.e)with⟨_,u,_⟩|⟨_,u,_⟩<;>rw[u]at e4<;>(refine ae rfl ?_;simp(maxSteps:=9^9) [dH,Y2.e.eq_1,e2,e3,e4,b1,q,u])
def wa {B:Nat}(b8:17<=B)(hB:B<=1048576){s:Y7}(h:s.Ok B){w:Y2}(hw:w.Ok B):ag Ph aC 323 [s.v, .agg (w.e.map .pv)]=some (.b9 [(true,WA (vj s w).1),(false,[.pv (.bool (vj s w).2)])]):=by
 have hl:s.a0.length<=1048576:=Zc h.2.1.1 hB
 have b3:=G0 h w.aX
 have e1:=k9 hB h
 have e2:=tQ (s:=s) (by unfold maxLen;omega) w.aX
 have e3:ag Ph aC 338 [.agg [.pv (.lst ((it s w.aX).fs.map Y8.e))],eE w.aP,aa .i64 w.n]=some (Cu (setR (it s w.aX).fs w.aP w.n)):=CC hB b3 hw.2.2.2.1 hw.2.2.2.2
 have e4:ag Ph aC 339 [s.v,w.aX.v, .agg [.pv (.lst ((setR (it s w.aX).fs w.aP w.n).1.map Y8.e))]]=some (KJ (xt s w.aX ⟨(setR (it s w.aX).fs w.aP w.n).1⟩)):=Ej hB h hw.2.2.1 (KO (by omega) b3 _ _)
 have e5:=T8 (xt s w.aX ⟨(setR (it s w.aX).fs w.aP w.n).1⟩)
 have e6:=Vj s
 have e7:=T9 (setR (it s w.aX).fs w.aP w.n)
 have b1:(!(bO (dQ (Ci w.aX) s.a0) 0))=decide (0<=dQ (Ci w.aX) s.a0):=by unfold bO;by_cases q:0<=dQ (Ci w.aX) s.a0<;>simp[q];omega
 have ht:=Qn (s:=s) (k:=w.aX)
 have hf:=Qm (s:=s) (k:=w.aX)
 unfold vj
 generalize KJ (xt s w.aX ⟨(setR (it s w.aX).fs w.aP w.n).1⟩)=pr at*
 generalize xt s w.aX ⟨(setR (it s w.aX).fs w.aP w.n).1⟩=p at*
 generalize Cu (setR (it s w.aX).fs w.aP w.n)=rr at*
 generalize setR (it s w.aX).fs w.aP w.n=sr at*
 generalize hn:(V.agg [.pv (.str s.aE),nd 4 (s.a0.map Y1.e), .pv (.int .i64 s.aT)])=nv at*
 generalize it s w.aX=rc at*
 generalize dQ (Ci w.aX) s.a0=i at*
 simp only[WA]at e5 e6⊢
 clear hn
 obtain⟨bb,b⟩:=sr
 simp only at e3 e4 e7
 by_cases q:0<=i
 ·obtain⟨x,hi,hx⟩:=ht q
  have av:=Y1.e.eq_1 x
  rw[<-hx]at av
  have hm:(s.a0.map Y1.e)[i.toNat]? =some x.e:=by rw[Zp,hi];rfl
  refine ae rfl ?_
  cases b<;>simp(maxSteps:=9^9) [gO,Y2.e.eq_1,e1,e2,e3,e4,b1,q,hm,av, ↓e5, ↓e6, ↓e7, ↓aR, ↓aE, ↓aS, ↓aw]
 ·have hx:=hf q
  rw[hx]at e3
  simp only[Zz]at e3
  refine ae rfl ?_
  cases b<;>simp(maxSteps:=9^9) [gO,Y2.e.eq_1,e1,e2,e3,e4,b1,q, ↓e5, ↓e6, ↓e7, ↓aR, ↓aE, ↓aS, ↓aw]
def X8 :Y2:=⟨0,0,⟨0,0,[]⟩,[],0⟩
def uq (o:YD):Y2×Bool:=match o.a9 with
 |[]=>(X8,false)
 |w::_=>(w,true)
abbrev Xg (x:Y2×Bool):V:= .b9 [(true,x.1.e.map .pv),(false,[.pv (.bool x.2)])]
def qU (o:YD)(hl:o.a9.length<=maxLen):ag Ph aC 679 [o.v]=some (Xg (uq o)):=by
 obtain⟨d,n,ws⟩:=o
 unfold uq
 refine ae rfl ?_
 cases ws with
 |nil=>simp(maxSteps:=9^9) [kB,X8,Y2.e.eq_1]
 |cons w ws=>
  have hx:=Y2.e.eq_1 w
  have h1:¬((ws.length:Int)+1=0):=by omega
  simp(maxSteps:=9^9) [kB,hx,h1]
def yR (o:YD)(hl:o.a9.length<=maxLen):ag Ph aC 675 [o.v]=some (Xg (uq o)):=by
 obtain⟨d,n,ws⟩:=o
 unfold uq
 refine ae rfl ?_
 cases ws with
 |nil=>simp(maxSteps:=9^9) [kC,X8,Y2.e.eq_1]
 |cons w ws=>
  have hx:=Y2.e.eq_1 w
  have h1:¬((ws.length:Int)+1=0):=by omega
  simp(maxSteps:=9^9) [kC,hx,h1]
def pw (k:Nat):Int:=((2^k:Nat):Int)
def S5 (t:Int):Nat:=min t.toNat 6
def Uy (t:Int):Int:=pw (S5 t)
def S6 {t:Int}{k:Nat}(h:k<S5 t):bO (k:Int) t=true/\ bO (pw k) 64=true/\ IntKind.i64.wrap (pw k*2)=pw (k+1)/\ IntKind.i64.wrap (2*pw k)=pw (k+1)/\ IntKind.i64.wrap ((k:Int)+1)=(k:Int)+1:=by
 unfold S5 at h
 have hk:k<6:=by omega
 refine⟨gB (by omega),?_⟩
 rcases k with _|_|_|_|_|_|k
 ·decide
 ·decide
 ·decide
 ·decide
 ·decide
 ·decide
 ·omega
def PN (t:Int):(bO (S5 t:Int) t&&bO (pw (S5 t)) 64)=false:=by
 unfold S5
 by_cases h:t.toNat<=6
 ·rw[Nat.min_eq_left h]
  have:bO (t.toNat:Int) t=false:=ii (by omega)
  rw[this];rfl
 ·rw[Nat.min_eq_right (by omega)]
  have:bO (pw 6) 64=false:=by decide
  rw[this,G']
def Ak (t:Int):ag Ph aC 681 [aa .i64 t]=some (aa .i64 (Uy t)):=by
 have he:=PN t
 have hs:= @S6 t
 unfold Uy
 refine ae rfl ?_
 simp(maxSteps:=9^9) [oG]
 refine dB bh Cl.fin (S5 t) [.t,.f,.f,.t,.t,.f,.f,.f,.f,.f,.f,.f,.f,.f,.f,.f,.f] (fun k=>[(3,aa .i64 (pw k)),(4,aa .i64 k)]) (fun k=>[]) rfl (by simp[pw]) (fun k hk=> ?_) ?_
 ·obtain⟨q1,q2,q3,q4,q5⟩:=hs hk
  simp(maxSteps:=9^9) [jF,q1,q2,q3,q4,q5]
 ·generalize S5 t=m at he⊢
  generalize pw m=p at he⊢
  cases q1:bO (m:Int) t<;>cases q2:bO p 64<;>rw[q1,q2]at he<;>first|exact absurd he (by decide)|simp(maxSteps:=9^9) [jF,q1,q2]
def AN (t:Int):ag Ph aC 678 [aa .i64 t]=some (aa .i64 (Uy t)):=by
 have he:=PN t
 have hs:= @S6 t
 unfold Uy
 refine ae rfl ?_
 simp(maxSteps:=9^9) [oT]
 refine dB bh Cl.fin (S5 t) [.t,.f,.f,.t,.t,.f,.f,.f,.f,.f,.f,.f,.f,.f,.f,.f,.f] (fun k=>[(3,aa .i64 (pw k)),(4,aa .i64 k)]) (fun k=>[]) rfl (by simp[pw]) (fun k hk=> ?_) ?_
 ·obtain⟨q1,q2,q3,q4,q5⟩:=hs hk
  simp(maxSteps:=9^9) [jJ,q1,q2,q3,q4,q5]
 ·generalize S5 t=m at he⊢
  generalize pw m=p at he⊢
  cases q1:bO (m:Int) t<;>cases q2:bO p 64<;>rw[q1,q2]at he<;>first|exact absurd he (by decide)|simp(maxSteps:=9^9) [jJ,q1,q2]
def lX (d:Int):List Y6->Nat
 |[]=>0
 |a::l=>if a.aY<d then lX d l+1 else 0
def wV (d:Int):∀l:List Y6,lX d l<=l.length
 |[]=>Zn _
 |a::l=>by
  have:=wV d l
  unfold lX
  split
  ·simp only[Zo];omega
  ·exact Zb9 _
def EN {d:Int}:∀{l:List Y6}{j:Nat}(hj:j<l.length),j<lX d l->(l[j]'hj).aY<d
 |[],j,hj,h=>by simp at hj
 |a::l,j,hj,h=>by
  unfold lX at h
  split at h
  ·rename_i q
   cases j with
   |zero=>exact q
   |succ j=>exact EN (l:=l) (by simpa using hj) (by omega)
  ·omega
def EM {d:Int}:∀{l:List Y6}(h:lX d l<l.length),¬(l[lX d l]'h).aY<d
 |[],h=>by simp at h
 |a::l,h=>by
  by_cases q:a.aY<d
  ·have e:lX d (a::l)=lX d l+1:=by simp only[lX,if_pos q]
   have h':lX d l<l.length:=by rw[e]at h;simpa using h
   have:=EM h'
   simp only[e,Zd3]
   exact this
  ·have e:lX d (a::l)=0:=by simp only[lX,if_neg q]
   simp only[e,Za8]
   exact q
def tM (l:List Y6)(d q:Int):List Y6:=match l[lX d l]? with
 |some a=>if a.aY=d then l.set (lX d l) ⟨d,q⟩else l.take (lX d l)++⟨d,q⟩::l.drop (lX d l)
 |none=>l.take (lX d l)++⟨d,q⟩::l.drop (lX d l)
def Es {l:List Y6}(hl:l.length<=1048576)(d q:Int):ag Ph aC 690 [bY (l.map Y6.e),aa .i64 d,aa .i64 q]=some (.one (.own 2 ((tM l d q).map Y6.e))):=by
 have hw:=cW (e:=Y6.e) (z:=2) (fun _=>rfl) l
 have m0:=ez (m:=l.length) (z:=16) (by omega) (by omega)
 have hp:=wV d l
 have b1:= @EN d l
 have b2:= @EM d l
 unfold tM
 generalize lX d l=p at hp b1 b2⊢
 have m1:=ez (m:=p) (z:=16) (by omega) (by omega)
 have m2:=ez (m:=p+1) (z:=16) (by omega) (by omega)
 have m3:=ez (m:=l.length+1) (z:=16) (by omega) (by omega)
 have w2:((l.map Y6.e).take p).all (fun e=>e.length==2)=true:=by rw[<-List.map_take];exact cW (e:=Y6.e) (z:=2) (fun _=>rfl) _
 have w3:((l.map Y6.e).drop p).all (fun e=>e.length==2)=true:=by rw[<-List.map_drop];exact cW (e:=Y6.e) (z:=2) (fun _=>rfl) _
 have t1:List.take (l.length-p) ((l.map Y6.e).drop p)=(l.map Y6.e).drop p:=Zs (by simp)
 have t2:p+1+(l.length-p)=l.length+1:=by omega
 refine ae rfl ?_
 simp(maxSteps:=9^9) [qI,hw,m0]
 refine aB bh Cl.fin [.t,.t,.t,.f,.f,.f,.f,.t,.t,.f,.f,.f,.f,.f,.f,.f,.f,.f,.f,.f,.f,.f,.f,.f,.f,.f,.f,.f,.f,.f,.f,.f,.f,.f,.f,.f,.f,.f,.f,.f,.f,.f,.f,.f,.f,.f,.f,.f,.f,.f,.f,.f,.f,.f,.f,.f,.f,.f,.f,.f] (fun k=>[(8,aa .i64 k)]) p (fun _=>false) rfl (by simp) (fun j hj _=> ?_) (fun _ _=> ?_)
 ·have b4:j<l.length:=by omega
  have l1:=gB (b1 b4 hj)
  simp +contextual (maxSteps:=9^9) [gZ,b4,l1,aL (n:=l.length) (by unfold maxLen;omega) b4,bd b4,Y6.e.eq_1 l[j]]
 ·by_cases ax:p<l.length
  ·have l1:=ii (Int.not_lt.1 (b2 ax))
   have hx:=Y6.e.eq_1 l[p]
   rw[Zm ax]
   by_cases hd:l[p].aY=d
   ·simp only[if_pos hd]
    have hm:(l.map Y6.e).set p [.int .i64 d, .int .i64 q]=(l.set p ⟨d,q⟩).map Y6.e:=by rw[Zd4];rfl
    generalize l.set p ⟨d,q⟩=F at hm⊢
    have l2:bO d d=false:=ii (Int.le_refl _)
    simp +contextual (maxSteps:=9^9) [gZ,ax,hx,l1,l2,bd ax,hd,hm,hw]
   ·simp only[if_neg hd]
    simp +contextual (maxSteps:=9^9) [gZ,ax,hx,l1,bd ax,hd,hw,hp,m0,m1,m2,m3,w2,w3,t1,t2,Y6.e]
  ·obtain rfl:p=l.length:=by omega
   have hn:l[l.length]? =none:=ZW (Zn _)
   rw[hn]
   have tl:List.take l.length (l.map Y6.e)=l.map Y6.e:=Zs (by simp)
   simp +contextual (maxSteps:=9^9) [gZ,hw,m0,m1,m2,m3,w2,w3,tl,Y6.e]
end Gi
