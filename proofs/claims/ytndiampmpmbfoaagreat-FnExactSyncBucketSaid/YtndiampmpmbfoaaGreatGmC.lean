/- A part. -/
import Derived.Test.YtndiampmpmbfoaaGreatGmB
set_option linter.all false
namespace Gi
open Go Go.RowKit
set_option maxHeartbeats 8000000
set_option maxRecDepth 4000
attribute [local simp] start ah aG bc bG cz Opd.ev put V.cells plain bA gv isInt isStr isBool bin cG qm ql un asList L.view al V.view viewL aZ am cj bS comp aO bJ cT bW bw bu bv aS aE bT aw aR aW aK br bq ba bz bB V.flat L.flat da df bD putAt thaw thawL thawT freezeVs freezeLs freezeL V.mut L.mut aJ aY dq ca dD bU cf wp_seq wp_block qg wp_cond wp_skip wp_exit wp_ret co cH cL cK cP cQ cO bV aM L.bC aV aT aU fa bt storeD bf fm ai ct aA nq L.bG L.closed V.closed PV.bare PV.flat
def gh (b0 b1:Y0)(rows:List (List PV)):Nat->List Y0
 |0=>[b0,b1, .box [.nil]]
 |k+1=>[b0,b1, .box [.arr 3], .bA 24 (rows.take (k+1))]
def xp {B:Nat}(hB:B<=1048576){x:YQ}(h:x.Ok B):ag Ph aC 456 [.agg [.pv (.lst (x.a2.map Y4.e))]]=some (.agg [nd 24 (x.a2.map Y4.e)]):=by
 have a6:=h
 have e1:∀k(hk:k<x.a2.length),_:=fun k hk=>yG hB (a6.2 _ (Zf hk))
 have hl:x.a2.length<=1048576:=Zc a6.1 hB
 refine ae rfl ?_
 simp[mW]
 refine dB bh Cl.fin x.a2.length [.f,.f,.t,.t,.f,.f,.f,.f,.t,.t,.t,.f,.f,.f,.f,.f,.f,.f,.f,.f,.f,.f,.f] (fun k=>[(10,aa .i64 k)]) (gh (.box [.pv (.lst (x.a2.map Y4.e))]) (.box [.nil]) (x.a2.map Y4.e)) rfl ?_ ?_ ?_
 ·exact Kn.q [0,1,2] (by simp[gh,aV,aT,aU,fa,bt,be,bC,aN,dC,bQ,bj,bX,L.bD,aW])
 ·intro k hk
  have ek:=e1 k hk
  have hx:=Y4.e.eq_1 x.a2[k]
  have ht:=cU (e:=Y4.e) hk
  rw[hx]at ht
  have N0:=fq 2 (x.a2[k].a1.a1.map Z5.e)
  generalize nd 2 (x.a2[k].a1.a1.map Z5.e)=n0 at N0 ek
  have N1:=fq 3 (x.a2[k].aV.aF.aA.map Y7.e)
  generalize nd 3 (x.a2[k].aV.aF.aA.map Y7.e)=n1 at N1 ek
  have N2:=fq 4 (x.a2[k].a5.aF.a0.map Y1.e)
  generalize nd 4 (x.a2[k].a5.aF.a0.map Y1.e)=n2 at N2 ek
  cases k with
  |zero=>
   simp only[gh,ht]
   rcases N0 with⟨q0,rfl⟩|⟨q0,rfl⟩<;>rcases N1 with⟨q1,rfl⟩|⟨q1,rfl⟩<;>rcases N2 with⟨q2,rfl⟩|⟨q2,rfl⟩
   ·simp only[q0,q1,q2]at ek
    simp[aX,hk,hx,ek,cV,q0,q1,q2]
    exact Kn.q [0,1,2,8]
   ·simp only[q0,q1]at ek
    simp[aX,hk,hx,ek,cV,q0,q1]
    exact Kn.q [0,1,2,9]
   ·simp only[q0,q2]at ek
    simp[aX,hk,hx,ek,cV,q0,q2]
    exact Kn.q [0,1,2,9]
   ·simp only[q0]at ek
    simp[aX,hk,hx,ek,cV,q0]
    exact Kn.q [0,1,2,10]
   ·simp only[q1,q2]at ek
    simp[aX,hk,hx,ek,cV,q1,q2]
    exact Kn.q [0,1,2,9]
   ·simp only[q1]at ek
    simp[aX,hk,hx,ek,cV,q1]
    exact Kn.q [0,1,2,10]
   ·simp only[q2]at ek
    simp[aX,hk,hx,ek,cV,q2]
    exact Kn.q [0,1,2,10]
   ·simp[aX,hk,hx,ek,cV]
    exact Kn.q [0,1,2,11]
  |succ k=>
   obtain⟨i1,i2,i3,i4,i5,i6⟩:=pk (n:=x.a2.length) (by unfold maxLen;omega) hk
   have b1:min (k+1) x.a2.length=k+1:=by omega
   have m1:=ez (m:=k+1+1) (z:=328) (by omega) (by omega)
   simp only[gh,ht]
   generalize hT:List.take (k+1) _=T
   have a7:T.length=k+1:=by rw[<-hT];simp;omega
   rcases N0 with⟨q0,rfl⟩|⟨q0,rfl⟩<;>rcases N1 with⟨q1,rfl⟩|⟨q1,rfl⟩<;>rcases N2 with⟨q2,rfl⟩|⟨q2,rfl⟩
   ·simp only[q0,q1,q2]at ek
    simp[aX,hk,hx,ek,i1,i2,i3,i4,i5,i6,a7,m1,q0,q1,q2]
    exact Kn.q [0,1,2,9]
   ·simp only[q0,q1]at ek
    simp[aX,hk,hx,ek,i1,i2,i3,i4,i5,i6,a7,m1,q0,q1]
    exact Kn.q [0,1,2,10]
   ·simp only[q0,q2]at ek
    simp[aX,hk,hx,ek,i1,i2,i3,i4,i5,i6,a7,m1,q0,q2]
    exact Kn.q [0,1,2,10]
   ·simp only[q0]at ek
    simp[aX,hk,hx,ek,i1,i2,i3,i4,i5,i6,a7,m1,q0]
    exact Kn.q [0,1,2,11]
   ·simp only[q1,q2]at ek
    simp[aX,hk,hx,ek,i1,i2,i3,i4,i5,i6,a7,m1,q1,q2]
    exact Kn.q [0,1,2,10]
   ·simp only[q1]at ek
    simp[aX,hk,hx,ek,i1,i2,i3,i4,i5,i6,a7,m1,q1]
    exact Kn.q [0,1,2,11]
   ·simp only[q2]at ek
    simp[aX,hk,hx,ek,i1,i2,i3,i4,i5,i6,a7,m1,q2]
    exact Kn.q [0,1,2,11]
   ·simp[aX,hk,hx,ek,i1,i2,i3,i4,i5,i6,a7,m1]
    exact Kn.q [0,1,2,12]
 ·cases hq:x.a2 with
  |nil=>simp[aX,gh,nd]
  |cons q qs=>
   have hT:(x.a2.map Y4.e).take (qs.length+1)=x.a2.map Y4.e:=Zs (by rw[hq];simp)
   rw[hq]at hT
   simp only[Zo,gh,hT]
   simp[aX,nd]
def jr (b0 b1:Y0)(rows:List (List PV)):Nat->List Y0
 |0=>[b0,b1, .box [.nil]]
 |k+1=>[b0,b1, .box [.arr 3], .bA 24 (rows.take (k+1))]
def Ey {B:Nat}(hB:B<=1048576){x:YQ}(h:x.Ok B):ag Ph aC 450 [.agg [.pv (.lst (x.a2.map Y4.e))]]=some (.agg [nd 24 (x.a2.map Y4.e)]):=by
 have a6:=h
 have e1:∀k(hk:k<x.a2.length),_:=fun k hk=>Ew hB (a6.2 _ (Zf hk))
 have hl:x.a2.length<=1048576:=Zc a6.1 hB
 refine ae rfl ?_
 simp[qO]
 refine dB bh Cl.fin x.a2.length [.f,.t,.t,.t,.t,.f,.f,.f,.f,.f,.f,.f,.f,.f,.f,.f,.f,.f,.f,.f,.f,.f,.f,.f,.f] (fun k=>[(4,aa .i64 k)]) (jr (.box [.pv (.lst (x.a2.map Y4.e))]) (.box [.nil]) (x.a2.map Y4.e)) rfl ?_ ?_ ?_
 ·exact Kn.q [0,1,2] (by simp[jr,aV,aT,aU,fa,bt,be,bC,aN,dC,bQ,bj,bX,L.bD,aW])
 ·intro k hk
  have ek:=e1 k hk
  have hx:=Y4.e.eq_1 x.a2[k]
  have ht:=cU (e:=Y4.e) hk
  rw[hx]at ht
  have N0:=fq 2 (x.a2[k].a1.a1.map Z5.e)
  generalize nd 2 (x.a2[k].a1.a1.map Z5.e)=n0 at N0 ek
  have N1:=fq 3 (x.a2[k].aV.aF.aA.map Y7.e)
  generalize nd 3 (x.a2[k].aV.aF.aA.map Y7.e)=n1 at N1 ek
  have N2:=fq 4 (x.a2[k].a5.aF.a0.map Y1.e)
  generalize nd 4 (x.a2[k].a5.aF.a0.map Y1.e)=n2 at N2 ek
  cases k with
  |zero=>
   simp only[jr,ht]
   rcases N0 with⟨q0,rfl⟩|⟨q0,rfl⟩<;>rcases N1 with⟨q1,rfl⟩|⟨q1,rfl⟩<;>rcases N2 with⟨q2,rfl⟩|⟨q2,rfl⟩
   ·simp only[q0,q1,q2]at ek
    simp[bE,hk,hx,ek,cV,q0,q1,q2]
    exact Kn.q [0,1,2,7]
   ·simp only[q0,q1]at ek
    simp[bE,hk,hx,ek,cV,q0,q1]
    exact Kn.q [0,1,2,8]
   ·simp only[q0,q2]at ek
    simp[bE,hk,hx,ek,cV,q0,q2]
    exact Kn.q [0,1,2,8]
   ·simp only[q0]at ek
    simp[bE,hk,hx,ek,cV,q0]
    exact Kn.q [0,1,2,9]
   ·simp only[q1,q2]at ek
    simp[bE,hk,hx,ek,cV,q1,q2]
    exact Kn.q [0,1,2,8]
   ·simp only[q1]at ek
    simp[bE,hk,hx,ek,cV,q1]
    exact Kn.q [0,1,2,9]
   ·simp only[q2]at ek
    simp[bE,hk,hx,ek,cV,q2]
    exact Kn.q [0,1,2,9]
   ·simp[bE,hk,hx,ek,cV]
    exact Kn.q [0,1,2,10]
  |succ k=>
   obtain⟨i1,i2,i3,i4,i5,i6⟩:=pk (n:=x.a2.length) (by unfold maxLen;omega) hk
   have b1:min (k+1) x.a2.length=k+1:=by omega
   have m1:=ez (m:=k+1+1) (z:=328) (by omega) (by omega)
   simp only[jr,ht]
   generalize hT:List.take (k+1) _=T
   have a7:T.length=k+1:=by rw[<-hT];simp;omega
   rcases N0 with⟨q0,rfl⟩|⟨q0,rfl⟩<;>rcases N1 with⟨q1,rfl⟩|⟨q1,rfl⟩<;>rcases N2 with⟨q2,rfl⟩|⟨q2,rfl⟩
   ·simp only[q0,q1,q2]at ek
    simp[bE,hk,hx,ek,i1,i2,i3,i4,i5,i6,a7,m1,q0,q1,q2]
    exact Kn.q [0,1,2,8]
   ·simp only[q0,q1]at ek
    simp[bE,hk,hx,ek,i1,i2,i3,i4,i5,i6,a7,m1,q0,q1]
    exact Kn.q [0,1,2,9]
   ·simp only[q0,q2]at ek
    simp[bE,hk,hx,ek,i1,i2,i3,i4,i5,i6,a7,m1,q0,q2]
    exact Kn.q [0,1,2,9]
   ·simp only[q0]at ek
    simp[bE,hk,hx,ek,i1,i2,i3,i4,i5,i6,a7,m1,q0]
    exact Kn.q [0,1,2,10]
   ·simp only[q1,q2]at ek
    simp[bE,hk,hx,ek,i1,i2,i3,i4,i5,i6,a7,m1,q1,q2]
    exact Kn.q [0,1,2,9]
   ·simp only[q1]at ek
    simp[bE,hk,hx,ek,i1,i2,i3,i4,i5,i6,a7,m1,q1]
    exact Kn.q [0,1,2,10]
   ·simp only[q2]at ek
    simp[bE,hk,hx,ek,i1,i2,i3,i4,i5,i6,a7,m1,q2]
    exact Kn.q [0,1,2,10]
   ·simp[bE,hk,hx,ek,i1,i2,i3,i4,i5,i6,a7,m1]
    exact Kn.q [0,1,2,11]
 ·cases hq:x.a2 with
  |nil=>simp[bE,jr,nd]
  |cons q qs=>
   have hT:(x.a2.map Y4.e).take (qs.length+1)=x.a2.map Y4.e:=Zs (by rw[hq];simp)
   rw[hq]at hT
   simp only[Zo,jr,hT]
   simp[bE,nd]
def Xi (rows:List (List PV))(k:Nat):List Y0:=[.bA 11 (rows.take k)]
def As {B:Nat}(hB:B<=1048576){xs:List Z8}(h:xs.length<=B/\ ∀x∈xs,x.Ok B):ag Ph aC 457 [bY (xs.map Z8.e)]=some (.one (.down 11 (xs.map Z8.e))):=by
 have hl:xs.length<=1048576:=Zc h.1 hB
 have e1:∀k(hk:k<xs.length),_:=fun k hk=>Cd hB (h.2 _ (Zf hk))
 refine ae rfl ?_
 simp[oN]
 refine dB bh Cl.fin xs.length [.f,.f,.f,.t,.f,.f,.f,.t,.t,.t,.f,.f,.f,.f,.f,.f,.f,.f,.f,.f] (fun k=>[(3, .one (.arr 0)),(9,aa .i64 k)]) (Xi (xs.map Z8.e)) rfl ?_ ?_ ?_
 ·exact Kn.q [0] (by simp[Xi,aV,aT,aU,fa,bt,be,bC,aN,dC,bQ,bj,bX,L.bD,aW])
 ·intro k hk
  have ek:=e1 k hk
  have hx:=Z8.e.eq_1 xs[k]
  have ht:=cU (e:=Z8.e) hk
  rw[hx]at ht
  cases k with
  |zero=>
   simp only[Xi,ht]
   simp[ib,hk,hx,ek,cV]
   exact Kn.q [6]
  |succ k=>
   obtain⟨i1,i2,i3,i4,i5,i6⟩:=pk (n:=xs.length) (by unfold maxLen;omega) hk
   have m1:=ez (m:=k+1+1) (z:=144) (by omega) (by omega)
   simp only[Xi,ht]
   generalize hT:List.take (k+1) _=T
   have a7:T.length=k+1:=by rw[<-hT];simp;omega
   simp[ib,hk,hx,ek,i1,i2,i3,i4,i5,i6,a7,m1]
   exact Kn.q [6]
 ·have hT:(xs.map Z8.e).take xs.length=xs.map Z8.e:=Zs (by simp)
  simp only[Xi,hT]
  simp[ib]
def hw (b0 b1:Y0)(o:L->Y0)(rest:List Y0)(n z:Nat)(rows:List (List PV)):Nat->List Y0
 |0=>b0::b1::o .nil::rest
 |k+1=>b0::b1::o (.arr n)::(rest++[.bA z (rows.take (k+1))])
def r8 {B:Nat}(hB:B<=1048576){x:YI}(h:x.Ok B):ag Ph aC 434 [.agg [.pv (.int .i64 x.al), .pv (.bool x.aO), .pv (.int .i64 x.aQ), .pv (.lst (x.a8.a2.map Y4.e)), .pv (.lst (x.aJ.map Z8.e)), .pv (.int .i64 x.aH), .pv (.lst (x.aI.aI.map Z6.e)), .pv (.lst (x.aN.aU.map Z9.e)), .pv (.lst (x.aK.map Z7.e)), .pv (.lst (x.a4.map Y3.e))]]=some (.agg [.pv (.int .i64 x.al), .pv (.bool x.aO), .pv (.int .i64 x.aQ),nd 24 (x.a8.a2.map Y4.e), .down 11 (x.aJ.map Z8.e), .pv (.int .i64 x.aH), .down 4 (x.aI.aI.map Z6.e), .down 3 (x.aN.aU.map Z9.e),nd 4 (x.aK.map Z7.e),nd 5 (x.a4.map Y3.e)]):=by
 obtain⟨ay,au,af,ao,an,aq,aj,ak,ad⟩:=h
 have c0:=xp hB af
 have c1:=As hB ao
 have c2:=Ar hB aq
 have c3:=xm hB aj
 have ar:∀k(hk:k<x.aK.length),_:=fun k hk=>Ce hB (ak.2 _ (Zf hk))
 have ab:∀k(hk:k<x.a4.length),_:=fun k hk=>jR hB (ad.2 _ (Zf hk))
 have az:x.aK.length<=1048576:=Zc ak.1 hB
 have aB:x.a4.length<=1048576:=Zc ad.1 hB
 clear ay au af ao an aq aj ak ad
 have N:=fq 24 (x.a8.a2.map Y4.e)
 generalize nd 24 (x.a8.a2.map Y4.e)=n at N c0⊢
 rcases N with⟨-,rfl⟩|⟨-,rfl⟩
 ·refine ae rfl ?_
  simp[jk,c0,c1,c2,c3]
  refine dB bh Cl.fin x.aK.length [.f,.t,.t,.t,.f,.f,.f,.f,.f,.f,.f,.f,.f,.f,.f,.f,.f,.f,.f,.f,.f,.f,.f,.f,.f,.f,.f,.t,.t,.t,.f,.f,.f,.f,.f,.f,.f,.f,.f,.f,.f,.f,.f,.f,.f,.f,.f,.f,.f,.f,.f,.f,.f,.f,.f,.f,.f,.f] (fun k=>[(29,aa .i64 k)]) (hw (.box [.pv (.int .i64 x.al), .pv (.bool x.aO), .pv (.int .i64 x.aQ), .pv (.lst (x.a8.a2.map Y4.e)), .pv (.lst (x.aJ.map Z8.e)), .pv (.int .i64 x.aH), .pv (.lst (x.aI.aI.map Z6.e)), .pv (.lst (x.aN.aU.map Z9.e)), .pv (.lst (x.aK.map Z7.e)), .pv (.lst (x.a4.map Y3.e))]) (.box [.pv (.int .i64 0), .pv (.bool false), .pv (.int .i64 0), .nil, .nil, .pv (.int .i64 0), .nil, .nil, .nil, .nil]) (fun c=> .box [.pv (.int .i64 x.al), .pv (.bool x.aO), .pv (.int .i64 x.aQ), .nil, .arr 3, .pv (.int .i64 x.aH), .arr 4, .arr 5,c, .pv (.lst (x.a4.map Y3.e))]) [.bA 11 (x.aJ.map Z8.e), .bA 4 (x.aI.aI.map Z6.e), .bA 3 (x.aN.aU.map Z9.e)] 6 4 (x.aK.map Z7.e)) rfl ?_ ?_ ?_
  ·exact Kn.q [0,1,2,3,4,5] (by simp[hw,Zg,Zi,aV,aT,aU,fa,bt,be,bC,aN,dC,bQ,bj,bX,L.bD,aW])
  ·intro k hk
   have ek:=ar k hk
   have hx:=Z7.e.eq_1 x.aK[k]
   have ht:=cU (e:=Z7.e) hk
   rw[hx]at ht
   cases k with
   |zero=>
    simp only[hw,Zg,Zi,ht]
    simp[cX,hk,hx,ek,cV]
    exact Kn.q [0,1,2,3,4,5,9]
   |succ k=>
    obtain⟨i1,i2,i3,i4,i5,i6⟩:=pk (n:=x.aK.length) (by unfold maxLen;omega) hk
    have m1:=ez (m:=k+1+1) (z:=56) (by omega) (by omega)
    simp only[hw,Zg,Zi,ht]
    generalize hT:List.take (k+1) _=T
    have a7:T.length=k+1:=by rw[<-hT];simp;omega
    simp[cX,hk,hx,ek,i1,i2,i3,i4,i5,i6,a7,m1]
    exact Kn.q [0,1,2,3,4,5,10]
  ·cases hq:x.aK with
   |nil=>
    simp only[Zx,hw]
    simp[cX,nd]
    refine dB bh Cl.fin x.a4.length [.f,.f,.t,.t,.f,.f,.f,.f,.f,.f,.f,.f,.f,.f,.f,.f,.f,.f,.f,.f,.f,.f,.f,.f,.f,.f,.f,.f,.f,.f,.f,.f,.f,.f,.f,.f,.f,.f,.f,.f,.f,.f,.f,.t,.t,.t,.f,.f,.f,.f,.f,.f,.f,.f,.f,.f,.f,.f] (fun k=>[(45,aa .i64 k)]) (hw (.box [.pv (.int .i64 x.al), .pv (.bool x.aO), .pv (.int .i64 x.aQ), .pv (.lst (x.a8.a2.map Y4.e)), .pv (.lst (x.aJ.map Z8.e)), .pv (.int .i64 x.aH), .pv (.lst (x.aI.aI.map Z6.e)), .pv (.lst (x.aN.aU.map Z9.e)), .pv (.lst []), .pv (.lst (x.a4.map Y3.e))]) (.box [.pv (.int .i64 0), .pv (.bool false), .pv (.int .i64 0), .nil, .nil, .pv (.int .i64 0), .nil, .nil, .nil, .nil]) (fun c=> .box [.pv (.int .i64 x.al), .pv (.bool x.aO), .pv (.int .i64 x.aQ), .nil, .arr 3, .pv (.int .i64 x.aH), .arr 4, .arr 5, .nil,c]) [.bA 11 (x.aJ.map Z8.e), .bA 4 (x.aI.aI.map Z6.e), .bA 3 (x.aN.aU.map Z9.e)] 6 5 (x.a4.map Y3.e)) rfl ?_ ?_ ?_
    ·exact Kn.q [0,1,2,3,4,5] (by simp[hw,Zg,Zi,aV,aT,aU,fa,bt,be,bC,aN,dC,bQ,bj,bX,L.bD,aW])
    ·intro k hk
     have ek:=ab k hk
     have hx:=Y3.e.eq_1 x.a4[k]
     have ht:=cU (e:=Y3.e) hk
     rw[hx]at ht
     have N0:=fq 4 (x.a4[k].aD.a0.map Y1.e)
     generalize nd 4 (x.a4[k].aD.a0.map Y1.e)=n0 at N0 ek
     cases k with
     |zero=>
      simp only[hw,Zg,Zi,ht]
      rcases N0 with⟨q0,rfl⟩|⟨q0,rfl⟩
      ·simp only[q0]at ek
       simp[aH,hk,hx,ek,cV,q0]
       exact Kn.q [0,1,2,3,4,5,10]
      ·simp[aH,hk,hx,ek,cV]
       exact Kn.q [0,1,2,3,4,5,11]
     |succ k=>
      obtain⟨i1,i2,i3,i4,i5,i6⟩:=pk (n:=x.a4.length) (by unfold maxLen;omega) hk
      have m1:=ez (m:=k+1+1) (z:=96) (by omega) (by omega)
      simp only[hw,Zg,Zi,ht]
      generalize hT:List.take (k+1) _=T
      have a7:T.length=k+1:=by rw[<-hT];simp;omega
      rcases N0 with⟨q0,rfl⟩|⟨q0,rfl⟩
      ·simp only[q0]at ek
       simp[aH,hk,hx,ek,i1,i2,i3,i4,i5,i6,a7,m1,q0]
       exact Kn.q [0,1,2,3,4,5,11]
      ·simp[aH,hk,hx,ek,i1,i2,i3,i4,i5,i6,a7,m1]
       exact Kn.q [0,1,2,3,4,5,12]
    ·cases av:x.a4 with
     |nil=>simp[aH,hw,nd]
     |cons u us=>
      have ax:(x.a4.map Y3.e).take (us.length+1)=x.a4.map Y3.e:=Zs (by rw[av];simp)
      rw[av]at ax
      simp only[Zo,hw,ax,Zg,Zi]
      simp[aH,nd]
   |cons q qs=>
    have hT:(x.aK.map Z7.e).take (qs.length+1)=x.aK.map Z7.e:=Zs (by rw[hq];simp)
    rw[hq]at hT
    simp only[Zo,hw,hT,Zg,Zi]
    simp[cX,nd]
    refine dB bh Cl.fin x.a4.length [.f,.f,.t,.t,.f,.f,.f,.f,.f,.f,.f,.f,.f,.f,.f,.f,.f,.f,.f,.f,.f,.f,.f,.f,.f,.f,.f,.f,.f,.f,.f,.f,.f,.f,.f,.f,.f,.f,.f,.f,.f,.f,.f,.t,.t,.t,.f,.f,.f,.f,.f,.f,.f,.f,.f,.f,.f,.f] (fun k=>[(45,aa .i64 k)]) (hw (.box [.pv (.int .i64 x.al), .pv (.bool x.aO), .pv (.int .i64 x.aQ), .pv (.lst (x.a8.a2.map Y4.e)), .pv (.lst (x.aJ.map Z8.e)), .pv (.int .i64 x.aH), .pv (.lst (x.aI.aI.map Z6.e)), .pv (.lst (x.aN.aU.map Z9.e)), .pv (.lst (Z7.e q::qs.map Z7.e)), .pv (.lst (x.a4.map Y3.e))]) (.box [.pv (.int .i64 0), .pv (.bool false), .pv (.int .i64 0), .nil, .nil, .pv (.int .i64 0), .nil, .nil, .nil, .nil]) (fun c=> .box [.pv (.int .i64 x.al), .pv (.bool x.aO), .pv (.int .i64 x.aQ), .nil, .arr 3, .pv (.int .i64 x.aH), .arr 4, .arr 5, .arr 6,c]) [.bA 11 (x.aJ.map Z8.e), .bA 4 (x.aI.aI.map Z6.e), .bA 3 (x.aN.aU.map Z9.e), .bA 4 (Z7.e q::qs.map Z7.e)] 7 5 (x.a4.map Y3.e)) rfl ?_ ?_ ?_
    ·exact Kn.q [0,1,2,3,4,5,6] (by simp[hw,Zg,Zi,aV,aT,aU,fa,bt,be,bC,aN,dC,bQ,bj,bX,L.bD,aW])
    ·intro k hk
     have ek:=ab k hk
     have hx:=Y3.e.eq_1 x.a4[k]
     have ht:=cU (e:=Y3.e) hk
     rw[hx]at ht
     have N0:=fq 4 (x.a4[k].aD.a0.map Y1.e)
     generalize nd 4 (x.a4[k].aD.a0.map Y1.e)=n0 at N0 ek
     cases k with
     |zero=>
      simp only[hw,Zg,Zi,ht]
      rcases N0 with⟨q0,rfl⟩|⟨q0,rfl⟩
      ·simp only[q0]at ek
       simp[aH,hk,hx,ek,cV,q0]
       exact Kn.q [0,1,2,3,4,5,6,11]
      ·simp[aH,hk,hx,ek,cV]
       exact Kn.q [0,1,2,3,4,5,6,12]
     |succ k=>
      obtain⟨i1,i2,i3,i4,i5,i6⟩:=pk (n:=x.a4.length) (by unfold maxLen;omega) hk
      have m1:=ez (m:=k+1+1) (z:=96) (by omega) (by omega)
      simp only[hw,Zg,Zi,ht]
      generalize hT:List.take (k+1) _=T
      have a7:T.length=k+1:=by rw[<-hT];simp;omega
      rcases N0 with⟨q0,rfl⟩|⟨q0,rfl⟩
      ·simp only[q0]at ek
       simp[aH,hk,hx,ek,i1,i2,i3,i4,i5,i6,a7,m1,q0]
       exact Kn.q [0,1,2,3,4,5,6,12]
      ·simp[aH,hk,hx,ek,i1,i2,i3,i4,i5,i6,a7,m1]
       exact Kn.q [0,1,2,3,4,5,6,13]
    ·cases av:x.a4 with
     |nil=>simp[aH,hw,nd]
     |cons u us=>
      have ax:(x.a4.map Y3.e).take (us.length+1)=x.a4.map Y3.e:=Zs (by rw[av];simp)
      rw[av]at ax
      simp only[Zo,hw,ax,Zg,Zi]
      simp[aH,nd]
 ·refine ae rfl ?_
  simp[jk,c0,c1,c2,c3]
  refine dB bh Cl.fin x.aK.length [.f,.t,.t,.t,.f,.f,.f,.f,.f,.f,.f,.f,.f,.f,.f,.f,.f,.f,.f,.f,.f,.f,.f,.f,.f,.f,.f,.t,.t,.t,.f,.f,.f,.f,.f,.f,.f,.f,.f,.f,.f,.f,.f,.f,.f,.f,.f,.f,.f,.f,.f,.f,.f,.f,.f,.f,.f,.f] (fun k=>[(29,aa .i64 k)]) (hw (.box [.pv (.int .i64 x.al), .pv (.bool x.aO), .pv (.int .i64 x.aQ), .pv (.lst (x.a8.a2.map Y4.e)), .pv (.lst (x.aJ.map Z8.e)), .pv (.int .i64 x.aH), .pv (.lst (x.aI.aI.map Z6.e)), .pv (.lst (x.aN.aU.map Z9.e)), .pv (.lst (x.aK.map Z7.e)), .pv (.lst (x.a4.map Y3.e))]) (.box [.pv (.int .i64 0), .pv (.bool false), .pv (.int .i64 0), .nil, .nil, .pv (.int .i64 0), .nil, .nil, .nil, .nil]) (fun c=> .box [.pv (.int .i64 x.al), .pv (.bool x.aO), .pv (.int .i64 x.aQ), .arr 3, .arr 4, .pv (.int .i64 x.aH), .arr 5, .arr 6,c, .pv (.lst (x.a4.map Y3.e))]) [.bA 24 (x.a8.a2.map Y4.e), .bA 11 (x.aJ.map Z8.e), .bA 4 (x.aI.aI.map Z6.e), .bA 3 (x.aN.aU.map Z9.e)] 7 4 (x.aK.map Z7.e)) rfl ?_ ?_ ?_
  ·exact Kn.q [0,1,2,3,4,5,6] (by simp[hw,Zg,Zi,aV,aT,aU,fa,bt,be,bC,aN,dC,bQ,bj,bX,L.bD,aW])
  ·intro k hk
   have ek:=ar k hk
   have hx:=Z7.e.eq_1 x.aK[k]
   have ht:=cU (e:=Z7.e) hk
   rw[hx]at ht
   cases k with
   |zero=>
    simp only[hw,Zg,Zi,ht]
    simp[cX,hk,hx,ek,cV]
    exact Kn.q [0,1,2,3,4,5,6,10]
   |succ k=>
    obtain⟨i1,i2,i3,i4,i5,i6⟩:=pk (n:=x.aK.length) (by unfold maxLen;omega) hk
    have m1:=ez (m:=k+1+1) (z:=56) (by omega) (by omega)
    simp only[hw,Zg,Zi,ht]
    generalize hT:List.take (k+1) _=T
    have a7:T.length=k+1:=by rw[<-hT];simp;omega
    simp[cX,hk,hx,ek,i1,i2,i3,i4,i5,i6,a7,m1]
    exact Kn.q [0,1,2,3,4,5,6,11]
  ·cases hq:x.aK with
   |nil=>
    simp only[Zx,hw]
    simp[cX,nd]
    refine dB bh Cl.fin x.a4.length [.f,.f,.t,.t,.f,.f,.f,.f,.f,.f,.f,.f,.f,.f,.f,.f,.f,.f,.f,.f,.f,.f,.f,.f,.f,.f,.f,.f,.f,.f,.f,.f,.f,.f,.f,.f,.f,.f,.f,.f,.f,.f,.f,.t,.t,.t,.f,.f,.f,.f,.f,.f,.f,.f,.f,.f,.f,.f] (fun k=>[(45,aa .i64 k)]) (hw (.box [.pv (.int .i64 x.al), .pv (.bool x.aO), .pv (.int .i64 x.aQ), .pv (.lst (x.a8.a2.map Y4.e)), .pv (.lst (x.aJ.map Z8.e)), .pv (.int .i64 x.aH), .pv (.lst (x.aI.aI.map Z6.e)), .pv (.lst (x.aN.aU.map Z9.e)), .pv (.lst []), .pv (.lst (x.a4.map Y3.e))]) (.box [.pv (.int .i64 0), .pv (.bool false), .pv (.int .i64 0), .nil, .nil, .pv (.int .i64 0), .nil, .nil, .nil, .nil]) (fun c=> .box [.pv (.int .i64 x.al), .pv (.bool x.aO), .pv (.int .i64 x.aQ), .arr 3, .arr 4, .pv (.int .i64 x.aH), .arr 5, .arr 6, .nil,c]) [.bA 24 (x.a8.a2.map Y4.e), .bA 11 (x.aJ.map Z8.e), .bA 4 (x.aI.aI.map Z6.e), .bA 3 (x.aN.aU.map Z9.e)] 7 5 (x.a4.map Y3.e)) rfl ?_ ?_ ?_
    ·exact Kn.q [0,1,2,3,4,5,6] (by simp[hw,Zg,Zi,aV,aT,aU,fa,bt,be,bC,aN,dC,bQ,bj,bX,L.bD,aW])
    ·intro k hk
     have ek:=ab k hk
     have hx:=Y3.e.eq_1 x.a4[k]
     have ht:=cU (e:=Y3.e) hk
     rw[hx]at ht
     have N0:=fq 4 (x.a4[k].aD.a0.map Y1.e)
     generalize nd 4 (x.a4[k].aD.a0.map Y1.e)=n0 at N0 ek
     cases k with
     |zero=>
      simp only[hw,Zg,Zi,ht]
      rcases N0 with⟨q0,rfl⟩|⟨q0,rfl⟩
      ·simp only[q0]at ek
       simp[aH,hk,hx,ek,cV,q0]
       exact Kn.q [0,1,2,3,4,5,6,11]
      ·simp[aH,hk,hx,ek,cV]
       exact Kn.q [0,1,2,3,4,5,6,12]
     |succ k=>
      obtain⟨i1,i2,i3,i4,i5,i6⟩:=pk (n:=x.a4.length) (by unfold maxLen;omega) hk
      have m1:=ez (m:=k+1+1) (z:=96) (by omega) (by omega)
      simp only[hw,Zg,Zi,ht]
      generalize hT:List.take (k+1) _=T
      have a7:T.length=k+1:=by rw[<-hT];simp;omega
      rcases N0 with⟨q0,rfl⟩|⟨q0,rfl⟩
      ·simp only[q0]at ek
       simp[aH,hk,hx,ek,i1,i2,i3,i4,i5,i6,a7,m1,q0]
       exact Kn.q [0,1,2,3,4,5,6,12]
      ·simp[aH,hk,hx,ek,i1,i2,i3,i4,i5,i6,a7,m1]
       exact Kn.q [0,1,2,3,4,5,6,13]
    ·cases av:x.a4 with
     |nil=>simp[aH,hw,nd]
     |cons u us=>
      have ax:(x.a4.map Y3.e).take (us.length+1)=x.a4.map Y3.e:=Zs (by rw[av];simp)
      rw[av]at ax
      simp only[Zo,hw,ax,Zg,Zi]
      simp[aH,nd]
   |cons q qs=>
    have hT:(x.aK.map Z7.e).take (qs.length+1)=x.aK.map Z7.e:=Zs (by rw[hq];simp)
    rw[hq]at hT
    simp only[Zo,hw,hT,Zg,Zi]
    simp[cX,nd]
    refine dB bh Cl.fin x.a4.length [.f,.f,.t,.t,.f,.f,.f,.f,.f,.f,.f,.f,.f,.f,.f,.f,.f,.f,.f,.f,.f,.f,.f,.f,.f,.f,.f,.f,.f,.f,.f,.f,.f,.f,.f,.f,.f,.f,.f,.f,.f,.f,.f,.t,.t,.t,.f,.f,.f,.f,.f,.f,.f,.f,.f,.f,.f,.f] (fun k=>[(45,aa .i64 k)]) (hw (.box [.pv (.int .i64 x.al), .pv (.bool x.aO), .pv (.int .i64 x.aQ), .pv (.lst (x.a8.a2.map Y4.e)), .pv (.lst (x.aJ.map Z8.e)), .pv (.int .i64 x.aH), .pv (.lst (x.aI.aI.map Z6.e)), .pv (.lst (x.aN.aU.map Z9.e)), .pv (.lst (Z7.e q::qs.map Z7.e)), .pv (.lst (x.a4.map Y3.e))]) (.box [.pv (.int .i64 0), .pv (.bool false), .pv (.int .i64 0), .nil, .nil, .pv (.int .i64 0), .nil, .nil, .nil, .nil]) (fun c=> .box [.pv (.int .i64 x.al), .pv (.bool x.aO), .pv (.int .i64 x.aQ), .arr 3, .arr 4, .pv (.int .i64 x.aH), .arr 5, .arr 6, .arr 7,c]) [.bA 24 (x.a8.a2.map Y4.e), .bA 11 (x.aJ.map Z8.e), .bA 4 (x.aI.aI.map Z6.e), .bA 3 (x.aN.aU.map Z9.e), .bA 4 (Z7.e q::qs.map Z7.e)] 8 5 (x.a4.map Y3.e)) rfl ?_ ?_ ?_
    ·exact Kn.q [0,1,2,3,4,5,6,7] (by simp[hw,Zg,Zi,aV,aT,aU,fa,bt,be,bC,aN,dC,bQ,bj,bX,L.bD,aW])
    ·intro k hk
     have ek:=ab k hk
     have hx:=Y3.e.eq_1 x.a4[k]
     have ht:=cU (e:=Y3.e) hk
     rw[hx]at ht
     have N0:=fq 4 (x.a4[k].aD.a0.map Y1.e)
     generalize nd 4 (x.a4[k].aD.a0.map Y1.e)=n0 at N0 ek
     cases k with
     |zero=>
      simp only[hw,Zg,Zi,ht]
      rcases N0 with⟨q0,rfl⟩|⟨q0,rfl⟩
      ·simp only[q0]at ek
       simp[aH,hk,hx,ek,cV,q0]
       exact Kn.q [0,1,2,3,4,5,6,7,12]
      ·simp[aH,hk,hx,ek,cV]
       exact Kn.q [0,1,2,3,4,5,6,7,13]
     |succ k=>
      obtain⟨i1,i2,i3,i4,i5,i6⟩:=pk (n:=x.a4.length) (by unfold maxLen;omega) hk
      have m1:=ez (m:=k+1+1) (z:=96) (by omega) (by omega)
      simp only[hw,Zg,Zi,ht]
      generalize hT:List.take (k+1) _=T
      have a7:T.length=k+1:=by rw[<-hT];simp;omega
      rcases N0 with⟨q0,rfl⟩|⟨q0,rfl⟩
      ·simp only[q0]at ek
       simp[aH,hk,hx,ek,i1,i2,i3,i4,i5,i6,a7,m1,q0]
       exact Kn.q [0,1,2,3,4,5,6,7,13]
      ·simp[aH,hk,hx,ek,i1,i2,i3,i4,i5,i6,a7,m1]
       exact Kn.q [0,1,2,3,4,5,6,7,14]
    ·cases av:x.a4 with
     |nil=>simp[aH,hw,nd]
     |cons u us=>
      have ax:(x.a4.map Y3.e).take (us.length+1)=x.a4.map Y3.e:=Zs (by rw[av];simp)
      rw[av]at ax
      simp only[Zo,hw,ax,Zg,Zi]
      simp[aH,nd]
end Gi
