/- A part. -/
import Derived.Test.YtndiampmpmbfoaaGreatGkr
set_option linter.all false
namespace Gi
open Go Go.RowKit
set_option maxHeartbeats 8000000
set_option maxRecDepth 4000
attribute [local simp] start ah aG bc bG cz Opd.ev put V.cells plain bA gv isInt isStr isBool bin cG qm ql un asList L.view al V.view viewL aZ am cj bS comp aO bJ cT bW bw bu bv aS aE bT aw aR aW aK br bq ba bz bB V.flat L.flat da df bD putAt thaw thawL thawT freezeVs freezeLs freezeL V.mut L.mut aJ aY dq ca dD bU cf wp_seq wp_block qg wp_cond wp_skip wp_exit wp_ret co cH cL cK cP cQ cO bV aM L.bC aV aT aU fa bt storeD bf fm ai ct aA nq L.bG L.closed V.closed PV.bare PV.flat
def vL {B:Nat}(hB:B<=1048576){x:YJ}(h:x.Ok B):ag Ph aC 334 [.agg [.pv (.int .i64 x.b2), .pv (.int .i64 x.ax), .pv (.int .i64 x.aB), .pv (.lst (ar x.ap)), .pv (.bool x.b3)]]=some (.agg [.pv (.int .i64 x.b2), .pv (.int .i64 x.ax), .pv (.int .i64 x.aB), .down 1 (ar x.ap), .pv (.bool x.b3)]):=by
 obtain⟨bp,bk,aj,bs⟩:=h
 have c0:=n5 (R:=ar x.ap) ⟨qQ _,j3 _,by rw[bZ];omega⟩
 refine ae rfl ?_
 simp[lU,c0]
def En {B:Nat}(hB:B<=1048576){x:YJ}(h:x.Ok B):ag Ph aC 329 [.agg [.pv (.int .i64 x.b2), .pv (.int .i64 x.ax), .pv (.int .i64 x.aB), .pv (.lst (ar x.ap)), .pv (.bool x.b3)]]=some (.agg [.pv (.int .i64 x.b2), .pv (.int .i64 x.ax), .pv (.int .i64 x.aB), .down 1 (ar x.ap), .pv (.bool x.b3)]):=by
 obtain⟨bp,bk,aj,bs⟩:=h
 have F0:YU 1 (ar x.ap):=⟨qQ _,j3 _,by rw[bZ];omega⟩
 have a8:=F0.flat
 have ad:=F0.wid
 have m0:=ez (m:=(ar x.ap).length) (z:=1) (by have:=F0.len;omega) (by omega)
 rw[Nat.mul_one]at m0
 generalize (ar x.ap)=R0 at F0 a8 ad m0⊢
 refine ae rfl ?_
 simp[qC,a8,ad,m0]
def qV {B:Nat}(hB:B<=1048576){x:YD}(h:x.Ok B):ag Ph aC 501 [.agg [.pv (.int .i64 x.aY), .pv (.int .i64 x.ae), .pv (.lst (x.a9.map Y2.e))]]=some (.agg [.pv (.int .i64 x.aY), .pv (.int .i64 x.ae), .down 7 (x.a9.map Y2.e)]):=by
 obtain⟨bK,bx,aP⟩:=h
 have F0:YU 7 (x.a9.map Y2.e):=⟨eM (e:=Y2.e) (fun _=>rfl) _,cW (e:=Y2.e) (z:=7) (fun _=>rfl) _,by rw[Zr];have:=aP.1;omega⟩
 have a8:=F0.flat
 have ad:=F0.wid
 have m0:=ez (m:=(x.a9.map Y2.e).length) (z:=72) (by have:=F0.len;omega) (by omega)
 generalize (x.a9.map Y2.e)=R0 at F0 a8 ad m0⊢
 refine ae rfl ?_
 simp[nM,a8,ad,m0]
def uW {B:Nat}(hB:B<=1048576){x:YD}(h:x.Ok B):ag Ph aC 500 [.agg [.pv (.int .i64 x.aY), .pv (.int .i64 x.ae), .pv (.lst (x.a9.map Y2.e))]]=some (.agg [.pv (.int .i64 x.aY), .pv (.int .i64 x.ae), .down 7 (x.a9.map Y2.e)]):=by
 obtain⟨bK,bx,aP⟩:=h
 have F0:YU 7 (x.a9.map Y2.e):=⟨eM (e:=Y2.e) (fun _=>rfl) _,cW (e:=Y2.e) (z:=7) (fun _=>rfl) _,by rw[Zr];have:=aP.1;omega⟩
 have a8:=F0.flat
 have ad:=F0.wid
 have m0:=ez (m:=(x.a9.map Y2.e).length) (z:=72) (by have:=F0.len;omega) (by omega)
 generalize (x.a9.map Y2.e)=R0 at F0 a8 ad m0⊢
 refine ae rfl ?_
 simp[qG,a8,ad,m0]
def o7 {B:Nat}(hB:B<=1048576){x:YP}(h:x.Ok B):ag Ph aC 499 [.agg [.pv (.int .i64 x.a7.aY), .pv (.int .i64 x.a7.ae), .pv (.lst (x.a7.a9.map Y2.e)), .pv (.int .i64 x.aW), .pv (.int .i64 x.ab)]]=some (.agg [.pv (.int .i64 x.a7.aY), .pv (.int .i64 x.a7.ae), .down 7 (x.a7.a9.map Y2.e), .pv (.int .i64 x.aW), .pv (.int .i64 x.ab)]):=by
 obtain⟨aQ,bm,bE⟩:=h
 have c0:=qV hB aQ
 refine ae rfl ?_
 simp[pM,c0]
def uX {B:Nat}(hB:B<=1048576){x:YP}(h:x.Ok B):ag Ph aC 497 [.agg [.pv (.int .i64 x.a7.aY), .pv (.int .i64 x.a7.ae), .pv (.lst (x.a7.a9.map Y2.e)), .pv (.int .i64 x.aW), .pv (.int .i64 x.ab)]]=some (.agg [.pv (.int .i64 x.a7.aY), .pv (.int .i64 x.a7.ae), .down 7 (x.a7.a9.map Y2.e), .pv (.int .i64 x.aW), .pv (.int .i64 x.ab)]):=by
 obtain⟨aQ,bm,bE⟩:=h
 have c0:=uW hB aQ
 refine ae rfl ?_
 simp[qJ,c0]
def Ar {B:Nat}(hB:B<=1048576){x:YN}(h:x.Ok B):ag Ph aC 458 [.agg [.pv (.lst (x.aI.map Z6.e))]]=some (.agg [.down 4 (x.aI.map Z6.e)]):=by
 have b6:=h
 have F0:YU 4 (x.aI.map Z6.e):=⟨eM (e:=Z6.e) (fun _=>rfl) _,cW (e:=Z6.e) (z:=4) (fun _=>rfl) _,by rw[Zr];have:=b6.1;omega⟩
 have a8:=F0.flat
 have ad:=F0.wid
 have m0:=ez (m:=(x.aI.map Z6.e).length) (z:=32) (by have:=F0.len;omega) (by omega)
 generalize (x.aI.map Z6.e)=R0 at F0 a8 ad m0⊢
 refine ae rfl ?_
 simp[oM,a8,ad,m0]
def Eu {B:Nat}(hB:B<=1048576){x:YN}(h:x.Ok B):ag Ph aC 452 [.agg [.pv (.lst (x.aI.map Z6.e))]]=some (.agg [.down 4 (x.aI.map Z6.e)]):=by
 have b6:=h
 have F0:YU 4 (x.aI.map Z6.e):=⟨eM (e:=Z6.e) (fun _=>rfl) _,cW (e:=Z6.e) (z:=4) (fun _=>rfl) _,by rw[Zr];have:=b6.1;omega⟩
 have a8:=F0.flat
 have ad:=F0.wid
 have m0:=ez (m:=(x.aI.map Z6.e).length) (z:=32) (by have:=F0.len;omega) (by omega)
 generalize (x.aI.map Z6.e)=R0 at F0 a8 ad m0⊢
 refine ae rfl ?_
 simp[qL,a8,ad,m0]
def xm {B:Nat}(hB:B<=1048576){x:YR}(h:x.Ok B):ag Ph aC 459 [.agg [.pv (.lst (x.aU.map Z9.e))]]=some (.agg [.down 3 (x.aU.map Z9.e)]):=by
 have b7:=h
 have F0:YU 3 (x.aU.map Z9.e):=⟨eM (e:=Z9.e) (fun _=>rfl) _,cW (e:=Z9.e) (z:=3) (fun _=>rfl) _,by rw[Zr];have:=b7.1;omega⟩
 have a8:=F0.flat
 have ad:=F0.wid
 have m0:=ez (m:=(x.aU.map Z9.e).length) (z:=24) (by have:=F0.len;omega) (by omega)
 generalize (x.aU.map Z9.e)=R0 at F0 a8 ad m0⊢
 refine ae rfl ?_
 simp[mS,a8,ad,m0]
def Ev {B:Nat}(hB:B<=1048576){x:YR}(h:x.Ok B):ag Ph aC 453 [.agg [.pv (.lst (x.aU.map Z9.e))]]=some (.agg [.down 3 (x.aU.map Z9.e)]):=by
 have b7:=h
 have F0:YU 3 (x.aU.map Z9.e):=⟨eM (e:=Z9.e) (fun _=>rfl) _,cW (e:=Z9.e) (z:=3) (fun _=>rfl) _,by rw[Zr];have:=b7.1;omega⟩
 have a8:=F0.flat
 have ad:=F0.wid
 have m0:=ez (m:=(x.aU.map Z9.e).length) (z:=24) (by have:=F0.len;omega) (by omega)
 generalize (x.aU.map Z9.e)=R0 at F0 a8 ad m0⊢
 refine ae rfl ?_
 simp[qM,a8,ad,m0]
def Ce {B:Nat}(hB:B<=1048576){x:Z7}(h:x.Ok B):ag Ph aC 460 [.agg [.pv (.str x.aE), .pv (.int .i64 x.aB), .pv (.lst (x.ao.map vW)), .pv (.bool x.av)]]=some (.agg [.pv (.str x.aE), .pv (.int .i64 x.aB), .down 1 (x.ao.map vW), .pv (.bool x.av)]):=by
 obtain⟨bF,aj,b8⟩:=h
 have F0:YU 1 (x.ao.map vW):=⟨eM (e:=vW) (fun _=>rfl) _,cW (e:=vW) (z:=1) (fun _=>rfl) _,by rw[Zr];have:=b8.1;omega⟩
 have a8:=F0.flat
 have ad:=F0.wid
 have m0:=ez (m:=(x.ao.map vW).length) (z:=16) (by have:=F0.len;omega) (by omega)
 generalize (x.ao.map vW)=R0 at F0 a8 ad m0⊢
 refine ae rfl ?_
 simp[pL,a8,ad,m0]
def Eo {B:Nat}(hB:B<=1048576){x:Z7}(h:x.Ok B):ag Ph aC 454 [.agg [.pv (.str x.aE), .pv (.int .i64 x.aB), .pv (.lst (x.ao.map vW)), .pv (.bool x.av)]]=some (.agg [.pv (.str x.aE), .pv (.int .i64 x.aB), .down 1 (x.ao.map vW), .pv (.bool x.av)]):=by
 obtain⟨bF,aj,b8⟩:=h
 have F0:YU 1 (x.ao.map vW):=⟨eM (e:=vW) (fun _=>rfl) _,cW (e:=vW) (z:=1) (fun _=>rfl) _,by rw[Zr];have:=b8.1;omega⟩
 have a8:=F0.flat
 have ad:=F0.wid
 have m0:=ez (m:=(x.ao.map vW).length) (z:=16) (by have:=F0.len;omega) (by omega)
 generalize (x.ao.map vW)=R0 at F0 a8 ad m0⊢
 refine ae rfl ?_
 simp[qD,a8,ad,m0]
def jR {B:Nat}(hB:B<=1048576){x:Y3}(h:x.Ok B):ag Ph aC 461 [.agg [.pv (.str x.aD.aE), .pv (.lst (x.aD.a0.map Y1.e)), .pv (.int .i64 x.aD.aT), .pv (.lst (x.a3.map Y6.e)), .pv (.lst (x.aG.map Y2.e))]]=some (.agg [.pv (.str x.aD.aE),nd 4 (x.aD.a0.map Y1.e), .pv (.int .i64 x.aD.aT), .down 2 (x.a3.map Y6.e), .down 7 (x.aG.map Y2.e)]):=by
 obtain⟨b9,aq,ay⟩:=h
 have c0:=iL hB b9
 have F0:YU 2 (x.a3.map Y6.e):=⟨eM (e:=Y6.e) (fun _=>rfl) _,cW (e:=Y6.e) (z:=2) (fun _=>rfl) _,by rw[Zr];have:=aq.1;omega⟩
 have a8:=F0.flat
 have ad:=F0.wid
 have m0:=ez (m:=(x.a3.map Y6.e).length) (z:=16) (by have:=F0.len;omega) (by omega)
 generalize (x.a3.map Y6.e)=R0 at F0 a8 ad m0⊢
 have F1:YU 7 (x.aG.map Y2.e):=⟨eM (e:=Y2.e) (fun _=>rfl) _,cW (e:=Y2.e) (z:=7) (fun _=>rfl) _,by rw[Zr];have:=ay.1;omega⟩
 have bL:=F1.flat
 have bM:=F1.wid
 have m1:=ez (m:=(x.aG.map Y2.e).length) (z:=72) (by have:=F1.len;omega) (by omega)
 generalize (x.aG.map Y2.e)=R1 at F1 bL bM m1⊢
 have N0:=fq 4 (x.aD.a0.map Y1.e)
 generalize nd 4 (x.aD.a0.map Y1.e)=n0 at N0 c0⊢
 rcases N0 with⟨-,rfl⟩|⟨-,rfl⟩<;>(refine ae rfl ?_;simp[nO,c0,a8,ad,m0,bL,bM,m1])
def pX {B:Nat}(hB:B<=1048576){x:Y3}(h:x.Ok B):ag Ph aC 455 [.agg [.pv (.str x.aD.aE), .pv (.lst (x.aD.a0.map Y1.e)), .pv (.int .i64 x.aD.aT), .pv (.lst (x.a3.map Y6.e)), .pv (.lst (x.aG.map Y2.e))]]=some (.agg [.pv (.str x.aD.aE),nd 4 (x.aD.a0.map Y1.e), .pv (.int .i64 x.aD.aT), .down 2 (x.a3.map Y6.e), .down 7 (x.aG.map Y2.e)]):=by
 obtain⟨b9,aq,ay⟩:=h
 have c0:=k9 hB b9
 have F0:YU 2 (x.a3.map Y6.e):=⟨eM (e:=Y6.e) (fun _=>rfl) _,cW (e:=Y6.e) (z:=2) (fun _=>rfl) _,by rw[Zr];have:=aq.1;omega⟩
 have a8:=F0.flat
 have ad:=F0.wid
 have m0:=ez (m:=(x.a3.map Y6.e).length) (z:=16) (by have:=F0.len;omega) (by omega)
 generalize (x.a3.map Y6.e)=R0 at F0 a8 ad m0⊢
 have F1:YU 7 (x.aG.map Y2.e):=⟨eM (e:=Y2.e) (fun _=>rfl) _,cW (e:=Y2.e) (z:=7) (fun _=>rfl) _,by rw[Zr];have:=ay.1;omega⟩
 have bL:=F1.flat
 have bM:=F1.wid
 have m1:=ez (m:=(x.aG.map Y2.e).length) (z:=72) (by have:=F1.len;omega) (by omega)
 generalize (x.aG.map Y2.e)=R1 at F1 bL bM m1⊢
 have N0:=fq 4 (x.aD.a0.map Y1.e)
 generalize nd 4 (x.aD.a0.map Y1.e)=n0 at N0 c0⊢
 rcases N0 with⟨-,rfl⟩|⟨-,rfl⟩<;>(refine ae rfl ?_;simp[qH,c0,a8,ad,m0,bL,bM,m1])
def pZ {B:Nat}(hB:B<=1048576){x:YO}(h:x.Ok B):ag Ph aC 492 [.agg [.pv (.str x.aF.aE), .pv (.lst (x.aF.a0.map Y1.e)), .pv (.int .i64 x.aF.aT), .pv (.int .i64 x.ar), .pv (.int .i64 x.aL.a7.aY), .pv (.int .i64 x.aL.a7.ae), .pv (.lst (x.aL.a7.a9.map Y2.e)), .pv (.int .i64 x.aL.aW), .pv (.int .i64 x.aL.ab)]]=some (.agg [.pv (.str x.aF.aE),nd 4 (x.aF.a0.map Y1.e), .pv (.int .i64 x.aF.aT), .pv (.int .i64 x.ar), .pv (.int .i64 x.aL.a7.aY), .pv (.int .i64 x.aL.a7.ae), .down 7 (x.aL.a7.a9.map Y2.e), .pv (.int .i64 x.aL.aW), .pv (.int .i64 x.aL.ab)]):=by
 obtain⟨ak,bH,bb⟩:=h
 have c0:=iL hB ak
 have c1:=o7 hB bb
 have N0:=fq 4 (x.aF.a0.map Y1.e)
 generalize nd 4 (x.aF.a0.map Y1.e)=n0 at N0 c0 c1⊢
 rcases N0 with⟨-,rfl⟩|⟨-,rfl⟩<;>(refine ae rfl ?_;simp[mV,c0,c1])
def Et {B:Nat}(hB:B<=1048576){x:YO}(h:x.Ok B):ag Ph aC 488 [.agg [.pv (.str x.aF.aE), .pv (.lst (x.aF.a0.map Y1.e)), .pv (.int .i64 x.aF.aT), .pv (.int .i64 x.ar), .pv (.int .i64 x.aL.a7.aY), .pv (.int .i64 x.aL.a7.ae), .pv (.lst (x.aL.a7.a9.map Y2.e)), .pv (.int .i64 x.aL.aW), .pv (.int .i64 x.aL.ab)]]=some (.agg [.pv (.str x.aF.aE),nd 4 (x.aF.a0.map Y1.e), .pv (.int .i64 x.aF.aT), .pv (.int .i64 x.ar), .pv (.int .i64 x.aL.a7.aY), .pv (.int .i64 x.aL.a7.ae), .down 7 (x.aL.a7.a9.map Y2.e), .pv (.int .i64 x.aL.aW), .pv (.int .i64 x.aL.ab)]):=by
 obtain⟨ak,bH,bb⟩:=h
 have c0:=k9 hB ak
 have c1:=uX hB bb
 have N0:=fq 4 (x.aF.a0.map Y1.e)
 generalize nd 4 (x.aF.a0.map Y1.e)=n0 at N0 c0 c1⊢
 rcases N0 with⟨-,rfl⟩|⟨-,rfl⟩<;>(refine ae rfl ?_;simp[qK,c0,c1])
def Cc {B:Nat}(hB:B<=1048576){x:YV}(h:x.Ok B):ag Ph aC 491 [.agg [.pv (.str x.aF.aE), .pv (.int .i64 x.aF.aB), .pv (.lst (x.aF.aA.map Y7.e)), .pv (.lst (x.aF.aC.map Y9.e)), .pv (.lst (ar x.az)), .pv (.int .i64 x.au)]]=some (.agg [.pv (.str x.aF.aE), .pv (.int .i64 x.aF.aB),nd 3 (x.aF.aA.map Y7.e), .down 2 (x.aF.aC.map Y9.e), .down 1 (ar x.az), .pv (.int .i64 x.au)]):=by
 obtain⟨ak,bN,bn⟩:=h
 have c0:=vK hB ak
 have c1:=n5 (R:=ar x.az) ⟨qQ _,j3 _,by rw[bZ];omega⟩
 have N0:=fq 3 (x.aF.aA.map Y7.e)
 generalize nd 3 (x.aF.aA.map Y7.e)=n0 at N0 c0 c1⊢
 rcases N0 with⟨-,rfl⟩|⟨-,rfl⟩<;>(refine ae rfl ?_;simp[pI,c0,c1])
def El {B:Nat}(hB:B<=1048576){x:YV}(h:x.Ok B):ag Ph aC 487 [.agg [.pv (.str x.aF.aE), .pv (.int .i64 x.aF.aB), .pv (.lst (x.aF.aA.map Y7.e)), .pv (.lst (x.aF.aC.map Y9.e)), .pv (.lst (ar x.az)), .pv (.int .i64 x.au)]]=some (.agg [.pv (.str x.aF.aE), .pv (.int .i64 x.aF.aB),nd 3 (x.aF.aA.map Y7.e), .down 2 (x.aF.aC.map Y9.e), .down 1 (ar x.az), .pv (.int .i64 x.au)]):=by
 obtain⟨ak,bN,bn⟩:=h
 have c0:=Hh hB ak
 have F0:YU 1 (ar x.az):=⟨qQ _,j3 _,by rw[bZ];omega⟩
 have a8:=F0.flat
 have ad:=F0.wid
 have m0:=ez (m:=(ar x.az).length) (z:=1) (by have:=F0.len;omega) (by omega)
 rw[Nat.mul_one]at m0
 generalize (ar x.az)=R0 at F0 a8 ad m0⊢
 have N0:=fq 3 (x.aF.aA.map Y7.e)
 generalize nd 3 (x.aF.aA.map Y7.e)=n0 at N0 c0⊢
 rcases N0 with⟨-,rfl⟩|⟨-,rfl⟩<;>(refine ae rfl ?_;simp[qA,c0,a8,ad,m0])
def iz (b0 b1:Y0)(bl:Int)(rows:List (List PV)):Nat->List Y0
 |0=>[b0,b1, .box [.pv (.int .i64 bl), .nil]]
 |k+1=>[b0,b1, .box [.pv (.int .i64 bl), .arr 3], .bA 7 (rows.take (k+1))]
def CH {B:Nat}(hB:B<=1048576){x:Z5}(h:x.Ok B):ag Ph aC 495 [.agg [.pv (.int .i64 x.aB), .pv (.lst (x.a6.map Z3.e))]]=some (.agg [.pv (.int .i64 x.aB),nd 7 (x.a6.map Z3.e)]):=by
 obtain⟨aj,aX⟩:=h
 have e1:∀k(hk:k<x.a6.length),_:=fun k hk=>En hB (aX.2 _ (Zf hk)).2.2
 have hl:x.a6.length<=1048576:=Zc aX.1 hB
 refine ae rfl ?_
 simp[pU]
 refine dB bh Cl.fin x.a6.length [.f,.t,.t,.t,.t,.f,.f,.f,.f,.f,.f,.f,.f,.f,.f,.f,.f,.f,.f,.f,.f,.f,.f,.f,.f,.f,.f,.f,.f,.f,.f,.f,.f,.f,.f,.f] (fun k=>[(4,aa .i64 k)]) (iz (.box [.pv (.int .i64 x.aB), .pv (.lst (x.a6.map Z3.e))]) (.box [.pv (.int .i64 0), .nil]) x.aB (x.a6.map Z3.e)) rfl ?_ ?_ ?_
 ·exact Kn.q [0,1,2] (by simp[iz,aV,aT,aU,fa,bt,be,bC,aN,dC,bQ,bj,bX,L.bD,aW])
 ·intro k hk
  have ek:=e1 k hk
  have hx:=Z3.e.eq_1 x.a6[k]
  have ht:=cU (e:=Z3.e) hk
  rw[hx]at ht
  cases k with
  |zero=>
   simp only[iz,ht]
   simp[gz,hk,hx,ek,cV]
   exact Kn.q [0,1,2,6]
  |succ k=>
   obtain⟨i1,i2,i3,i4,i5,i6⟩:=pk (n:=x.a6.length) (by unfold maxLen;omega) hk
   have b1:min (k+1) x.a6.length=k+1:=by omega
   have m1:=ez (m:=k+1+1) (z:=88) (by omega) (by omega)
   simp only[iz,ht]
   generalize hT:List.take (k+1) _=T
   have bo:T.length=k+1:=by rw[<-hT];simp;omega
   simp[gz,hk,hx,ek,i1,i2,i3,i4,i5,i6,bo,m1]
   exact Kn.q [0,1,2,7]
 ·cases hq:x.a6 with
  |nil=>simp[gz,iz,nd]
  |cons q qs=>
   have hT:(x.a6.map Z3.e).take (qs.length+1)=x.a6.map Z3.e:=Zs (by rw[hq];simp)
   rw[hq]at hT
   simp only[Zo,iz,hT]
   simp[gz,nd]
def jq (b0 b1:Y0)(rows:List (List PV)):Nat->List Y0
 |0=>[b0,b1, .box [.nil]]
 |k+1=>[b0,b1, .box [.arr 3], .bA 2 (rows.take (k+1))]
def Ep {B:Nat}(hB:B<=1048576){x:YK}(h:x.Ok B):ag Ph aC 486 [.agg [.pv (.lst (x.a1.map Z5.e))]]=some (.agg [nd 2 (x.a1.map Z5.e)]):=by
 have a2:=h
 have e1:∀k(hk:k<x.a1.length),_:=fun k hk=>CH hB (a2.2 _ (Zf hk))
 have hl:x.a1.length<=1048576:=Zc a2.1 hB
 refine ae rfl ?_
 simp[qE]
 refine dB bh Cl.fin x.a1.length [.f,.t,.t,.t,.t,.f,.f,.f,.f,.f,.f,.f,.f,.f,.f,.f,.f,.f,.f,.f,.f,.f,.f,.f,.f] (fun k=>[(4,aa .i64 k)]) (jq (.box [.pv (.lst (x.a1.map Z5.e))]) (.box [.nil]) (x.a1.map Z5.e)) rfl ?_ ?_ ?_
 ·exact Kn.q [0,1,2] (by simp[jq,aV,aT,aU,fa,bt,be,bC,aN,dC,bQ,bj,bX,L.bD,aW])
 ·intro k hk
  have ek:=e1 k hk
  have hx:=Z5.e.eq_1 x.a1[k]
  have ht:=cU (e:=Z5.e) hk
  rw[hx]at ht
  have N0:=fq 7 (x.a1[k].a6.map Z3.e)
  generalize nd 7 (x.a1[k].a6.map Z3.e)=n0 at N0 ek
  cases k with
  |zero=>
   simp only[jq,ht]
   rcases N0 with⟨q0,rfl⟩|⟨q0,rfl⟩
   ·simp only[q0]at ek
    simp[fj,hk,hx,ek,cV,q0]
    exact Kn.q [0,1,2,4]
   ·simp[fj,hk,hx,ek,cV]
    exact Kn.q [0,1,2,5]
  |succ k=>
   obtain⟨i1,i2,i3,i4,i5,i6⟩:=pk (n:=x.a1.length) (by unfold maxLen;omega) hk
   have b1:min (k+1) x.a1.length=k+1:=by omega
   have m1:=ez (m:=k+1+1) (z:=32) (by omega) (by omega)
   simp only[jq,ht]
   generalize hT:List.take (k+1) _=T
   have bo:T.length=k+1:=by rw[<-hT];simp;omega
   rcases N0 with⟨q0,rfl⟩|⟨q0,rfl⟩
   ·simp only[q0]at ek
    simp[fj,hk,hx,ek,i1,i2,i3,i4,i5,i6,bo,m1,q0]
    exact Kn.q [0,1,2,5]
   ·simp[fj,hk,hx,ek,i1,i2,i3,i4,i5,i6,bo,m1]
    exact Kn.q [0,1,2,6]
 ·cases hq:x.a1 with
  |nil=>simp[fj,jq,nd]
  |cons q qs=>
   have hT:(x.a1.map Z5.e).take (qs.length+1)=x.a1.map Z5.e:=Zs (by rw[hq];simp)
   rw[hq]at hT
   simp only[Zo,jq,hT]
   simp[fj,nd]
def RB (b0 b1:Y0)(rows:List (List PV)):Nat->List Y0
 |0=>[b0,b1, .box [.nil]]
 |k+1=>[b0,b1, .box [.arr 3], .bA 2 (rows.take (k+1))]
def D8 (p:Nat)(pre:List Y0)(b5:Y0)(bl:Int)(rows:List (List PV)):Nat->List Y0
 |0=>pre++[b5, .box [.pv (.int .i64 bl), .nil]]
 |j+1=>pre++[b5, .box [.pv (.int .i64 bl), .arr (p+2)], .bA 7 (rows.take (j+1))]
def vJ {B:Nat}(hB:B<=1048576){x:YK}(h:x.Ok B):ag Ph aC 490 [.agg [.pv (.lst (x.a1.map Z5.e))]]=some (.agg [nd 2 (x.a1.map Z5.e)]):=by
 have hl:x.a1.length<=1048576:=Zc h.1 hB
 refine ae rfl ?_
 simp[lR]
 refine dB bh Cl.fin x.a1.length [.f,.f,.t,.t,.f,.f,.f,.f,.f,.f,.f,.t,.t,.t,.f,.f,.f,.f,.f,.f,.f,.f,.f,.f,.f,.f,.f,.f,.f,.f,.f,.f,.f,.f,.f,.f,.f,.f,.f,.f,.f,.f,.f,.f,.f,.f] (fun k=>[(13,aa .i64 k)]) (RB (.box [.pv (.lst (x.a1.map Z5.e))]) (.box [.nil]) (x.a1.map Z5.e)) rfl ?_ ?_ ?_
 ·exact Kn.q [0,1,2] (by simp[RB,aV,aT,aU,fa,bt,be,bC,aN,dC,bQ,bj,bX,L.bD,aW])
 ·intro k hk
  have c3:=h.2 _ (Zf hk)
  have hx:=Z5.e.eq_1 x.a1[k]
  have ht:=cU (e:=Z5.e) hk
  rw[hx]at ht
  have c4:x.a1[k].a6.length<=1048576:=Zc c3.2.1 hB
  have e1:∀j(hj:j<x.a1[k].a6.length),_:=fun j hj=>vL hB (c3.2.2 _ (Zf hj)).2.2
  cases k with
  |zero=>
   simp only[RB,ht]
   generalize hE:x.a1[0].a6=E at hx e1 c4⊢
   generalize hv:x.a1[0].aB=bl at hx⊢
   simp[eY,hk,hx,cV]
   refine dB bh Cl.kn E.length [.f,.f,.t,.t,.f,.f,.t,.f,.f,.f,.f,.t,.t,.t,.f,.f,.f,.f,.f,.f,.f,.t,.t,.t,.f,.f,.f,.f,.f,.f,.f,.f,.f,.f,.f,.f,.f,.f,.f,.f,.f,.f,.f,.f,.f,.f] (fun j=>[(23,aa .i64 j)]) (D8 3 [.box [.pv (.lst (x.a1.map Z5.e))], .box [.nil], .box [.nil]] (.box [.pv (.int .i64 bl), .pv (.lst (E.map Z3.e))]) bl (E.map Z3.e)) rfl ?_ ?_ ?_
   ·exact Kn.q [0,1,2,3,4] (by simp[D8,aV,aT,aU,fa,bt,be,bC,aN,dC,bQ,bj,bX,L.bD,aW])
   ·intro j hj
    have ek:=e1 j hj
    have hy:=Z3.e.eq_1 E[j]
    have hu:=cU (e:=Z3.e) hj
    rw[hy]at hu
    cases j with
    |zero=>
     simp only[D8,hu]
     simp[cq,hj,hy,ek,cV]
     exact Kn.q [0,1,2,3,4,8]
    |succ j=>
     obtain⟨i1,i2,i3,i4,i5,i6⟩:=pk (n:=E.length) (by unfold maxLen;omega) hj
     have m1:=ez (m:=j+1+1) (z:=88) (by omega) (by omega)
     simp only[D8,hu]
     generalize hU:List.take (j+1) _=U
     have bY:U.length=j+1:=by rw[<-hU];simp;omega
     simp[cq,hj,hy,ek,i1,i2,i3,i4,i5,i6,bY,m1]
     exact Kn.q [0,1,2,3,4,9]
   ·cases hq:E with
    |nil=>
     simp[cq,D8,hk,hx,cV]
     exact Kn.q [0,1,2,6]
    |cons q qs=>
     have bO:(E.map Z3.e).take (qs.length+1)=E.map Z3.e:=Zs (by rw[hq];simp)
     rw[hq]at bO
     simp only[Zo,D8,bO]
     simp[cq,hk,hx,cV]
     exact Kn.q [0,1,2,7]
  |succ k=>
   obtain⟨i1,i2,i3,i4,i5,i6⟩:=pk (n:=x.a1.length) (by unfold maxLen;omega) hk
   have m1:=ez (m:=k+1+1) (z:=32) (by omega) (by omega)
   simp only[RB,ht]
   generalize hT:List.take (k+1) _=T
   have bo:T.length=k+1:=by rw[<-hT];simp;omega
   generalize hE:x.a1[k+1].a6=E at hx e1 c4⊢
   generalize hv:x.a1[k+1].aB=bl at hx⊢
   simp[eY,hk,hx,i1,i2,i3,i4,i5,i6,bo,m1]
   refine dB bh Cl.kn E.length [.f,.f,.t,.t,.f,.f,.t,.f,.f,.f,.f,.t,.t,.t,.f,.f,.f,.f,.f,.f,.f,.t,.t,.t,.f,.f,.f,.f,.f,.f,.f,.f,.f,.f,.f,.f,.f,.f,.f,.f,.f,.f,.f,.f,.f,.f] (fun j=>[(23,aa .i64 j)]) (D8 4 [.box [.pv (.lst (x.a1.map Z5.e))], .box [.nil], .box [.arr 3], .bA 2 T] (.box [.pv (.int .i64 bl), .pv (.lst (E.map Z3.e))]) bl (E.map Z3.e)) rfl ?_ ?_ ?_
   ·exact Kn.q [0,1,2,3,4,5] (by simp[D8,aV,aT,aU,fa,bt,be,bC,aN,dC,bQ,bj,bX,L.bD,aW])
   ·intro j hj
    have ek:=e1 j hj
    have hy:=Z3.e.eq_1 E[j]
    have hu:=cU (e:=Z3.e) hj
    rw[hy]at hu
    cases j with
    |zero=>
     simp only[D8,hu]
     simp[cq,hj,hy,ek,cV]
     exact Kn.q [0,1,2,3,4,5,9]
    |succ j=>
     obtain⟨i1,i2,i3,i4,i5,i6⟩:=pk (n:=E.length) (by unfold maxLen;omega) hj
     have m1:=ez (m:=j+1+1) (z:=88) (by omega) (by omega)
     simp only[D8,hu]
     generalize hU:List.take (j+1) _=U
     have bY:U.length=j+1:=by rw[<-hU];simp;omega
     simp[cq,hj,hy,ek,i1,i2,i3,i4,i5,i6,bY,m1]
     exact Kn.q [0,1,2,3,4,5,10]
   ·cases hq:E with
    |nil=>
     simp[cq,D8,hk,hx,i1,i2,i3,i4,i5,i6,bo,m1]
     exact Kn.q [0,1,2,7]
    |cons q qs=>
     have bO:(E.map Z3.e).take (qs.length+1)=E.map Z3.e:=Zs (by rw[hq];simp)
     rw[hq]at bO
     simp only[Zo,D8,bO]
     simp[cq,hk,hx,i1,i2,i3,i4,i5,i6,bo,m1]
     exact Kn.q [0,1,2,8]
 ·cases hq:x.a1 with
  |nil=>simp[eY,RB,nd]
  |cons q qs=>
   have hT:(x.a1.map Z5.e).take (qs.length+1)=x.a1.map Z5.e:=Zs (by rw[hq];simp)
   rw[hq]at hT
   simp only[Zo,RB,hT]
   simp[eY,nd]
def yG {B:Nat}(hB:B<=1048576){x:Y4}(h:x.Ok B):ag Ph aC 478 [.agg [.pv (.str x.aR), .pv (.str x.b4), .pv (.str x.b1.aR), .pv (.int .i64 x.b1.aZ), .pv (.int .i64 x.b1.ag), .pv (.int .i64 x.b1.am), .pv (.lst (x.a1.a1.map Z5.e)), .pv (.str x.aV.aF.aE), .pv (.int .i64 x.aV.aF.aB), .pv (.lst (x.aV.aF.aA.map Y7.e)), .pv (.lst (x.aV.aF.aC.map Y9.e)), .pv (.lst (ar x.aV.az)), .pv (.int .i64 x.aV.au), .pv (.str x.a5.aF.aE), .pv (.lst (x.a5.aF.a0.map Y1.e)), .pv (.int .i64 x.a5.aF.aT), .pv (.int .i64 x.a5.ar), .pv (.int .i64 x.a5.aL.a7.aY), .pv (.int .i64 x.a5.aL.a7.ae), .pv (.lst (x.a5.aL.a7.a9.map Y2.e)), .pv (.int .i64 x.a5.aL.aW), .pv (.int .i64 x.a5.aL.ab), .pv (.int .i64 x.af), .pv (.bool x.an)]]=some (.agg [.pv (.str x.aR), .pv (.str x.b4), .pv (.str x.b1.aR), .pv (.int .i64 x.b1.aZ), .pv (.int .i64 x.b1.ag), .pv (.int .i64 x.b1.am),nd 2 (x.a1.a1.map Z5.e), .pv (.str x.aV.aF.aE), .pv (.int .i64 x.aV.aF.aB),nd 3 (x.aV.aF.aA.map Y7.e), .down 2 (x.aV.aF.aC.map Y9.e), .down 1 (ar x.aV.az), .pv (.int .i64 x.aV.au), .pv (.str x.a5.aF.aE),nd 4 (x.a5.aF.a0.map Y1.e), .pv (.int .i64 x.a5.aF.aT), .pv (.int .i64 x.a5.ar), .pv (.int .i64 x.a5.aL.a7.aY), .pv (.int .i64 x.a5.aL.a7.ae), .down 7 (x.a5.aL.a7.a9.map Y2.e), .pv (.int .i64 x.a5.aL.aW), .pv (.int .i64 x.a5.aL.ab), .pv (.int .i64 x.af), .pv (.bool x.an)]):=by
 obtain⟨bI,bP,bR,a2,bd,aH,bg⟩:=h
 have c0:=vJ hB a2
 have c1:=Cc hB bd
 have c2:=pZ hB aH
 have N0:=fq 2 (x.a1.a1.map Z5.e)
 generalize nd 2 (x.a1.a1.map Z5.e)=n0 at N0 c0 c1 c2⊢
 have N1:=fq 3 (x.aV.aF.aA.map Y7.e)
 generalize nd 3 (x.aV.aF.aA.map Y7.e)=n1 at N1 c0 c1 c2⊢
 have N2:=fq 4 (x.a5.aF.a0.map Y1.e)
 generalize nd 4 (x.a5.aF.a0.map Y1.e)=n2 at N2 c0 c1 c2⊢
 rcases N0 with⟨-,rfl⟩|⟨-,rfl⟩<;>rcases N1 with⟨-,rfl⟩|⟨-,rfl⟩<;>rcases N2 with⟨-,rfl⟩|⟨-,rfl⟩<;>(refine ae rfl ?_;simp[nL,c0,c1,c2])
def Ew {B:Nat}(hB:B<=1048576){x:Y4}(h:x.Ok B):ag Ph aC 476 [.agg [.pv (.str x.aR), .pv (.str x.b4), .pv (.str x.b1.aR), .pv (.int .i64 x.b1.aZ), .pv (.int .i64 x.b1.ag), .pv (.int .i64 x.b1.am), .pv (.lst (x.a1.a1.map Z5.e)), .pv (.str x.aV.aF.aE), .pv (.int .i64 x.aV.aF.aB), .pv (.lst (x.aV.aF.aA.map Y7.e)), .pv (.lst (x.aV.aF.aC.map Y9.e)), .pv (.lst (ar x.aV.az)), .pv (.int .i64 x.aV.au), .pv (.str x.a5.aF.aE), .pv (.lst (x.a5.aF.a0.map Y1.e)), .pv (.int .i64 x.a5.aF.aT), .pv (.int .i64 x.a5.ar), .pv (.int .i64 x.a5.aL.a7.aY), .pv (.int .i64 x.a5.aL.a7.ae), .pv (.lst (x.a5.aL.a7.a9.map Y2.e)), .pv (.int .i64 x.a5.aL.aW), .pv (.int .i64 x.a5.aL.ab), .pv (.int .i64 x.af), .pv (.bool x.an)]]=some (.agg [.pv (.str x.aR), .pv (.str x.b4), .pv (.str x.b1.aR), .pv (.int .i64 x.b1.aZ), .pv (.int .i64 x.b1.ag), .pv (.int .i64 x.b1.am),nd 2 (x.a1.a1.map Z5.e), .pv (.str x.aV.aF.aE), .pv (.int .i64 x.aV.aF.aB),nd 3 (x.aV.aF.aA.map Y7.e), .down 2 (x.aV.aF.aC.map Y9.e), .down 1 (ar x.aV.az), .pv (.int .i64 x.aV.au), .pv (.str x.a5.aF.aE),nd 4 (x.a5.aF.a0.map Y1.e), .pv (.int .i64 x.a5.aF.aT), .pv (.int .i64 x.a5.ar), .pv (.int .i64 x.a5.aL.a7.aY), .pv (.int .i64 x.a5.aL.a7.ae), .down 7 (x.a5.aL.a7.a9.map Y2.e), .pv (.int .i64 x.a5.aL.aW), .pv (.int .i64 x.a5.aL.ab), .pv (.int .i64 x.af), .pv (.bool x.an)]):=by
 obtain⟨bI,bP,bR,a2,bd,aH,bg⟩:=h
 have c0:=Ep hB a2
 have c1:=El hB bd
 have c2:=Et hB aH
 have N0:=fq 2 (x.a1.a1.map Z5.e)
 generalize nd 2 (x.a1.a1.map Z5.e)=n0 at N0 c0 c1 c2⊢
 have N1:=fq 3 (x.aV.aF.aA.map Y7.e)
 generalize nd 3 (x.aV.aF.aA.map Y7.e)=n1 at N1 c0 c1 c2⊢
 have N2:=fq 4 (x.a5.aF.a0.map Y1.e)
 generalize nd 4 (x.a5.aF.a0.map Y1.e)=n2 at N2 c0 c1 c2⊢
 rcases N0 with⟨-,rfl⟩|⟨-,rfl⟩<;>rcases N1 with⟨-,rfl⟩|⟨-,rfl⟩<;>rcases N2 with⟨-,rfl⟩|⟨-,rfl⟩<;>(refine ae rfl ?_;simp[qN,c0,c1,c2])
end Gi
