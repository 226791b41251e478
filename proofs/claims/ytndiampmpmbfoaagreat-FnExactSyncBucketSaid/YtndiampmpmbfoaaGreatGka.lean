/- A part. -/
import Derived.Test.YtndiampmpmbfoaaGreatGtb
import Derived.Test.YtndiampmpmbfoaaGreatGsr
import Derived.Lib.Bytealg
set_option linter.all false
namespace Gi
open Go Go.RowKit
def me (n:Int):Prop:= -9223372036854775808<=n/\ n<=9223372036854775807
def bH {n:Int}(h:oq (.int .i64) (.int .i64 n)):me n:=by
 simp only[oq,Lit.wf,IntKind.min,IntKind.max,IntKind.signed,IntKind.bits]at h
 simp at h
 unfold me
 omega
def xh (n:Int):List PV:=[.int .i64 n]
def vW (s:List UInt8):List PV:=[.str s]
def vi {α:Type}{e:α->List PV}{ok:α->Prop}{ts:List PTy}{B:Nat}(f:∀r,bF ts r->eN r<=B->∃x,r=e x/\ ok x):∀{rows:List (List PV)},(∀r∈rows,bF ts r)->sz (.lst rows)<=B->∃xs:List α,rows=xs.map e/\ (xs.length<=B/\ ∀x∈xs,ok x)
 |[],_,_=>⟨[],rfl,by simp,by simp⟩
 |r::rows,h,hz=>by
  rw[lY]at hz
  simp only[bI,Zo]at hz
  obtain⟨x,rfl,hx⟩:=f r (h r (by simp)) (by omega)
  obtain⟨xs,rfl,hl,ha⟩:=vi f (rows:=rows) (fun r m=>h r (by simp[m])) (by rw[lY];omega)
  refine⟨x::xs,rfl,by simp at hz⊢;omega,fun y hy=> ?_⟩
  rcases ZL.1 hy with rfl|hy
  ·exact hx
  ·exact ha y hy
def Tz {B:Nat}:∀r,bF rt r->eN r<=B->∃x,r=xh x/\ me x:=fun r h _=>by
 obtain⟨⟨c0,_⟩,e,g0,_⟩:=cI h
 obtain rfl:r=[.int _ c0]:=e
 exact⟨c0,rfl,bH g0⟩
def Ws {B:Nat}:∀r,bF jz r->eN r<=B->∃x,r=vW x/\ x.length<=B:=fun r h hz=>by
 obtain⟨⟨c0,_⟩,e,g0,_⟩:=cI h
 obtain rfl:r=[.str c0]:=e
 refine⟨c0,rfl,?_⟩
 simp only[eN,sz]at hz
 omega
def JJ {rows:List (List PV)}(h:∀r∈rows,bF kI r):∃s:List UInt8,rows=ar s:=by
 induction rows with
 |nil=>exact⟨[],rfl⟩
 |cons r rows ih=>
  obtain⟨s,rfl⟩:=ih fun r m=>h r (by simp[m])
  obtain⟨⟨c0,_⟩,e,g0,_⟩:=cI (h r (by simp))
  obtain rfl:r=[.int _ c0]:=e
  refine⟨UInt8.ofNat c0.toNat::s,?_⟩
  simp only[oq,Lit.wf,IntKind.min,IntKind.max,IntKind.signed,IntKind.bits]at g0
  simp at g0
  simp only[ar,Zv,List.cons.injEq,and_true,PV.int.injEq,true_and]
  simp
  omega
def EC (s:List UInt8):(ar s).length=s.length:=by simp[ar]
structure YL where
 aS:Int
 n:Int
 aa:List UInt8
def YL.e (x:YL):List PV:=[.int .i64 x.aS, .int .i64 x.n, .str x.aa]
def YL.Ok (B:Nat)(x:YL):Prop:=me x.aS/\ me x.n/\ x.aa.length<=B
def YL.of {B:Nat}:∀r:List PV,bF Jp r->eN r<=B->∃x:YL,r=x.e/\ x.Ok B:=fun r h hz=>by
 obtain⟨⟨c0,c1,c2,_⟩,e,g0,g1,g2,_⟩:=cI h
 obtain rfl:r=[.int _ c0, .int _ c1, .str c2]:=e
 have z2:=Zc (bL (i:=2) rfl) hz
 rw[eX]at z2
 exact⟨⟨c0,c1,c2⟩,rfl,⟨bH g0,bH g1,z2⟩⟩
structure Y8 where
 aE:List UInt8
 n:Int
def Y8.e (x:Y8):List PV:=[.str x.aE, .int .i64 x.n]
def Y8.Ok (B:Nat)(x:Y8):Prop:=x.aE.length<=B/\ me x.n
def Y8.of {B:Nat}:∀r:List PV,bF AY r->eN r<=B->∃x:Y8,r=x.e/\ x.Ok B:=fun r h hz=>by
 obtain⟨⟨c0,c1,_⟩,e,g0,g1,_⟩:=cI h
 obtain rfl:r=[.str c0, .int _ c1]:=e
 have z0:=Zc (bL (i:=0) rfl) hz
 rw[eX]at z0
 exact⟨⟨c0,c1⟩,rfl,⟨z0,bH g1⟩⟩
structure Z4 where
 fs:List Y8
def Z4.e (x:Z4):List PV:=[.lst (x.fs.map Y8.e)]
def Z4.Ok (B:Nat)(x:Z4):Prop:=(x.fs.length<=B/\ ∀y∈x.fs,y.Ok B)
def Z4.of {B:Nat}:∀r:List PV,bF wn r->eN r<=B->∃x:Z4,r=x.e/\ x.Ok B:=fun r h hz=>by
 obtain⟨⟨c0,_⟩,e,g0,_⟩:=cI h
 obtain rfl:r=[.lst c0]:=e
 have z0:=Zc (bL (i:=0) rfl) hz
 obtain⟨l0,rfl,y0⟩:=vi Y8.of (bi g0).2 z0
 exact⟨⟨l0⟩,rfl,y0⟩
structure Y1 where
 aX:YL
 aq:Z4
def Y1.e (x:Y1):List PV:=[.int .i64 x.aX.aS, .int .i64 x.aX.n, .str x.aX.aa, .lst (x.aq.fs.map Y8.e)]
def Y1.Ok (B:Nat)(x:Y1):Prop:=x.aX.Ok B/\ x.aq.Ok B
def Y1.of {B:Nat}:∀r:List PV,bF CN r->eN r<=B->∃x:Y1,r=x.e/\ x.Ok B:=fun r h hz=>by
 obtain⟨⟨c0,c1,c2,c3,_⟩,e,g0,g1,g2,g3,_⟩:=cI h
 obtain rfl:r=[.int _ c0, .int _ c1, .str c2, .lst c3]:=e
 have z2:=Zc (bL (i:=2) rfl) hz
 rw[eX]at z2
 have z3:=Zc (bL (i:=3) rfl) hz
 obtain⟨l3,rfl,y3⟩:=vi Y8.of (bi g3).2 z3
 exact⟨⟨⟨c0,c1,c2⟩,⟨l3⟩⟩,rfl,⟨⟨bH g0,bH g1,z2⟩,y3⟩⟩
structure Y7 where
 aE:List UInt8
 a0:List Y1
 aT:Int
def Y7.e (x:Y7):List PV:=[.str x.aE, .lst (x.a0.map Y1.e), .int .i64 x.aT]
def Y7.Ok (B:Nat)(x:Y7):Prop:=x.aE.length<=B/\ (x.a0.length<=B/\ ∀y∈x.a0,y.Ok B)/\ me x.aT
def Y7.of {B:Nat}:∀r:List PV,bF uM r->eN r<=B->∃x:Y7,r=x.e/\ x.Ok B:=fun r h hz=>by
 obtain⟨⟨c0,c1,c2,_⟩,e,g0,g1,g2,_⟩:=cI h
 obtain rfl:r=[.str c0, .lst c1, .int _ c2]:=e
 have z0:=Zc (bL (i:=0) rfl) hz
 rw[eX]at z0
 have z1:=Zc (bL (i:=1) rfl) hz
 obtain⟨l1,rfl,y1⟩:=vi Y1.of (bi g1).2 z1
 exact⟨⟨c0,l1,c2⟩,rfl,⟨z0,y1,bH g2⟩⟩
structure Y2 where
 aY:Int
 aj:Int
 aX:YL
 aP:List UInt8
 n:Int
def Y2.e (x:Y2):List PV:=[.int .i64 x.aY, .int .i64 x.aj, .int .i64 x.aX.aS, .int .i64 x.aX.n, .str x.aX.aa, .str x.aP, .int .i64 x.n]
def Y2.Ok (B:Nat)(x:Y2):Prop:=me x.aY/\ me x.aj/\ x.aX.Ok B/\ x.aP.length<=B/\ me x.n
def Y2.of {B:Nat}:∀r:List PV,bF xb r->eN r<=B->∃x:Y2,r=x.e/\ x.Ok B:=fun r h hz=>by
 obtain⟨⟨c0,c1,c2,c3,c4,c5,c6,_⟩,e,g0,g1,g2,g3,g4,g5,g6,_⟩:=cI h
 obtain rfl:r=[.int _ c0, .int _ c1, .int _ c2, .int _ c3, .str c4, .str c5, .int _ c6]:=e
 have z4:=Zc (bL (i:=4) rfl) hz
 rw[eX]at z4
 have z5:=Zc (bL (i:=5) rfl) hz
 rw[eX]at z5
 exact⟨⟨c0,c1,⟨c2,c3,c4⟩,c5,c6⟩,rfl,⟨bH g0,bH g1,⟨bH g2,bH g3,z4⟩,z5,bH g6⟩⟩
structure Y6 where
 aY:Int
 aj:Int
def Y6.e (x:Y6):List PV:=[.int .i64 x.aY, .int .i64 x.aj]
def Y6.Ok (B:Nat)(x:Y6):Prop:=me x.aY/\ me x.aj
def Y6.of {B:Nat}:∀r:List PV,bF xa r->eN r<=B->∃x:Y6,r=x.e/\ x.Ok B:=fun r h hz=>by
 obtain⟨⟨c0,c1,_⟩,e,g0,g1,_⟩:=cI h
 obtain rfl:r=[.int _ c0, .int _ c1]:=e
 exact⟨⟨c0,c1⟩,rfl,⟨bH g0,bH g1⟩⟩
structure Y3 where
 aD:Y7
 a3:List Y6
 aG:List Y2
def Y3.e (x:Y3):List PV:=[.str x.aD.aE, .lst (x.aD.a0.map Y1.e), .int .i64 x.aD.aT, .lst (x.a3.map Y6.e), .lst (x.aG.map Y2.e)]
def Y3.Ok (B:Nat)(x:Y3):Prop:=x.aD.Ok B/\ (x.a3.length<=B/\ ∀y∈x.a3,y.Ok B)/\ (x.aG.length<=B/\ ∀y∈x.aG,y.Ok B)
def Y3.of {B:Nat}:∀r:List PV,bF wq r->eN r<=B->∃x:Y3,r=x.e/\ x.Ok B:=fun r h hz=>by
 obtain⟨⟨c0,c1,c2,c3,c4,_⟩,e,g0,g1,g2,g3,g4,_⟩:=cI h
 obtain rfl:r=[.str c0, .lst c1, .int _ c2, .lst c3, .lst c4]:=e
 have z0:=Zc (bL (i:=0) rfl) hz
 rw[eX]at z0
 have z1:=Zc (bL (i:=1) rfl) hz
 obtain⟨l1,rfl,y1⟩:=vi Y1.of (bi g1).2 z1
 have z3:=Zc (bL (i:=3) rfl) hz
 obtain⟨l3,rfl,y3⟩:=vi Y6.of (bi g3).2 z3
 have z4:=Zc (bL (i:=4) rfl) hz
 obtain⟨l4,rfl,y4⟩:=vi Y2.of (bi g4).2 z4
 exact⟨⟨⟨c0,l1,c2⟩,l3,l4⟩,rfl,⟨⟨z0,y1,bH g2⟩,y3,y4⟩⟩
structure YD where
 aY:Int
 ae:Int
 a9:List Y2
def YD.e (x:YD):List PV:=[.int .i64 x.aY, .int .i64 x.ae, .lst (x.a9.map Y2.e)]
def YD.Ok (B:Nat)(x:YD):Prop:=me x.aY/\ me x.ae/\ (x.a9.length<=B/\ ∀y∈x.a9,y.Ok B)
def YD.of {B:Nat}:∀r:List PV,bF wm r->eN r<=B->∃x:YD,r=x.e/\ x.Ok B:=fun r h hz=>by
 obtain⟨⟨c0,c1,c2,_⟩,e,g0,g1,g2,_⟩:=cI h
 obtain rfl:r=[.int _ c0, .int _ c1, .lst c2]:=e
 have z2:=Zc (bL (i:=2) rfl) hz
 obtain⟨l2,rfl,y2⟩:=vi Y2.of (bi g2).2 z2
 exact⟨⟨c0,c1,l2⟩,rfl,⟨bH g0,bH g1,y2⟩⟩
structure YP where
 a7:YD
 aW:Int
 ab:Int
def YP.e (x:YP):List PV:=[.int .i64 x.a7.aY, .int .i64 x.a7.ae, .lst (x.a7.a9.map Y2.e), .int .i64 x.aW, .int .i64 x.ab]
def YP.Ok (B:Nat)(x:YP):Prop:=x.a7.Ok B/\ me x.aW/\ me x.ab
def YP.of {B:Nat}:∀r:List PV,bF Hv r->eN r<=B->∃x:YP,r=x.e/\ x.Ok B:=fun r h hz=>by
 obtain⟨⟨c0,c1,c2,c3,c4,_⟩,e,g0,g1,g2,g3,g4,_⟩:=cI h
 obtain rfl:r=[.int _ c0, .int _ c1, .lst c2, .int _ c3, .int _ c4]:=e
 have z2:=Zc (bL (i:=2) rfl) hz
 obtain⟨l2,rfl,y2⟩:=vi Y2.of (bi g2).2 z2
 exact⟨⟨⟨c0,c1,l2⟩,c3,c4⟩,rfl,⟨⟨bH g0,bH g1,y2⟩,bH g3,bH g4⟩⟩
structure YO where
 aF:Y7
 ar:Int
 aL:YP
def YO.e (x:YO):List PV:=[.str x.aF.aE, .lst (x.aF.a0.map Y1.e), .int .i64 x.aF.aT, .int .i64 x.ar, .int .i64 x.aL.a7.aY, .int .i64 x.aL.a7.ae, .lst (x.aL.a7.a9.map Y2.e), .int .i64 x.aL.aW, .int .i64 x.aL.ab]
def YO.Ok (B:Nat)(x:YO):Prop:=x.aF.Ok B/\ me x.ar/\ x.aL.Ok B
def YO.of {B:Nat}:∀r:List PV,bF tW r->eN r<=B->∃x:YO,r=x.e/\ x.Ok B:=fun r h hz=>by
 obtain⟨⟨c0,c1,c2,c3,c4,c5,c6,c7,c8,_⟩,e,g0,g1,g2,g3,g4,g5,g6,g7,g8,_⟩:=cI h
 obtain rfl:r=[.str c0, .lst c1, .int _ c2, .int _ c3, .int _ c4, .int _ c5, .lst c6, .int _ c7, .int _ c8]:=e
 have z0:=Zc (bL (i:=0) rfl) hz
 rw[eX]at z0
 have z1:=Zc (bL (i:=1) rfl) hz
 obtain⟨l1,rfl,y1⟩:=vi Y1.of (bi g1).2 z1
 have z6:=Zc (bL (i:=6) rfl) hz
 obtain⟨l6,rfl,y6⟩:=vi Y2.of (bi g6).2 z6
 exact⟨⟨⟨c0,l1,c2⟩,c3,⟨⟨c4,c5,l6⟩,c7,c8⟩⟩,rfl,⟨⟨z0,y1,bH g2⟩,bH g3,⟨⟨bH g4,bH g5,y6⟩,bH g7,bH g8⟩⟩⟩
structure YJ where
 b2:Int
 ax:Int
 aB:Int
 ap:List UInt8
 b3:Bool
def YJ.e (x:YJ):List PV:=[.int .i64 x.b2, .int .i64 x.ax, .int .i64 x.aB, .lst (ar x.ap), .bool x.b3]
def YJ.Ok (B:Nat)(x:YJ):Prop:=me x.b2/\ me x.ax/\ me x.aB/\ x.ap.length<=B
def YJ.of {B:Nat}:∀r:List PV,bF ru r->eN r<=B->∃x:YJ,r=x.e/\ x.Ok B:=fun r h hz=>by
 obtain⟨⟨c0,c1,c2,c3,c4,_⟩,e,g0,g1,g2,g3,g4,_⟩:=cI h
 obtain rfl:r=[.int _ c0, .int _ c1, .int _ c2, .lst c3, .bool c4]:=e
 have z3:=Zc (bL (i:=3) rfl) hz
 obtain⟨b3,rfl⟩:=JJ (bi g3).2
 rw[lY,EC]at z3
 have y3:b3.length<=B:=by omega
 exact⟨⟨c0,c1,c2,b3,c4⟩,rfl,⟨bH g0,bH g1,bH g2,y3⟩⟩
structure Z3 where
 aR:List UInt8
 ah:List UInt8
 ak:YJ
def Z3.e (x:Z3):List PV:=[.str x.aR, .str x.ah, .int .i64 x.ak.b2, .int .i64 x.ak.ax, .int .i64 x.ak.aB, .lst (ar x.ak.ap), .bool x.ak.b3]
def Z3.Ok (B:Nat)(x:Z3):Prop:=x.aR.length<=B/\ x.ah.length<=B/\ x.ak.Ok B
def Z3.of {B:Nat}:∀r:List PV,bF wi r->eN r<=B->∃x:Z3,r=x.e/\ x.Ok B:=fun r h hz=>by
 obtain⟨⟨c0,c1,c2,c3,c4,c5,c6,_⟩,e,g0,g1,g2,g3,g4,g5,g6,_⟩:=cI h
 obtain rfl:r=[.str c0, .str c1, .int _ c2, .int _ c3, .int _ c4, .lst c5, .bool c6]:=e
 have z0:=Zc (bL (i:=0) rfl) hz
 rw[eX]at z0
 have z1:=Zc (bL (i:=1) rfl) hz
 rw[eX]at z1
 have z5:=Zc (bL (i:=5) rfl) hz
 obtain⟨b5,rfl⟩:=JJ (bi g5).2
 rw[lY,EC]at z5
 have y5:b5.length<=B:=by omega
 exact⟨⟨c0,c1,⟨c2,c3,c4,b5,c6⟩⟩,rfl,⟨z0,z1,⟨bH g2,bH g3,bH g4,y5⟩⟩⟩
structure Z5 where
 aB:Int
 a6:List Z3
def Z5.e (x:Z5):List PV:=[.int .i64 x.aB, .lst (x.a6.map Z3.e)]
def Z5.Ok (B:Nat)(x:Z5):Prop:=me x.aB/\ (x.a6.length<=B/\ ∀y∈x.a6,y.Ok B)
def Z5.of {B:Nat}:∀r:List PV,bF AX r->eN r<=B->∃x:Z5,r=x.e/\ x.Ok B:=fun r h hz=>by
 obtain⟨⟨c0,c1,_⟩,e,g0,g1,_⟩:=cI h
 obtain rfl:r=[.int _ c0, .lst c1]:=e
 have z1:=Zc (bL (i:=1) rfl) hz
 obtain⟨l1,rfl,y1⟩:=vi Z3.of (bi g1).2 z1
 exact⟨⟨c0,l1⟩,rfl,⟨bH g0,y1⟩⟩
structure YK where
 a1:List Z5
def YK.e (x:YK):List PV:=[.lst (x.a1.map Z5.e)]
def YK.Ok (B:Nat)(x:YK):Prop:=(x.a1.length<=B/\ ∀y∈x.a1,y.Ok B)
def YK.of {B:Nat}:∀r:List PV,bF ro r->eN r<=B->∃x:YK,r=x.e/\ x.Ok B:=fun r h hz=>by
 obtain⟨⟨c0,_⟩,e,g0,_⟩:=cI h
 obtain rfl:r=[.lst c0]:=e
 have z0:=Zc (bL (i:=0) rfl) hz
 obtain⟨l0,rfl,y0⟩:=vi Z5.of (bi g0).2 z0
 exact⟨⟨l0⟩,rfl,y0⟩
structure YE where
 aR:List UInt8
 aZ:Int
 ag:Int
 am:Int
def YE.e (x:YE):List PV:=[.str x.aR, .int .i64 x.aZ, .int .i64 x.ag, .int .i64 x.am]
def YE.Ok (B:Nat)(x:YE):Prop:=x.aR.length<=B/\ me x.aZ/\ me x.ag/\ me x.am
def YE.of {B:Nat}:∀r:List PV,bF lc r->eN r<=B->∃x:YE,r=x.e/\ x.Ok B:=fun r h hz=>by
 obtain⟨⟨c0,c1,c2,c3,_⟩,e,g0,g1,g2,g3,_⟩:=cI h
 obtain rfl:r=[.str c0, .int _ c1, .int _ c2, .int _ c3]:=e
 have z0:=Zc (bL (i:=0) rfl) hz
 rw[eX]at z0
 exact⟨⟨c0,c1,c2,c3⟩,rfl,⟨z0,bH g1,bH g2,bH g3⟩⟩
structure YH where
 ah:List UInt8
 aB:Int
def YH.e (x:YH):List PV:=[.str x.ah, .int .i64 x.aB]
def YH.Ok (B:Nat)(x:YH):Prop:=x.ah.length<=B/\ me x.aB
def YH.of {B:Nat}:∀r:List PV,bF wl r->eN r<=B->∃x:YH,r=x.e/\ x.Ok B:=fun r h hz=>by
 obtain⟨⟨c0,c1,_⟩,e,g0,g1,_⟩:=cI h
 obtain rfl:r=[.str c0, .int _ c1]:=e
 have z0:=Zc (bL (i:=0) rfl) hz
 rw[eX]at z0
 exact⟨⟨c0,c1⟩,rfl,⟨z0,bH g1⟩⟩
structure YM where
 aS:Int
 r:Int
 n:Int
 aa:List UInt8
def YM.e (x:YM):List PV:=[.int .i64 x.aS, .int .i64 x.r, .int .i64 x.n, .str x.aa]
def YM.Ok (B:Nat)(x:YM):Prop:=me x.aS/\ me x.r/\ me x.n/\ x.aa.length<=B
def YM.of {B:Nat}:∀r:List PV,bF AZ r->eN r<=B->∃x:YM,r=x.e/\ x.Ok B:=fun r h hz=>by
 obtain⟨⟨c0,c1,c2,c3,_⟩,e,g0,g1,g2,g3,_⟩:=cI h
 obtain rfl:r=[.int _ c0, .int _ c1, .int _ c2, .str c3]:=e
 have z3:=Zc (bL (i:=3) rfl) hz
 rw[eX]at z3
 exact⟨⟨c0,c1,c2,c3⟩,rfl,⟨bH g0,bH g1,bH g2,z3⟩⟩
structure YS where
 ai:List YM
 pc:Int
 aw:List Int
 ay:Int
 b5:Bool
 ab:Bool
def YS.e (x:YS):List PV:=[.lst (x.ai.map YM.e), .int .i64 x.pc, .lst (x.aw.map xh), .int .i64 x.ay, .bool x.b5, .bool x.ab]
def YS.Ok (B:Nat)(x:YS):Prop:=(x.ai.length<=B/\ ∀y∈x.ai,y.Ok B)/\ me x.pc/\ (x.aw.length<=B/\ ∀y∈x.aw,me y)/\ me x.ay
def YS.of {B:Nat}:∀r:List PV,bF tV r->eN r<=B->∃x:YS,r=x.e/\ x.Ok B:=fun r h hz=>by
 obtain⟨⟨c0,c1,c2,c3,c4,c5,_⟩,e,g0,g1,g2,g3,g4,g5,_⟩:=cI h
 obtain rfl:r=[.lst c0, .int _ c1, .lst c2, .int _ c3, .bool c4, .bool c5]:=e
 have z0:=Zc (bL (i:=0) rfl) hz
 obtain⟨l0,rfl,y0⟩:=vi YM.of (bi g0).2 z0
 have z2:=Zc (bL (i:=2) rfl) hz
 obtain⟨l2,rfl,y2⟩:=vi Tz (bi g2).2 z2
 exact⟨⟨l0,c1,l2,c3,c4,c5⟩,rfl,⟨y0,bH g1,y2,bH g3⟩⟩
structure Z8 where
 id:Int
 aR:List UInt8
 b4:List UInt8
 aB:Int
 ad:List YH
 aM:YS
def Z8.e (x:Z8):List PV:=[.int .i64 x.id, .str x.aR, .str x.b4, .int .i64 x.aB, .lst (x.ad.map YH.e), .lst (x.aM.ai.map YM.e), .int .i64 x.aM.pc, .lst (x.aM.aw.map xh), .int .i64 x.aM.ay, .bool x.aM.b5, .bool x.aM.ab]
def Z8.Ok (B:Nat)(x:Z8):Prop:=me x.id/\ x.aR.length<=B/\ x.b4.length<=B/\ me x.aB/\ (x.ad.length<=B/\ ∀y∈x.ad,y.Ok B)/\ x.aM.Ok B
def Z8.of {B:Nat}:∀r:List PV,bF Ht r->eN r<=B->∃x:Z8,r=x.e/\ x.Ok B:=fun r h hz=>by
 obtain⟨⟨c0,c1,c2,c3,c4,c5,c6,c7,c8,c9,b0,_⟩,e,g0,g1,g2,g3,g4,g5,g6,g7,g8,g9,b9,_⟩:=cI h
 obtain rfl:r=[.int _ c0, .str c1, .str c2, .int _ c3, .lst c4, .lst c5, .int _ c6, .lst c7, .int _ c8, .bool c9, .bool b0]:=e
 have z1:=Zc (bL (i:=1) rfl) hz
 rw[eX]at z1
 have z2:=Zc (bL (i:=2) rfl) hz
 rw[eX]at z2
 have z4:=Zc (bL (i:=4) rfl) hz
 obtain⟨l4,rfl,y4⟩:=vi YH.of (bi g4).2 z4
 have z5:=Zc (bL (i:=5) rfl) hz
 obtain⟨l5,rfl,y5⟩:=vi YM.of (bi g5).2 z5
 have z7:=Zc (bL (i:=7) rfl) hz
 obtain⟨l7,rfl,y7⟩:=vi Tz (bi g7).2 z7
 exact⟨⟨c0,c1,c2,c3,l4,⟨l5,c6,l7,c8,c9,b0⟩⟩,rfl,⟨bH g0,z1,z2,bH g3,y4,⟨y5,bH g6,y7,bH g8⟩⟩⟩
structure Y9 where
 aD:List UInt8
 aP:List UInt8
def Y9.e (x:Y9):List PV:=[.str x.aD, .str x.aP]
def Y9.Ok (B:Nat)(x:Y9):Prop:=x.aD.length<=B/\ x.aP.length<=B
def Y9.of {B:Nat}:∀r:List PV,bF rq r->eN r<=B->∃x:Y9,r=x.e/\ x.Ok B:=fun r h hz=>by
 obtain⟨⟨c0,c1,_⟩,e,g0,g1,_⟩:=cI h
 obtain rfl:r=[.str c0, .str c1]:=e
 have z0:=Zc (bL (i:=0) rfl) hz
 rw[eX]at z0
 have z1:=Zc (bL (i:=1) rfl) hz
 rw[eX]at z1
 exact⟨⟨c0,c1⟩,rfl,⟨z0,z1⟩⟩
structure YF where
 aE:List UInt8
 aB:Int
 aA:List Y7
 aC:List Y9
def YF.e (x:YF):List PV:=[.str x.aE, .int .i64 x.aB, .lst (x.aA.map Y7.e), .lst (x.aC.map Y9.e)]
def YF.Ok (B:Nat)(x:YF):Prop:=x.aE.length<=B/\ me x.aB/\ (x.aA.length<=B/\ ∀y∈x.aA,y.Ok B)/\ (x.aC.length<=B/\ ∀y∈x.aC,y.Ok B)
def YF.of {B:Nat}:∀r:List PV,bF rp r->eN r<=B->∃x:YF,r=x.e/\ x.Ok B:=fun r h hz=>by
 obtain⟨⟨c0,c1,c2,c3,_⟩,e,g0,g1,g2,g3,_⟩:=cI h
 obtain rfl:r=[.str c0, .int _ c1, .lst c2, .lst c3]:=e
 have z0:=Zc (bL (i:=0) rfl) hz
 rw[eX]at z0
 have z2:=Zc (bL (i:=2) rfl) hz
 obtain⟨l2,rfl,y2⟩:=vi Y7.of (bi g2).2 z2
 have z3:=Zc (bL (i:=3) rfl) hz
 obtain⟨l3,rfl,y3⟩:=vi Y9.of (bi g3).2 z3
 exact⟨⟨c0,c1,l2,l3⟩,rfl,⟨z0,bH g1,y2,y3⟩⟩
structure YV where
 aF:YF
 az:List UInt8
 au:Int
def YV.e (x:YV):List PV:=[.str x.aF.aE, .int .i64 x.aF.aB, .lst (x.aF.aA.map Y7.e), .lst (x.aF.aC.map Y9.e), .lst (ar x.az), .int .i64 x.au]
def YV.Ok (B:Nat)(x:YV):Prop:=x.aF.Ok B/\ x.az.length<=B/\ me x.au
def YV.of {B:Nat}:∀r:List PV,bF Hr r->eN r<=B->∃x:YV,r=x.e/\ x.Ok B:=fun r h hz=>by
 obtain⟨⟨c0,c1,c2,c3,c4,c5,_⟩,e,g0,g1,g2,g3,g4,g5,_⟩:=cI h
 obtain rfl:r=[.str c0, .int _ c1, .lst c2, .lst c3, .lst c4, .int _ c5]:=e
 have z0:=Zc (bL (i:=0) rfl) hz
 rw[eX]at z0
 have z2:=Zc (bL (i:=2) rfl) hz
 obtain⟨l2,rfl,y2⟩:=vi Y7.of (bi g2).2 z2
 have z3:=Zc (bL (i:=3) rfl) hz
 obtain⟨l3,rfl,y3⟩:=vi Y9.of (bi g3).2 z3
 have z4:=Zc (bL (i:=4) rfl) hz
 obtain⟨b4,rfl⟩:=JJ (bi g4).2
 rw[lY,EC]at z4
 have y4:b4.length<=B:=by omega
 exact⟨⟨⟨c0,c1,l2,l3⟩,b4,c5⟩,rfl,⟨⟨z0,bH g1,y2,y3⟩,y4,bH g5⟩⟩
structure Y4 where
 aR:List UInt8
 b4:List UInt8
 b1:YE
 a1:YK
 aV:YV
 a5:YO
 af:Int
 an:Bool
def Y4.e (x:Y4):List PV:=[.str x.aR, .str x.b4, .str x.b1.aR, .int .i64 x.b1.aZ, .int .i64 x.b1.ag, .int .i64 x.b1.am, .lst (x.a1.a1.map Z5.e), .str x.aV.aF.aE, .int .i64 x.aV.aF.aB, .lst (x.aV.aF.aA.map Y7.e), .lst (x.aV.aF.aC.map Y9.e), .lst (ar x.aV.az), .int .i64 x.aV.au, .str x.a5.aF.aE, .lst (x.a5.aF.a0.map Y1.e), .int .i64 x.a5.aF.aT, .int .i64 x.a5.ar, .int .i64 x.a5.aL.a7.aY, .int .i64 x.a5.aL.a7.ae, .lst (x.a5.aL.a7.a9.map Y2.e), .int .i64 x.a5.aL.aW, .int .i64 x.a5.aL.ab, .int .i64 x.af, .bool x.an]
def Y4.Ok (B:Nat)(x:Y4):Prop:=x.aR.length<=B/\ x.b4.length<=B/\ x.b1.Ok B/\ x.a1.Ok B/\ x.aV.Ok B/\ x.a5.Ok B/\ me x.af
def Y4.of {B:Nat}:∀r:List PV,bF wh r->eN r<=B->∃x:Y4,r=x.e/\ x.Ok B:=fun r h hz=>by
 obtain⟨⟨c0,c1,c2,c3,c4,c5,c6,c7,c8,c9,b0,bE,bb,bc,bG,bf,bg,bk,bl,bM,bm,bn,bo,bp,_⟩,e,g0,g1,g2,g3,g4,g5,g6,g7,g8,g9,b9,bN,bP,cr,bR,bS,bU,bV,bY,bZ,ca,cb,cc,ct,_⟩:=cI h
 obtain rfl:r=[.str c0, .str c1, .str c2, .int _ c3, .int _ c4, .int _ c5, .lst c6, .str c7, .int _ c8, .lst c9, .lst b0, .lst bE, .int _ bb, .str bc, .lst bG, .int _ bf, .int _ bg, .int _ bk, .int _ bl, .lst bM, .int _ bm, .int _ bn, .int _ bo, .bool bp]:=e
 have z0:=Zc (bL (i:=0) rfl) hz
 rw[eX]at z0
 have z1:=Zc (bL (i:=1) rfl) hz
 rw[eX]at z1
 have z2:=Zc (bL (i:=2) rfl) hz
 rw[eX]at z2
 have z6:=Zc (bL (i:=6) rfl) hz
 obtain⟨l6,rfl,y6⟩:=vi Z5.of (bi g6).2 z6
 have z7:=Zc (bL (i:=7) rfl) hz
 rw[eX]at z7
 have z9:=Zc (bL (i:=9) rfl) hz
 obtain⟨l9,rfl,y9⟩:=vi Y7.of (bi g9).2 z9
 have cd:=Zc (bL (i:=10) rfl) hz
 obtain⟨cf,rfl,cg⟩:=vi Y9.of (bi b9).2 cd
 have ch:=Zc (bL (i:=11) rfl) hz
 obtain⟨bx,rfl⟩:=JJ (bi bN).2
 rw[lY,EC]at ch
 have cj:bx.length<=B:=by omega
 have bA:=Zc (bL (i:=13) rfl) hz
 rw[eX]at bA
 have ck:=Zc (bL (i:=14) rfl) hz
 obtain⟨cl,rfl,cm⟩:=vi Y1.of (bi bR).2 ck
 have cn:=Zc (bL (i:=19) rfl) hz
 obtain⟨cp,rfl,cq⟩:=vi Y2.of (bi bZ).2 cn
 exact⟨⟨c0,c1,⟨c2,c3,c4,c5⟩,⟨l6⟩,⟨⟨c7,c8,l9,cf⟩,bx,bb⟩,⟨⟨bc,cl,bf⟩,bg,⟨⟨bk,bl,cp⟩,bm,bn⟩⟩,bo,bp⟩,rfl,⟨z0,z1,⟨z2,bH g3,bH g4,bH g5⟩,y6,⟨⟨z7,bH g8,y9,cg⟩,cj,bH bP⟩,⟨⟨bA,cm,bH bS⟩,bH bU,⟨⟨bH bV,bH bY,cq⟩,bH ca,bH cb⟩⟩,bH cc⟩⟩
structure YQ where
 a2:List Y4
def YQ.e (x:YQ):List PV:=[.lst (x.a2.map Y4.e)]
def YQ.Ok (B:Nat)(x:YQ):Prop:=(x.a2.length<=B/\ ∀y∈x.a2,y.Ok B)
def YQ.of {B:Nat}:∀r:List PV,bF iC r->eN r<=B->∃x:YQ,r=x.e/\ x.Ok B:=fun r h hz=>by
 obtain⟨⟨c0,_⟩,e,g0,_⟩:=cI h
 obtain rfl:r=[.lst c0]:=e
 have z0:=Zc (bL (i:=0) rfl) hz
 obtain⟨l0,rfl,y0⟩:=vi Y4.of (bi g0).2 z0
 exact⟨⟨l0⟩,rfl,y0⟩
structure Z6 where
 aE:List UInt8
 b6:Int
 av:Bool
 b8:Bool
def Z6.e (x:Z6):List PV:=[.str x.aE, .int .i64 x.b6, .bool x.av, .bool x.b8]
def Z6.Ok (B:Nat)(x:Z6):Prop:=x.aE.length<=B/\ me x.b6
def Z6.of {B:Nat}:∀r:List PV,bF Hs r->eN r<=B->∃x:Z6,r=x.e/\ x.Ok B:=fun r h hz=>by
 obtain⟨⟨c0,c1,c2,c3,_⟩,e,g0,g1,g2,g3,_⟩:=cI h
 obtain rfl:r=[.str c0, .int _ c1, .bool c2, .bool c3]:=e
 have z0:=Zc (bL (i:=0) rfl) hz
 rw[eX]at z0
 exact⟨⟨c0,c1,c2,c3⟩,rfl,⟨z0,bH g1⟩⟩
structure YN where
 aI:List Z6
def YN.e (x:YN):List PV:=[.lst (x.aI.map Z6.e)]
def YN.Ok (B:Nat)(x:YN):Prop:=(x.aI.length<=B/\ ∀y∈x.aI,y.Ok B)
def YN.of {B:Nat}:∀r:List PV,bF fQ r->eN r<=B->∃x:YN,r=x.e/\ x.Ok B:=fun r h hz=>by
 obtain⟨⟨c0,_⟩,e,g0,_⟩:=cI h
 obtain rfl:r=[.lst c0]:=e
 have z0:=Zc (bL (i:=0) rfl) hz
 obtain⟨l0,rfl,y0⟩:=vi Z6.of (bi g0).2 z0
 exact⟨⟨l0⟩,rfl,y0⟩
structure Z9 where
 to:Int
 b7:Int
 n:Int
def Z9.e (x:Z9):List PV:=[.int .i64 x.to, .int .i64 x.b7, .int .i64 x.n]
def Z9.Ok (B:Nat)(x:Z9):Prop:=me x.to/\ me x.b7/\ me x.n
def Z9.of {B:Nat}:∀r:List PV,bF Lg r->eN r<=B->∃x:Z9,r=x.e/\ x.Ok B:=fun r h hz=>by
 obtain⟨⟨c0,c1,c2,_⟩,e,g0,g1,g2,_⟩:=cI h
 obtain rfl:r=[.int _ c0, .int _ c1, .int _ c2]:=e
 exact⟨⟨c0,c1,c2⟩,rfl,⟨bH g0,bH g1,bH g2⟩⟩
structure YR where
 aU:List Z9
def YR.e (x:YR):List PV:=[.lst (x.aU.map Z9.e)]
def YR.Ok (B:Nat)(x:YR):Prop:=(x.aU.length<=B/\ ∀y∈x.aU,y.Ok B)
def YR.of {B:Nat}:∀r:List PV,bF iB r->eN r<=B->∃x:YR,r=x.e/\ x.Ok B:=fun r h hz=>by
 obtain⟨⟨c0,_⟩,e,g0,_⟩:=cI h
 obtain rfl:r=[.lst c0]:=e
 have z0:=Zc (bL (i:=0) rfl) hz
 obtain⟨l0,rfl,y0⟩:=vi Z9.of (bi g0).2 z0
 exact⟨⟨l0⟩,rfl,y0⟩
structure Z7 where
 aE:List UInt8
 aB:Int
 ao:List (List UInt8)
 av:Bool
def Z7.e (x:Z7):List PV:=[.str x.aE, .int .i64 x.aB, .lst (x.ao.map vW), .bool x.av]
def Z7.Ok (B:Nat)(x:Z7):Prop:=x.aE.length<=B/\ me x.aB/\ (x.ao.length<=B/\ ∀y∈x.ao,y.length<=B)
def Z7.of {B:Nat}:∀r:List PV,bF Hu r->eN r<=B->∃x:Z7,r=x.e/\ x.Ok B:=fun r h hz=>by
 obtain⟨⟨c0,c1,c2,c3,_⟩,e,g0,g1,g2,g3,_⟩:=cI h
 obtain rfl:r=[.str c0, .int _ c1, .lst c2, .bool c3]:=e
 have z0:=Zc (bL (i:=0) rfl) hz
 rw[eX]at z0
 have z2:=Zc (bL (i:=2) rfl) hz
 obtain⟨l2,rfl,y2⟩:=vi Ws (bi g2).2 z2
 exact⟨⟨c0,c1,l2,c3⟩,rfl,⟨z0,bH g1,y2⟩⟩
structure YI where
 al:Int
 aO:Bool
 aQ:Int
 a8:YQ
 aJ:List Z8
 aH:Int
 aI:YN
 aN:YR
 aK:List Z7
 a4:List Y3
def YI.e (x:YI):List PV:=[.int .i64 x.al, .bool x.aO, .int .i64 x.aQ, .lst (x.a8.a2.map Y4.e), .lst (x.aJ.map Z8.e), .int .i64 x.aH, .lst (x.aI.aI.map Z6.e), .lst (x.aN.aU.map Z9.e), .lst (x.aK.map Z7.e), .lst (x.a4.map Y3.e)]
def YI.Ok (B:Nat)(x:YI):Prop:=me x.al/\ me x.aQ/\ x.a8.Ok B/\ (x.aJ.length<=B/\ ∀y∈x.aJ,y.Ok B)/\ me x.aH/\ x.aI.Ok B/\ x.aN.Ok B/\ (x.aK.length<=B/\ ∀y∈x.aK,y.Ok B)/\ (x.a4.length<=B/\ ∀y∈x.a4,y.Ok B)
def YI.of {B:Nat}:∀r:List PV,bF fS r->eN r<=B->∃x:YI,r=x.e/\ x.Ok B:=fun r h hz=>by
 obtain⟨⟨c0,c1,c2,c3,c4,c5,c6,c7,c8,c9,_⟩,e,g0,g1,g2,g3,g4,g5,g6,g7,g8,g9,_⟩:=cI h
 obtain rfl:r=[.int _ c0, .bool c1, .int _ c2, .lst c3, .lst c4, .int _ c5, .lst c6, .lst c7, .lst c8, .lst c9]:=e
 have z3:=Zc (bL (i:=3) rfl) hz
 obtain⟨l3,rfl,y3⟩:=vi Y4.of (bi g3).2 z3
 have z4:=Zc (bL (i:=4) rfl) hz
 obtain⟨l4,rfl,y4⟩:=vi Z8.of (bi g4).2 z4
 have z6:=Zc (bL (i:=6) rfl) hz
 obtain⟨l6,rfl,y6⟩:=vi Z6.of (bi g6).2 z6
 have z7:=Zc (bL (i:=7) rfl) hz
 obtain⟨l7,rfl,y7⟩:=vi Z9.of (bi g7).2 z7
 have z8:=Zc (bL (i:=8) rfl) hz
 obtain⟨l8,rfl,y8⟩:=vi Z7.of (bi g8).2 z8
 have z9:=Zc (bL (i:=9) rfl) hz
 obtain⟨l9,rfl,y9⟩:=vi Y3.of (bi g9).2 z9
 exact⟨⟨c0,c1,c2,⟨l3⟩,l4,c5,⟨l6⟩,⟨l7⟩,l8,l9⟩,rfl,⟨bH g0,bH g2,y3,y4,bH g5,y6,y7,y8,y9⟩⟩
set_option maxHeartbeats 4000000
set_option maxRecDepth 4000
def aC :Nat->List V->Option V:=fun k xz=>match k,xz with
 |363,[.one (.pv (.str a)), .one (.pv (.str b))]=>some (aa .i64 (Lib.compareBytes a b))
 |_,_=>none
def bh :rI (ag Ph aC):=Pq fun k xz r h=>by
 unfold aC at h
 split at h
 ·cases h;rfl
 ·cases h
def qm {a b:List UInt8}:jN .neq a b=some (az (!(a==b))):=rfl
def ql {a b:List UInt8}:jN .eql a b=some (az (a==b)):=rfl
def cV :IntKind.i64.wrap 1=1:=by rw[IntKind.wrap_i64];rfl
def pk {j n:Nat}(hn:n<=maxLen)(hj:j+1<n):IntKind.i64.wrap ((j:Int)+1+1)=(j:Int)+1+1/\ IntKind.i64.wrap (j:Int)=(j:Int)/\ (0:Int)<(j:Int)+1/\ (0:Int)<=(j:Int)+1/\ ((j:Int)+1).toNat=j+1/\ (j:Int)+1<(n:Int):=by
 unfold maxLen at hn
 refine⟨?_,?_,by omega,by omega,by omega,by omega⟩<;>rw[IntKind.wrap_i64]<;>omega
def ez {m z:Nat}(hm:m<=4194304)(hz:z<=4096):m*z<=140737488355328/\ m<=9223372036854775807/\ m<=9223372036854775806/\ m<9223372036854775807:=by
 refine⟨?_,by omega,by omega,by omega⟩
 calc m*z<=4194304*4096:=Nat.mul_le_mul hm hz
  _<=140737488355328:=by decide
def cU {α:Type}{e:α->List PV}{xs:List α}{k:Nat}(hk:k<xs.length):(xs.map e).take (k+1)=(xs.map e).take k++[e xs[k]]:=by
 rw[ZX (by simpa using hk)];simp
def eM {α:Type}{e:α->List PV}(h:∀x,(e x).all PV.flat=true)(xs:List α):nY (xs.map e)=true:=by
 simp only[nY,List.all_map,Zt,Function.comp];exact fun x _=>by simpa[Zt]using h x
def cW {α:Type}{e:α->List PV}{z:Nat}(h:∀x,(e x).length=z)(xs:List α):((xs.map e).all fun r=>r.length==z)=true:=by
 simp only[List.all_map,Zt,Function.comp,beq_iff_eq];exact fun x _=>h x
def qQ (s:List UInt8):nY (ar s)=true:=eM (e:=fun b:UInt8=>[PV.int .u8 b.toNat]) (fun _=>rfl) s
def j3 (s:List UInt8):((ar s).all fun r=>r.length==1)=true:=cW (e:=fun b:UInt8=>[PV.int .u8 b.toNat]) (z:=1) (fun _=>rfl) s
def nd (z:Nat):List (List PV)->L
 |[]=> .nil
 |r::rs=> .down z (r::rs)
def Ct (z:Nat):List (List PV)->L
 |[]=> .nil
 |r::rs=> .own z (r::rs)
def pB :List (List PV)->L
 |[]=> .nil
 |r::rs=> .pv (.lst (r::rs))
def fq (z:Nat)(rows:List (List PV)):(rows=[]/\ nd z rows= .nil) \/(rows≠[]/\ nd z rows= .down z rows):=by
 cases rows with
 |nil=>exact .inl ⟨rfl,rfl⟩
 |cons r rs=>exact .inr ⟨by simp,rfl⟩
def bq {z:Nat}{rows:List (List PV)}:df (nd z rows)=pB rows:=by cases rows<;>rfl
def br {z:Nat}{rows:List (List PV)}:df (Ct z rows)=pB rows:=by cases rows<;>rfl
def ba {rows:List (List PV)}:df (pB rows)=pB rows:=by cases rows<;>rfl
def aS {h:List Y0}{rows:List (List PV)}:L.view h (pB rows)=some (.lst rows):=by cases rows<;>rfl
def aE {rows:List (List PV)}:plain (pB rows)=true:=by cases rows<;>rfl
def bT {h:List Y0}{rows:List (List PV)}:L.mut h (pB rows)=false:=by cases rows<;>rfl
def aw {h:List Y0}{rows:List (List PV)}:freezeL h (pB rows)=h:=by cases rows<;>rfl
def aR {h:List Y0}{rows:List (List PV)}:bJ h (pB rows)=some (pB rows):=by cases rows<;>rfl
def aW {f:List Nat}{rows:List (List PV)}:(pB rows).bD f=some (pB rows):=by cases rows<;>rfl
def aK {o:Nat}{rows:List (List PV)}:L.bC o (pB rows)=true:=by cases rows<;>rfl
def bz {rows:List (List PV)}:L.flat (pB rows)=false:=by cases rows<;>rfl
def Sz {rows:List (List PV)}:L.bK (pB rows)=pB rows:=by cases rows<;>rfl
def bB {h:List Y0}{rows:List (List PV)}{ls:List L}:thawL h (pB rows::ls)=((pB rows::(thawL h ls).1),(thawL h ls).2):=by cases rows<;>rfl
def cT :aj []=[]:=rfl
def bW {p:PV}{ls:List L}:aj (.pv p::ls)=aj ls:=rfl
def bw {ls:List L}:aj (.nil::ls)=aj ls:=rfl
def bu {o:Nat}{ls:List L}:aj (.arr o::ls)=o::aj ls:=rfl
def bv {rows:List (List PV)}{ls:List L}:aj (pB rows::ls)=aj ls:=by cases rows<;>rfl
def Kn.q (f:List Nat){t t':List V}{h h':List Y0}(ho:bj f h' f h:=by simp[aV,aT,aU,fa,bt,be,bC,aN,dC,bQ,bj,bX,L.bD,aW])(ht:be f t t':=by simp[aV,aT,aU,fa,bt,be,bC,aN,dC,bQ,bj,bX,L.bD,aW])(nd:f.Nodup:=by decide):Kn ⟨t,h⟩ ⟨t',h'⟩:=Kn.of f nd ho ht
def gQ :List Y0->Nat->List Nat
 |[],_=>[]
 |_::r,k=>k::gQ r (k+1)
def QD :∀{h:List Y0}{k x:Nat},x∈gQ h k->k<=x
 |_::_,_,_,h=>by
  rcases ZL.1 h with rfl|h
  ·exact Zn _
  ·have:=QD h;omega
def HJ :∀(h:List Y0)(k:Nat),(gQ h k).Nodup
 |[],_=>List.nodup_nil
 |_::r,k=>L'.2 ⟨fun h=>by have:=QD h;omega,HJ r (k+1)⟩
def eF {t t':List V}{h h':List Y0}(hh:bj (gQ h 0) h' (gQ h 0) h/\ be (gQ h 0) t t'):Kn ⟨t,h⟩ ⟨t',h'⟩:=Kn.of _ (HJ h 0) hh.1 hh.2
def eU {p:PV}:L.ow (.pv p)= .pv p:=rfl
def dx :L.ow .nil= .nil:=rfl
def dy {z:Nat}{rows:List (List PV)}:L.ow (.own z rows)= .own z rows:=rfl
def cB {z:Nat}{rows:List (List PV)}:L.ow (.down z rows)= .own z rows:=rfl
def eT {z:Nat}{rows:List (List PV)}:L.ow (nd z rows)=Ct z rows:=by cases rows<;>rfl
def cC {z:Nat}{rows:List (List PV)}:L.ow (Ct z rows)=Ct z rows:=by cases rows<;>rfl
def dw {rows:List (List PV)}:L.ow (pB rows)=pB rows:=by cases rows<;>rfl
def kF (z:Nat)(rows:List (List PV)):(rows=[]/\ nd z rows= .nil/\ Ct z rows= .nil) \/(rows≠[]/\ nd z rows= .down z rows/\ Ct z rows= .own z rows):=by
 cases rows with
 |nil=>exact .inl ⟨rfl,rfl,rfl⟩
 |cons r rs=>exact .inr ⟨by simp,rfl,rfl⟩
abbrev YL.v (x:YL):V:= .agg [.pv (.int .i64 x.aS), .pv (.int .i64 x.n), .pv (.str x.aa)]
abbrev Y8.v (x:Y8):V:= .agg [.pv (.str x.aE), .pv (.int .i64 x.n)]
abbrev Z4.v (x:Z4):V:= .agg [.pv (.lst (x.fs.map Y8.e))]
abbrev Y1.v (x:Y1):V:= .agg [.pv (.int .i64 x.aX.aS), .pv (.int .i64 x.aX.n), .pv (.str x.aX.aa), .pv (.lst (x.aq.fs.map Y8.e))]
abbrev Y7.v (x:Y7):V:= .agg [.pv (.str x.aE), .pv (.lst (x.a0.map Y1.e)), .pv (.int .i64 x.aT)]
abbrev Y2.v (x:Y2):V:= .agg [.pv (.int .i64 x.aY), .pv (.int .i64 x.aj), .pv (.int .i64 x.aX.aS), .pv (.int .i64 x.aX.n), .pv (.str x.aX.aa), .pv (.str x.aP), .pv (.int .i64 x.n)]
abbrev Y6.v (x:Y6):V:= .agg [.pv (.int .i64 x.aY), .pv (.int .i64 x.aj)]
abbrev Y3.v (x:Y3):V:= .agg [.pv (.str x.aD.aE), .pv (.lst (x.aD.a0.map Y1.e)), .pv (.int .i64 x.aD.aT), .pv (.lst (x.a3.map Y6.e)), .pv (.lst (x.aG.map Y2.e))]
abbrev YD.v (x:YD):V:= .agg [.pv (.int .i64 x.aY), .pv (.int .i64 x.ae), .pv (.lst (x.a9.map Y2.e))]
abbrev YP.v (x:YP):V:= .agg [.pv (.int .i64 x.a7.aY), .pv (.int .i64 x.a7.ae), .pv (.lst (x.a7.a9.map Y2.e)), .pv (.int .i64 x.aW), .pv (.int .i64 x.ab)]
abbrev YO.v (x:YO):V:= .agg [.pv (.str x.aF.aE), .pv (.lst (x.aF.a0.map Y1.e)), .pv (.int .i64 x.aF.aT), .pv (.int .i64 x.ar), .pv (.int .i64 x.aL.a7.aY), .pv (.int .i64 x.aL.a7.ae), .pv (.lst (x.aL.a7.a9.map Y2.e)), .pv (.int .i64 x.aL.aW), .pv (.int .i64 x.aL.ab)]
abbrev YJ.v (x:YJ):V:= .agg [.pv (.int .i64 x.b2), .pv (.int .i64 x.ax), .pv (.int .i64 x.aB), .pv (.lst (ar x.ap)), .pv (.bool x.b3)]
abbrev Z3.v (x:Z3):V:= .agg [.pv (.str x.aR), .pv (.str x.ah), .pv (.int .i64 x.ak.b2), .pv (.int .i64 x.ak.ax), .pv (.int .i64 x.ak.aB), .pv (.lst (ar x.ak.ap)), .pv (.bool x.ak.b3)]
abbrev Z5.v (x:Z5):V:= .agg [.pv (.int .i64 x.aB), .pv (.lst (x.a6.map Z3.e))]
abbrev YK.v (x:YK):V:= .agg [.pv (.lst (x.a1.map Z5.e))]
abbrev YE.v (x:YE):V:= .agg [.pv (.str x.aR), .pv (.int .i64 x.aZ), .pv (.int .i64 x.ag), .pv (.int .i64 x.am)]
abbrev YH.v (x:YH):V:= .agg [.pv (.str x.ah), .pv (.int .i64 x.aB)]
abbrev YM.v (x:YM):V:= .agg [.pv (.int .i64 x.aS), .pv (.int .i64 x.r), .pv (.int .i64 x.n), .pv (.str x.aa)]
abbrev YS.v (x:YS):V:= .agg [.pv (.lst (x.ai.map YM.e)), .pv (.int .i64 x.pc), .pv (.lst (x.aw.map xh)), .pv (.int .i64 x.ay), .pv (.bool x.b5), .pv (.bool x.ab)]
abbrev Z8.v (x:Z8):V:= .agg [.pv (.int .i64 x.id), .pv (.str x.aR), .pv (.str x.b4), .pv (.int .i64 x.aB), .pv (.lst (x.ad.map YH.e)), .pv (.lst (x.aM.ai.map YM.e)), .pv (.int .i64 x.aM.pc), .pv (.lst (x.aM.aw.map xh)), .pv (.int .i64 x.aM.ay), .pv (.bool x.aM.b5), .pv (.bool x.aM.ab)]
abbrev Y9.v (x:Y9):V:= .agg [.pv (.str x.aD), .pv (.str x.aP)]
abbrev YF.v (x:YF):V:= .agg [.pv (.str x.aE), .pv (.int .i64 x.aB), .pv (.lst (x.aA.map Y7.e)), .pv (.lst (x.aC.map Y9.e))]
abbrev YV.v (x:YV):V:= .agg [.pv (.str x.aF.aE), .pv (.int .i64 x.aF.aB), .pv (.lst (x.aF.aA.map Y7.e)), .pv (.lst (x.aF.aC.map Y9.e)), .pv (.lst (ar x.az)), .pv (.int .i64 x.au)]
abbrev Y4.v (x:Y4):V:= .agg [.pv (.str x.aR), .pv (.str x.b4), .pv (.str x.b1.aR), .pv (.int .i64 x.b1.aZ), .pv (.int .i64 x.b1.ag), .pv (.int .i64 x.b1.am), .pv (.lst (x.a1.a1.map Z5.e)), .pv (.str x.aV.aF.aE), .pv (.int .i64 x.aV.aF.aB), .pv (.lst (x.aV.aF.aA.map Y7.e)), .pv (.lst (x.aV.aF.aC.map Y9.e)), .pv (.lst (ar x.aV.az)), .pv (.int .i64 x.aV.au), .pv (.str x.a5.aF.aE), .pv (.lst (x.a5.aF.a0.map Y1.e)), .pv (.int .i64 x.a5.aF.aT), .pv (.int .i64 x.a5.ar), .pv (.int .i64 x.a5.aL.a7.aY), .pv (.int .i64 x.a5.aL.a7.ae), .pv (.lst (x.a5.aL.a7.a9.map Y2.e)), .pv (.int .i64 x.a5.aL.aW), .pv (.int .i64 x.a5.aL.ab), .pv (.int .i64 x.af), .pv (.bool x.an)]
abbrev YQ.v (x:YQ):V:= .agg [.pv (.lst (x.a2.map Y4.e))]
abbrev Z6.v (x:Z6):V:= .agg [.pv (.str x.aE), .pv (.int .i64 x.b6), .pv (.bool x.av), .pv (.bool x.b8)]
abbrev YN.v (x:YN):V:= .agg [.pv (.lst (x.aI.map Z6.e))]
abbrev Z9.v (x:Z9):V:= .agg [.pv (.int .i64 x.to), .pv (.int .i64 x.b7), .pv (.int .i64 x.n)]
abbrev YR.v (x:YR):V:= .agg [.pv (.lst (x.aU.map Z9.e))]
abbrev Z7.v (x:Z7):V:= .agg [.pv (.str x.aE), .pv (.int .i64 x.aB), .pv (.lst (x.ao.map vW)), .pv (.bool x.av)]
abbrev YI.v (x:YI):V:= .agg [.pv (.int .i64 x.al), .pv (.bool x.aO), .pv (.int .i64 x.aQ), .pv (.lst (x.a8.a2.map Y4.e)), .pv (.lst (x.aJ.map Z8.e)), .pv (.int .i64 x.aH), .pv (.lst (x.aI.aI.map Z6.e)), .pv (.lst (x.aN.aU.map Z9.e)), .pv (.lst (x.aK.map Z7.e)), .pv (.lst (x.a4.map Y3.e))]
def bO (a b:Int):Bool:=decide (a<b)
def Xk (a b:Int):decide (a<=b)= !(bO b a):=by unfold bO;by_cases h:a<=b<;>simp[h]<;>omega
def gB {a b:Int}(h:a<b):bO a b=true:=decide_eq_true h
def ii {a b:Int}(h:b<=a):bO a b=false:=decide_eq_false (by omega)
def qY :∀(a b:List UInt8),(Op.bytesLess a b||a==b)= !(Op.bytesLess b a)
 |[],[]=>rfl
 |[],_::_=>rfl
 |_::_,[]=>rfl
 |a::xz,b::bs=>by
  have ih:=qY xz bs
  simp only[Op.bytesLess]
  by_cases h1:a<b
  ·have h2:¬b<a:=fun h=>absurd (UInt8.lt_trans h1 h) (UInt8.lt_irrefl _)
   have h3:¬b=a:=fun h=>by subst h;exact absurd h1 (UInt8.lt_irrefl _)
   simp[h1,h2,h3]
  ·by_cases h2:b<a
   ·have h3:¬a=b:=fun h=>by subst h;exact absurd h2 (UInt8.lt_irrefl _)
    simp[h1,h2,h3]
   ·obtain rfl:a=b:=UInt8.le_antisymm (UInt8.not_lt.1 h2) (UInt8.not_lt.1 h1)
    simpa[UInt8.lt_irrefl]using ih
def iq (op:BinOp)(k:IntKind)(a b:Int):Option V:=
 match op with
 | .add=>some (aa k (k.wrap (a+b)))
 | .sub=>some (aa k (k.wrap (a-b)))
 | .mul=>some (aa k (k.wrap (a*b)))
 | .quo=>if b=0 then none else some (aa k (k.wrap (a.tdiv b)))
 | .rem=>if b=0 then none else some (aa k (a.tmod b))
 | .and=>some (aa k (k.wrap ((BitVec.ofInt k.bits a&&&BitVec.ofInt k.bits b).toNat)))
 | .or=>some (aa k (k.wrap ((BitVec.ofInt k.bits a|||BitVec.ofInt k.bits b).toNat)))
 | .eql=>some (az (a==b))
 | .neq=>some (az (!(a==b)))
 | .lss=>some (az (bO a b))
 | .leq=>some (az (!(bO b a)))
 | .gtr=>some (az (bO b a))
 | .geq=>some (az (!(bO a b)))
 |_=>none
def cu (op:BinOp)(k:IntKind)(a b:Int):cG op k a b=iq op k a b:=by cases op<;>simp only[cG,iq,Xk]<;>rfl
def ir (op:BinOp)(a b:List UInt8):Option V:=
 match op with
 | .add=>if a.length+b.length<=9223372036854775807 then some (eE (a++b))else none
 | .eql=>some (az (a==b))
 | .neq=>some (az (!(a==b)))
 | .lss=>some (az (Op.bytesLess a b))
 | .leq=>some (az (!(Op.bytesLess b a)))
 | .gtr=>some (az (Op.bytesLess b a))
 | .geq=>some (az (!(Op.bytesLess a b)))
 |_=>none
def cy (op:BinOp)(a b:List UInt8):jN op a b=ir op a b:=by cases op<;>simp only[jN,ir,qY]<;>simp
def aL {n k:Nat}(hn:n<=maxLen)(hk:k<n):IntKind.i64.wrap ((k:Int)+1)=(k:Int)+1:=by
 unfold maxLen at hn;rw[IntKind.wrap_i64];omega
def bd {n k:Nat}(h:k<n):bO (k:Int) (n:Int)=true:=gB (by omega)
def eS (n:Nat):bO (n:Int) (n:Int)=false:=ii (Int.le_refl _)
def xr {n k:Nat}(hn:n<=maxLen)(hk:k<n):(bO 0 (k:Int)=true->IntKind.i64.wrap ((k:Int)-1)=((k-1:Nat):Int))/\ k-1<n:=by
 refine⟨fun h=> ?_,by omega⟩
 have:=of_decide_eq_true h
 unfold maxLen at hn;rw[IntKind.wrap_i64];omega
end Gi
