/- Of this proof. -/
import Derived.Test.YtpnolnkjijmfjaaGreatGtb
import Derived.Test.YtpnolnkjijmfjaaGreatGsr
import Derived.Lib.Bytealg
set_option linter.all false
namespace Gi
open Go Go.RowKit
def og (n:Int):Prop:= -9223372036854775808<=n/\ n<=9223372036854775807
def eF {n:Int}(h:mY (.int .i64) (.int .i64 n)):og n:=by simp only[mY,Lit.wf,IntKind.min,IntKind.max,IntKind.signed,IntKind.bits]at h;simp at h;unfold og;omega
def AX (n:Int):List PV:=[.int .i64 n]
def zS (s:List UInt8):List PV:=[.str s]
def yY {α:Type}{e:α->List PV}{ok:α->Prop}{ts:List PTy}{B:Nat}(f:∀r,dX ts r->gV r<=B->∃x,r=e x/\ ok x):∀{rows:List (List PV)},(∀r∈rows,dX ts r)->sz (.lst rows)<=B->∃xs:List α,rows=xs.map e/\ (xs.length<=B/\ ∀x∈xs,ok x)
 |[],_,_=>⟨[],rfl,by simp,by simp⟩
 |r::rows,h,hz=>by rw[mP]at hz;simp only[dR,Zo]at hz;obtain⟨x,rfl,hx⟩:=f r (h r (by simp)) (by omega);obtain⟨xs,rfl,hl,ha⟩:=yY f (rows:=rows) (fun r m=>h r (by simp[m])) (by rw[mP];omega);refine⟨x::xs,rfl,by simp at hz⊢;omega,fun y hy=> ?_⟩;rcases ZG.1 hy with rfl|hy;exact hx;exact ha y hy
def abh {B:Nat}:∀r,dX vO r->gV r<=B->∃x,r=AX x/\ og x:=fun r h _=>by obtain⟨⟨c0,_⟩,e,g0,_⟩:=fu h;obtain rfl:r=[.int _ c0]:=e;exact⟨c0,rfl,eF g0⟩
def aeu {B:Nat}:∀r,dX mo r->gV r<=B->∃x,r=zS x/\ x.length<=B:=fun r h hz=>by obtain⟨⟨c0,_⟩,e,g0,_⟩:=fu h;obtain rfl:r=[.str c0]:=e;refine⟨c0,rfl,?_⟩;simp only[gV,sz]at hz;omega
def Nc {rows:List (List PV)}(h:∀r∈rows,dX nM r):∃s:List UInt8,rows=cC s:=by
 induction rows with
 |nil=>exact⟨[],rfl⟩
 |cons r rows ih=>obtain⟨s,rfl⟩:=ih fun r m=>h r (by simp[m]);obtain⟨⟨c0,_⟩,e,g0,_⟩:=fu (h r (by simp));obtain rfl:r=[.int _ c0]:=e;refine⟨UInt8.ofNat c0.toNat::s,?_⟩;simp only[mY,Lit.wf,IntKind.min,IntKind.max,IntKind.signed,IntKind.bits]at g0;simp at g0;simp only[cC,Zt,List.cons.injEq,and_true,PV.int.injEq,true_and];simp;omega
def H5 (s:List UInt8):(cC s).length=s.length:=by simp[cC]
structure Y7 where
 aW:Int
 n:Int
 ad:List UInt8
def Y7.e (x:Y7):List PV:=[.int .i64 x.aW, .int .i64 x.n, .str x.ad]
def Y7.Ok (B:Nat)(x:Y7):Prop:=og x.aW/\ og x.n/\ x.ad.length<=B
def Y7.of {B:Nat}:∀r:List PV,dX MM r->gV r<=B->∃x:Y7,r=x.e/\ x.Ok B:=fun r h hz=>by obtain⟨⟨c0,c1,c2,_⟩,e,g0,g1,g2,_⟩:=fu h;obtain rfl:r=[.int _ c0, .int _ c1, .str c2]:=e;have z2:=Zc (eL (i:=2) rfl) hz;rw[iq]at z2;exact⟨⟨c0,c1,c2⟩,rfl,⟨eF g0,eF g1,z2⟩⟩
structure Q9 where
 aG:List UInt8
 n:Int
def Q9.e (x:Q9):List PV:=[.str x.aG, .int .i64 x.n]
def Q9.Ok (B:Nat)(x:Q9):Prop:=x.aG.length<=B/\ og x.n
def Q9.of {B:Nat}:∀r:List PV,dX Ed r->gV r<=B->∃x:Q9,r=x.e/\ x.Ok B:=fun r h hz=>by obtain⟨⟨c0,c1,_⟩,e,g0,g1,_⟩:=fu h;obtain rfl:r=[.str c0, .int _ c1]:=e;have z0:=Zc (eL (i:=0) rfl) hz;rw[iq]at z0;exact⟨⟨c0,c1⟩,rfl,⟨z0,eF g1⟩⟩
structure X7 where
 fs:List Q9
def X7.e (x:X7):List PV:=[.lst (x.fs.map Q9.e)]
def X7.Ok (B:Nat)(x:X7):Prop:=(x.fs.length<=B/\ ∀y∈x.fs,y.Ok B)
def X7.of {B:Nat}:∀r:List PV,dX Ai r->gV r<=B->∃x:X7,r=x.e/\ x.Ok B:=fun r h hz=>by obtain⟨⟨c0,_⟩,e,g0,_⟩:=fu h;obtain rfl:r=[.lst c0]:=e;have z0:=Zc (eL (i:=0) rfl) hz;obtain⟨l0,rfl,y0⟩:=yY Q9.of (dM g0).2 z0;exact⟨⟨l0⟩,rfl,y0⟩
structure Q3 where
 aZ:Y7
 au:X7
def Q3.e (x:Q3):List PV:=[.int .i64 x.aZ.aW, .int .i64 x.aZ.n, .str x.aZ.ad, .lst (x.au.fs.map Q9.e)]
def Q3.Ok (B:Nat)(x:Q3):Prop:=x.aZ.Ok B/\ x.au.Ok B
def Q3.of {B:Nat}:∀r:List PV,dX Gd r->gV r<=B->∃x:Q3,r=x.e/\ x.Ok B:=fun r h hz=>by obtain⟨⟨c0,c1,c2,c3,_⟩,e,g0,g1,g2,g3,_⟩:=fu h;obtain rfl:r=[.int _ c0, .int _ c1, .str c2, .lst c3]:=e;have z2:=Zc (eL (i:=2) rfl) hz;rw[iq]at z2;have z3:=Zc (eL (i:=3) rfl) hz;obtain⟨l3,rfl,y3⟩:=yY Q9.of (dM g3).2 z3;exact⟨⟨⟨c0,c1,c2⟩,⟨l3⟩⟩,rfl,⟨⟨eF g0,eF g1,z2⟩,y3⟩⟩
structure Q6 where
 aG:List UInt8
 a1:List Q3
 aS:Int
def Q6.e (x:Q6):List PV:=[.str x.aG, .lst (x.a1.map Q3.e), .int .i64 x.aS]
def Q6.Ok (B:Nat)(x:Q6):Prop:=x.aG.length<=B/\ (x.a1.length<=B/\ ∀y∈x.a1,y.Ok B)/\ og x.aS
def Q6.of {B:Nat}:∀r:List PV,dX yA r->gV r<=B->∃x:Q6,r=x.e/\ x.Ok B:=fun r h hz=>by obtain⟨⟨c0,c1,c2,_⟩,e,g0,g1,g2,_⟩:=fu h;obtain rfl:r=[.str c0, .lst c1, .int _ c2]:=e;have z0:=Zc (eL (i:=0) rfl) hz;rw[iq]at z0;have z1:=Zc (eL (i:=1) rfl) hz;obtain⟨l1,rfl,y1⟩:=yY Q3.of (dM g1).2 z1;exact⟨⟨c0,l1,c2⟩,rfl,⟨z0,y1,eF g2⟩⟩
structure Q4 where
 aY:Int
 an:Int
 aZ:Y7
 aU:List UInt8
 n:Int
def Q4.e (x:Q4):List PV:=[.int .i64 x.aY, .int .i64 x.an, .int .i64 x.aZ.aW, .int .i64 x.aZ.n, .str x.aZ.ad, .str x.aU, .int .i64 x.n]
def Q4.Ok (B:Nat)(x:Q4):Prop:=og x.aY/\ og x.an/\ x.aZ.Ok B/\ x.aU.length<=B/\ og x.n
def Q4.of {B:Nat}:∀r:List PV,dX AQ r->gV r<=B->∃x:Q4,r=x.e/\ x.Ok B:=fun r h hz=>by obtain⟨⟨c0,c1,c2,c3,c4,c5,c6,_⟩,e,g0,g1,g2,g3,g4,g5,g6,_⟩:=fu h;obtain rfl:r=[.int _ c0, .int _ c1, .int _ c2, .int _ c3, .str c4, .str c5, .int _ c6]:=e;have z4:=Zc (eL (i:=4) rfl) hz;rw[iq]at z4;have z5:=Zc (eL (i:=5) rfl) hz;rw[iq]at z5;exact⟨⟨c0,c1,⟨c2,c3,c4⟩,c5,c6⟩,rfl,⟨eF g0,eF g1,⟨eF g2,eF g3,z4⟩,z5,eF g6⟩⟩
structure Q8 where
 aY:Int
 an:Int
def Q8.e (x:Q8):List PV:=[.int .i64 x.aY, .int .i64 x.an]
def Q8.Ok (B:Nat)(x:Q8):Prop:=og x.aY/\ og x.an
def Q8.of {B:Nat}:∀r:List PV,dX AP r->gV r<=B->∃x:Q8,r=x.e/\ x.Ok B:=fun r h hz=>by obtain⟨⟨c0,c1,_⟩,e,g0,g1,_⟩:=fu h;obtain rfl:r=[.int _ c0, .int _ c1]:=e;exact⟨⟨c0,c1⟩,rfl,⟨eF g0,eF g1⟩⟩
structure Q2 where
 aF:Q6
 a7:List Q8
 aD:List Q4
def Q2.e (x:Q2):List PV:=[.str x.aF.aG, .lst (x.aF.a1.map Q3.e), .int .i64 x.aF.aS, .lst (x.a7.map Q8.e), .lst (x.aD.map Q4.e)]
def Q2.Ok (B:Nat)(x:Q2):Prop:=x.aF.Ok B/\ (x.a7.length<=B/\ ∀y∈x.a7,y.Ok B)/\ (x.aD.length<=B/\ ∀y∈x.aD,y.Ok B)
def Q2.of {B:Nat}:∀r:List PV,dX Aj r->gV r<=B->∃x:Q2,r=x.e/\ x.Ok B:=fun r h hz=>by obtain⟨⟨c0,c1,c2,c3,c4,_⟩,e,g0,g1,g2,g3,g4,_⟩:=fu h;obtain rfl:r=[.str c0, .lst c1, .int _ c2, .lst c3, .lst c4]:=e;have z0:=Zc (eL (i:=0) rfl) hz;rw[iq]at z0;have z1:=Zc (eL (i:=1) rfl) hz;obtain⟨l1,rfl,y1⟩:=yY Q3.of (dM g1).2 z1;have z3:=Zc (eL (i:=3) rfl) hz;obtain⟨l3,rfl,y3⟩:=yY Q8.of (dM g3).2 z3;have z4:=Zc (eL (i:=4) rfl) hz;obtain⟨l4,rfl,y4⟩:=yY Q4.of (dM g4).2 z4;exact⟨⟨⟨c0,l1,c2⟩,l3,l4⟩,rfl,⟨⟨z0,y1,eF g2⟩,y3,y4⟩⟩
structure Y0 where
 aY:Int
 ag:Int
 aA:List Q4
def Y0.e (x:Y0):List PV:=[.int .i64 x.aY, .int .i64 x.ag, .lst (x.aA.map Q4.e)]
def Y0.Ok (B:Nat)(x:Y0):Prop:=og x.aY/\ og x.ag/\ (x.aA.length<=B/\ ∀y∈x.aA,y.Ok B)
def Y0.of {B:Nat}:∀r:List PV,dX Ah r->gV r<=B->∃x:Y0,r=x.e/\ x.Ok B:=fun r h hz=>by obtain⟨⟨c0,c1,c2,_⟩,e,g0,g1,g2,_⟩:=fu h;obtain rfl:r=[.int _ c0, .int _ c1, .lst c2]:=e;have z2:=Zc (eL (i:=2) rfl) hz;obtain⟨l2,rfl,y2⟩:=yY Q4.of (dM g2).2 z2;exact⟨⟨c0,c1,l2⟩,rfl,⟨eF g0,eF g1,y2⟩⟩
structure Z0 where
 a6:Y0
 aT:Int
 ae:Int
def Z0.e (x:Z0):List PV:=[.int .i64 x.a6.aY, .int .i64 x.a6.ag, .lst (x.a6.aA.map Q4.e), .int .i64 x.aT, .int .i64 x.ae]
def Z0.Ok (B:Nat)(x:Z0):Prop:=x.a6.Ok B/\ og x.aT/\ og x.ae
def Z0.of {B:Nat}:∀r:List PV,dX KO r->gV r<=B->∃x:Z0,r=x.e/\ x.Ok B:=fun r h hz=>by obtain⟨⟨c0,c1,c2,c3,c4,_⟩,e,g0,g1,g2,g3,g4,_⟩:=fu h;obtain rfl:r=[.int _ c0, .int _ c1, .lst c2, .int _ c3, .int _ c4]:=e;have z2:=Zc (eL (i:=2) rfl) hz;obtain⟨l2,rfl,y2⟩:=yY Q4.of (dM g2).2 z2;exact⟨⟨⟨c0,c1,l2⟩,c3,c4⟩,rfl,⟨⟨eF g0,eF g1,y2⟩,eF g3,eF g4⟩⟩
structure X8 where
 aB:Q6
 ab:Int
 aH:Z0
def X8.e (x:X8):List PV:=[.str x.aB.aG, .lst (x.aB.a1.map Q3.e), .int .i64 x.aB.aS, .int .i64 x.ab, .int .i64 x.aH.a6.aY, .int .i64 x.aH.a6.ag, .lst (x.aH.a6.aA.map Q4.e), .int .i64 x.aH.aT, .int .i64 x.aH.ae]
def X8.Ok (B:Nat)(x:X8):Prop:=x.aB.Ok B/\ og x.ab/\ x.aH.Ok B
def X8.of {B:Nat}:∀r:List PV,dX qq r->gV r<=B->∃x:X8,r=x.e/\ x.Ok B:=fun r h hz=>by obtain⟨⟨c0,c1,c2,c3,c4,c5,c6,c7,c8,_⟩,e,g0,g1,g2,g3,g4,g5,g6,g7,g8,_⟩:=fu h;obtain rfl:r=[.str c0, .lst c1, .int _ c2, .int _ c3, .int _ c4, .int _ c5, .lst c6, .int _ c7, .int _ c8]:=e;have z0:=Zc (eL (i:=0) rfl) hz;rw[iq]at z0;have z1:=Zc (eL (i:=1) rfl) hz;obtain⟨l1,rfl,y1⟩:=yY Q3.of (dM g1).2 z1;have z6:=Zc (eL (i:=6) rfl) hz;obtain⟨l6,rfl,y6⟩:=yY Q4.of (dM g6).2 z6;exact⟨⟨⟨c0,l1,c2⟩,c3,⟨⟨c4,c5,l6⟩,c7,c8⟩⟩,rfl,⟨⟨z0,y1,eF g2⟩,eF g3,⟨⟨eF g4,eF g5,y6⟩,eF g7,eF g8⟩⟩⟩
structure Y5 where
 b3:Int
 ay:Int
 aC:Int
 body:List UInt8
 b2:Bool
def Y5.e (x:Y5):List PV:=[.int .i64 x.b3, .int .i64 x.ay, .int .i64 x.aC, .lst (cC x.body), .bool x.b2]
def Y5.Ok (B:Nat)(x:Y5):Prop:=og x.b3/\ og x.ay/\ og x.aC/\ x.body.length<=B
def Y5.of {B:Nat}:∀r:List PV,dX vP r->gV r<=B->∃x:Y5,r=x.e/\ x.Ok B:=fun r h hz=>by
 obtain⟨⟨c0,c1,c2,c3,c4,_⟩,e,g0,g1,g2,g3,g4,_⟩:=fu h;obtain rfl:r=[.int _ c0, .int _ c1, .int _ c2, .lst c3, .bool c4]:=e;have z3:=Zc (eL (i:=3) rfl) hz;obtain⟨b3,rfl⟩:=Nc (dM g3).2;rw[mP,H5]at z3;have y3:b3.length<=B:=by omega
 exact⟨⟨c0,c1,c2,b3,c4⟩,rfl,⟨eF g0,eF g1,eF g2,y3⟩⟩
structure X4 where
 aP:List UInt8
 al:List UInt8
 ao:Y5
def X4.e (x:X4):List PV:=[.str x.aP, .str x.al, .int .i64 x.ao.b3, .int .i64 x.ao.ay, .int .i64 x.ao.aC, .lst (cC x.ao.body), .bool x.ao.b2]
def X4.Ok (B:Nat)(x:X4):Prop:=x.aP.length<=B/\ x.al.length<=B/\ x.ao.Ok B
def X4.of {B:Nat}:∀r:List PV,dX Af r->gV r<=B->∃x:X4,r=x.e/\ x.Ok B:=fun r h hz=>by
 obtain⟨⟨c0,c1,c2,c3,c4,c5,c6,_⟩,e,g0,g1,g2,g3,g4,g5,g6,_⟩:=fu h;obtain rfl:r=[.str c0, .str c1, .int _ c2, .int _ c3, .int _ c4, .lst c5, .bool c6]:=e;have z0:=Zc (eL (i:=0) rfl) hz;rw[iq]at z0;have z1:=Zc (eL (i:=1) rfl) hz;rw[iq]at z1;have z5:=Zc (eL (i:=5) rfl) hz;obtain⟨b5,rfl⟩:=Nc (dM g5).2;rw[mP,H5]at z5;have y5:b5.length<=B:=by omega
 exact⟨⟨c0,c1,⟨c2,c3,c4,b5,c6⟩⟩,rfl,⟨z0,z1,⟨eF g2,eF g3,eF g4,y5⟩⟩⟩
structure X1 where
 aC:Int
 a8:List X4
def X1.e (x:X1):List PV:=[.int .i64 x.aC, .lst (x.a8.map X4.e)]
def X1.Ok (B:Nat)(x:X1):Prop:=og x.aC/\ (x.a8.length<=B/\ ∀y∈x.a8,y.Ok B)
def X1.of {B:Nat}:∀r:List PV,dX Ec r->gV r<=B->∃x:X1,r=x.e/\ x.Ok B:=fun r h hz=>by obtain⟨⟨c0,c1,_⟩,e,g0,g1,_⟩:=fu h;obtain rfl:r=[.int _ c0, .lst c1]:=e;have z1:=Zc (eL (i:=1) rfl) hz;obtain⟨l1,rfl,y1⟩:=yY X4.of (dM g1).2 z1;exact⟨⟨c0,l1⟩,rfl,⟨eF g0,y1⟩⟩
structure Y6 where
 a3:List X1
def Y6.e (x:Y6):List PV:=[.lst (x.a3.map X1.e)]
def Y6.Ok (B:Nat)(x:Y6):Prop:=(x.a3.length<=B/\ ∀y∈x.a3,y.Ok B)
def Y6.of {B:Nat}:∀r:List PV,dX vL r->gV r<=B->∃x:Y6,r=x.e/\ x.Ok B:=fun r h hz=>by obtain⟨⟨c0,_⟩,e,g0,_⟩:=fu h;obtain rfl:r=[.lst c0]:=e;have z0:=Zc (eL (i:=0) rfl) hz;obtain⟨l0,rfl,y0⟩:=yY X1.of (dM g0).2 z0;exact⟨⟨l0⟩,rfl,y0⟩
structure Y1 where
 aP:List UInt8
 aV:Int
 ah:Int
 aj:Int
def Y1.e (x:Y1):List PV:=[.str x.aP, .int .i64 x.aV, .int .i64 x.ah, .int .i64 x.aj]
def Y1.Ok (B:Nat)(x:Y1):Prop:=x.aP.length<=B/\ og x.aV/\ og x.ah/\ og x.aj
def Y1.of {B:Nat}:∀r:List PV,dX ot r->gV r<=B->∃x:Y1,r=x.e/\ x.Ok B:=fun r h hz=>by obtain⟨⟨c0,c1,c2,c3,_⟩,e,g0,g1,g2,g3,_⟩:=fu h;obtain rfl:r=[.str c0, .int _ c1, .int _ c2, .int _ c3]:=e;have z0:=Zc (eL (i:=0) rfl) hz;rw[iq]at z0;exact⟨⟨c0,c1,c2,c3⟩,rfl,⟨z0,eF g1,eF g2,eF g3⟩⟩
structure Y4 where
 al:List UInt8
 aC:Int
def Y4.e (x:Y4):List PV:=[.str x.al, .int .i64 x.aC]
def Y4.Ok (B:Nat)(x:Y4):Prop:=x.al.length<=B/\ og x.aC
def Y4.of {B:Nat}:∀r:List PV,dX Ag r->gV r<=B->∃x:Y4,r=x.e/\ x.Ok B:=fun r h hz=>by obtain⟨⟨c0,c1,_⟩,e,g0,g1,_⟩:=fu h;obtain rfl:r=[.str c0, .int _ c1]:=e;have z0:=Zc (eL (i:=0) rfl) hz;rw[iq]at z0;exact⟨⟨c0,c1⟩,rfl,⟨z0,eF g1⟩⟩
structure Y8 where
 aW:Int
 r:Int
 n:Int
 ad:List UInt8
def Y8.e (x:Y8):List PV:=[.int .i64 x.aW, .int .i64 x.r, .int .i64 x.n, .str x.ad]
def Y8.Ok (B:Nat)(x:Y8):Prop:=og x.aW/\ og x.r/\ og x.n/\ x.ad.length<=B
def Y8.of {B:Nat}:∀r:List PV,dX Ee r->gV r<=B->∃x:Y8,r=x.e/\ x.Ok B:=fun r h hz=>by obtain⟨⟨c0,c1,c2,c3,_⟩,e,g0,g1,g2,g3,_⟩:=fu h;obtain rfl:r=[.int _ c0, .int _ c1, .int _ c2, .str c3]:=e;have z3:=Zc (eL (i:=3) rfl) hz;rw[iq]at z3;exact⟨⟨c0,c1,c2,c3⟩,rfl,⟨eF g0,eF g1,eF g2,z3⟩⟩
structure Z4 where
 am:List Y8
 pc:Int
 az:List Int
 b1:Int
 b4:Bool
 ae:Bool
def Z4.e (x:Z4):List PV:=[.lst (x.am.map Y8.e), .int .i64 x.pc, .lst (x.az.map AX), .int .i64 x.b1, .bool x.b4, .bool x.ae]
def Z4.Ok (B:Nat)(x:Z4):Prop:=(x.am.length<=B/\ ∀y∈x.am,y.Ok B)/\ og x.pc/\ (x.az.length<=B/\ ∀y∈x.az,og y)/\ og x.b1
def Z4.of {B:Nat}:∀r:List PV,dX xM r->gV r<=B->∃x:Z4,r=x.e/\ x.Ok B:=fun r h hz=>by obtain⟨⟨c0,c1,c2,c3,c4,c5,_⟩,e,g0,g1,g2,g3,g4,g5,_⟩:=fu h;obtain rfl:r=[.lst c0, .int _ c1, .lst c2, .int _ c3, .bool c4, .bool c5]:=e;have z0:=Zc (eL (i:=0) rfl) hz;obtain⟨l0,rfl,y0⟩:=yY Y8.of (dM g0).2 z0;have z2:=Zc (eL (i:=2) rfl) hz;obtain⟨l2,rfl,y2⟩:=yY abh (dM g2).2 z2;exact⟨⟨l0,c1,l2,c3,c4,c5⟩,rfl,⟨y0,eF g1,y2,eF g3⟩⟩
structure X6 where
 id:Int
 aP:List UInt8
 av:List UInt8
 aC:Int
 ai:List Y4
 aR:Z4
def X6.e (x:X6):List PV:=[.int .i64 x.id, .str x.aP, .str x.av, .int .i64 x.aC, .lst (x.ai.map Y4.e), .lst (x.aR.am.map Y8.e), .int .i64 x.aR.pc, .lst (x.aR.az.map AX), .int .i64 x.aR.b1, .bool x.aR.b4, .bool x.aR.ae]
def X6.Ok (B:Nat)(x:X6):Prop:=og x.id/\ x.aP.length<=B/\ x.av.length<=B/\ og x.aC/\ (x.ai.length<=B/\ ∀y∈x.ai,y.Ok B)/\ x.aR.Ok B
def X6.of {B:Nat}:∀r:List PV,dX KL r->gV r<=B->∃x:X6,r=x.e/\ x.Ok B:=fun r h hz=>by obtain⟨⟨c0,c1,c2,c3,c4,c5,c6,c7,c8,c9,b0,_⟩,e,g0,g1,g2,g3,g4,g5,g6,g7,g8,g9,b8,_⟩:=fu h;obtain rfl:r=[.int _ c0, .str c1, .str c2, .int _ c3, .lst c4, .lst c5, .int _ c6, .lst c7, .int _ c8, .bool c9, .bool b0]:=e;have z1:=Zc (eL (i:=1) rfl) hz;rw[iq]at z1;have z2:=Zc (eL (i:=2) rfl) hz;rw[iq]at z2;have z4:=Zc (eL (i:=4) rfl) hz;obtain⟨l4,rfl,y4⟩:=yY Y4.of (dM g4).2 z4;have z5:=Zc (eL (i:=5) rfl) hz;obtain⟨l5,rfl,y5⟩:=yY Y8.of (dM g5).2 z5;have z7:=Zc (eL (i:=7) rfl) hz;obtain⟨l7,rfl,y7⟩:=yY abh (dM g7).2 z7;exact⟨⟨c0,c1,c2,c3,l4,⟨l5,c6,l7,c8,c9,b0⟩⟩,rfl,⟨eF g0,z1,z2,eF g3,y4,⟨y5,eF g6,y7,eF g8⟩⟩⟩
structure X0 where
 aF:List UInt8
 aU:List UInt8
def X0.e (x:X0):List PV:=[.str x.aF, .str x.aU]
def X0.Ok (B:Nat)(x:X0):Prop:=x.aF.length<=B/\ x.aU.length<=B
def X0.of {B:Nat}:∀r:List PV,dX vN r->gV r<=B->∃x:X0,r=x.e/\ x.Ok B:=fun r h hz=>by obtain⟨⟨c0,c1,_⟩,e,g0,g1,_⟩:=fu h;obtain rfl:r=[.str c0, .str c1]:=e;have z0:=Zc (eL (i:=0) rfl) hz;rw[iq]at z0;have z1:=Zc (eL (i:=1) rfl) hz;rw[iq]at z1;exact⟨⟨c0,c1⟩,rfl,⟨z0,z1⟩⟩
structure Y2 where
 aG:List UInt8
 aC:Int
 a9:List Q6
 aE:List X0
def Y2.e (x:Y2):List PV:=[.str x.aG, .int .i64 x.aC, .lst (x.a9.map Q6.e), .lst (x.aE.map X0.e)]
def Y2.Ok (B:Nat)(x:Y2):Prop:=x.aG.length<=B/\ og x.aC/\ (x.a9.length<=B/\ ∀y∈x.a9,y.Ok B)/\ (x.aE.length<=B/\ ∀y∈x.aE,y.Ok B)
def Y2.of {B:Nat}:∀r:List PV,dX vM r->gV r<=B->∃x:Y2,r=x.e/\ x.Ok B:=fun r h hz=>by obtain⟨⟨c0,c1,c2,c3,_⟩,e,g0,g1,g2,g3,_⟩:=fu h;obtain rfl:r=[.str c0, .int _ c1, .lst c2, .lst c3]:=e;have z0:=Zc (eL (i:=0) rfl) hz;rw[iq]at z0;have z2:=Zc (eL (i:=2) rfl) hz;obtain⟨l2,rfl,y2⟩:=yY Q6.of (dM g2).2 z2;have z3:=Zc (eL (i:=3) rfl) hz;obtain⟨l3,rfl,y3⟩:=yY X0.of (dM g3).2 z3;exact⟨⟨c0,c1,l2,l3⟩,rfl,⟨z0,eF g1,y2,y3⟩⟩
structure Z8 where
 aB:Y2
 aw:List UInt8
 aq:Int
def Z8.e (x:Z8):List PV:=[.str x.aB.aG, .int .i64 x.aB.aC, .lst (x.aB.a9.map Q6.e), .lst (x.aB.aE.map X0.e), .lst (cC x.aw), .int .i64 x.aq]
def Z8.Ok (B:Nat)(x:Z8):Prop:=x.aB.Ok B/\ x.aw.length<=B/\ og x.aq
def Z8.of {B:Nat}:∀r:List PV,dX KJ r->gV r<=B->∃x:Z8,r=x.e/\ x.Ok B:=fun r h hz=>by
 obtain⟨⟨c0,c1,c2,c3,c4,c5,_⟩,e,g0,g1,g2,g3,g4,g5,_⟩:=fu h;obtain rfl:r=[.str c0, .int _ c1, .lst c2, .lst c3, .lst c4, .int _ c5]:=e;have z0:=Zc (eL (i:=0) rfl) hz;rw[iq]at z0;have z2:=Zc (eL (i:=2) rfl) hz;obtain⟨l2,rfl,y2⟩:=yY Q6.of (dM g2).2 z2;have z3:=Zc (eL (i:=3) rfl) hz;obtain⟨l3,rfl,y3⟩:=yY X0.of (dM g3).2 z3;have z4:=Zc (eL (i:=4) rfl) hz;obtain⟨b4,rfl⟩:=Nc (dM g4).2;rw[mP,H5]at z4;have y4:b4.length<=B:=by omega
 exact⟨⟨⟨c0,c1,l2,l3⟩,b4,c5⟩,rfl,⟨⟨z0,eF g1,y2,y3⟩,y4,eF g5⟩⟩
structure Q1 where
 aP:List UInt8
 av:List UInt8
 ar:Y1
 a3:Y6
 aM:Z8
 a4:X8
 aa:Int
 af:Bool
def Q1.e (x:Q1):List PV:=[.str x.aP, .str x.av, .str x.ar.aP, .int .i64 x.ar.aV, .int .i64 x.ar.ah, .int .i64 x.ar.aj, .lst (x.a3.a3.map X1.e), .str x.aM.aB.aG, .int .i64 x.aM.aB.aC, .lst (x.aM.aB.a9.map Q6.e), .lst (x.aM.aB.aE.map X0.e), .lst (cC x.aM.aw), .int .i64 x.aM.aq, .str x.a4.aB.aG, .lst (x.a4.aB.a1.map Q3.e), .int .i64 x.a4.aB.aS, .int .i64 x.a4.ab, .int .i64 x.a4.aH.a6.aY, .int .i64 x.a4.aH.a6.ag, .lst (x.a4.aH.a6.aA.map Q4.e), .int .i64 x.a4.aH.aT, .int .i64 x.a4.aH.ae, .int .i64 x.aa, .bool x.af]
def Q1.Ok (B:Nat)(x:Q1):Prop:=x.aP.length<=B/\ x.av.length<=B/\ x.ar.Ok B/\ x.a3.Ok B/\ x.aM.Ok B/\ x.a4.Ok B/\ og x.aa
def Q1.of {B:Nat}:∀r:List PV,dX Ae r->gV r<=B->∃x:Q1,r=x.e/\ x.Ok B:=fun r h hz=>by
 obtain⟨⟨c0,c1,c2,c3,c4,c5,c6,c7,c8,c9,b0,bn,b9,ba,bo,bb,bc,bd,bf,bp,bg,bh,bj,bk,_⟩,e,g0,g1,g2,g3,g4,g5,g6,g7,g8,g9,b8,bq,br,bS,bt,bu,bw,bx,bz,bA,bC,bE,bF,bT,_⟩:=fu h;obtain rfl:r=[.str c0, .str c1, .str c2, .int _ c3, .int _ c4, .int _ c5, .lst c6, .str c7, .int _ c8, .lst c9, .lst b0, .lst bn, .int _ b9, .str ba, .lst bo, .int _ bb, .int _ bc, .int _ bd, .int _ bf, .lst bp, .int _ bg, .int _ bh, .int _ bj, .bool bk]:=e;have z0:=Zc (eL (i:=0) rfl) hz;rw[iq]at z0;have z1:=Zc (eL (i:=1) rfl) hz;rw[iq]at z1;have z2:=Zc (eL (i:=2) rfl) hz;rw[iq]at z2;have z6:=Zc (eL (i:=6) rfl) hz;obtain⟨l6,rfl,y6⟩:=yY X1.of (dM g6).2 z6;have z7:=Zc (eL (i:=7) rfl) hz;rw[iq]at z7;have z9:=Zc (eL (i:=9) rfl) hz;obtain⟨l9,rfl,y9⟩:=yY Q6.of (dM g9).2 z9;have bG:=Zc (eL (i:=10) rfl) hz;obtain⟨bH,rfl,bI⟩:=yY X0.of (dM b8).2 bG;have bJ:=Zc (eL (i:=11) rfl) hz;obtain⟨bl,rfl⟩:=Nc (dM bq).2;rw[mP,H5]at bJ;have bK:bl.length<=B:=by omega
 have bm:=Zc (eL (i:=13) rfl) hz;rw[iq]at bm;have bM:=Zc (eL (i:=14) rfl) hz;obtain⟨bN,rfl,bO⟩:=yY Q3.of (dM bt).2 bM;have bP:=Zc (eL (i:=19) rfl) hz;obtain⟨bQ,rfl,bR⟩:=yY Q4.of (dM bA).2 bP;exact⟨⟨c0,c1,⟨c2,c3,c4,c5⟩,⟨l6⟩,⟨⟨c7,c8,l9,bH⟩,bl,b9⟩,⟨⟨ba,bN,bb⟩,bc,⟨⟨bd,bf,bQ⟩,bg,bh⟩⟩,bj,bk⟩,rfl,⟨z0,z1,⟨z2,eF g3,eF g4,eF g5⟩,y6,⟨⟨z7,eF g8,y9,bI⟩,bK,eF br⟩,⟨⟨bm,bO,eF bu⟩,eF bw,⟨⟨eF bx,eF bz,bR⟩,eF bC,eF bE⟩⟩,eF bF⟩⟩
structure Z5 where
 a0:List Q1
def Z5.e (x:Z5):List PV:=[.lst (x.a0.map Q1.e)]
def Z5.Ok (B:Nat)(x:Z5):Prop:=(x.a0.length<=B/\ ∀y∈x.a0,y.Ok B)
def Z5.of {B:Nat}:∀r:List PV,dX kS r->gV r<=B->∃x:Z5,r=x.e/\ x.Ok B:=fun r h hz=>by obtain⟨⟨c0,_⟩,e,g0,_⟩:=fu h;obtain rfl:r=[.lst c0]:=e;have z0:=Zc (eL (i:=0) rfl) hz;obtain⟨l0,rfl,y0⟩:=yY Q1.of (dM g0).2 z0;exact⟨⟨l0⟩,rfl,y0⟩
structure X5 where
 aG:List UInt8
 b5:Int
 ax:Bool
 b7:Bool
def X5.e (x:X5):List PV:=[.str x.aG, .int .i64 x.b5, .bool x.ax, .bool x.b7]
def X5.Ok (B:Nat)(x:X5):Prop:=x.aG.length<=B/\ og x.b5
def X5.of {B:Nat}:∀r:List PV,dX KK r->gV r<=B->∃x:X5,r=x.e/\ x.Ok B:=fun r h hz=>by obtain⟨⟨c0,c1,c2,c3,_⟩,e,g0,g1,g2,g3,_⟩:=fu h;obtain rfl:r=[.str c0, .int _ c1, .bool c2, .bool c3]:=e;have z0:=Zc (eL (i:=0) rfl) hz;rw[iq]at z0;exact⟨⟨c0,c1,c2,c3⟩,rfl,⟨z0,eF g1⟩⟩
structure Y9 where
 aJ:List X5
def Y9.e (x:Y9):List PV:=[.lst (x.aJ.map X5.e)]
def Y9.Ok (B:Nat)(x:Y9):Prop:=(x.aJ.length<=B/\ ∀y∈x.aJ,y.Ok B)
def Y9.of {B:Nat}:∀r:List PV,dX jd r->gV r<=B->∃x:Y9,r=x.e/\ x.Ok B:=fun r h hz=>by obtain⟨⟨c0,_⟩,e,g0,_⟩:=fu h;obtain rfl:r=[.lst c0]:=e;have z0:=Zc (eL (i:=0) rfl) hz;obtain⟨l0,rfl,y0⟩:=yY X5.of (dM g0).2 z0;exact⟨⟨l0⟩,rfl,y0⟩
structure X9 where
 to:Int
 b6:Int
 n:Int
def X9.e (x:X9):List PV:=[.int .i64 x.to, .int .i64 x.b6, .int .i64 x.n]
def X9.Ok (B:Nat)(x:X9):Prop:=og x.to/\ og x.b6/\ og x.n
def X9.of {B:Nat}:∀r:List PV,dX OR r->gV r<=B->∃x:X9,r=x.e/\ x.Ok B:=fun r h hz=>by obtain⟨⟨c0,c1,c2,_⟩,e,g0,g1,g2,_⟩:=fu h;obtain rfl:r=[.int _ c0, .int _ c1, .int _ c2]:=e;exact⟨⟨c0,c1,c2⟩,rfl,⟨eF g0,eF g1,eF g2⟩⟩
structure Z3 where
 aX:List X9
def Z3.e (x:Z3):List PV:=[.lst (x.aX.map X9.e)]
def Z3.Ok (B:Nat)(x:Z3):Prop:=(x.aX.length<=B/\ ∀y∈x.aX,y.Ok B)
def Z3.of {B:Nat}:∀r:List PV,dX kR r->gV r<=B->∃x:Z3,r=x.e/\ x.Ok B:=fun r h hz=>by obtain⟨⟨c0,_⟩,e,g0,_⟩:=fu h;obtain rfl:r=[.lst c0]:=e;have z0:=Zc (eL (i:=0) rfl) hz;obtain⟨l0,rfl,y0⟩:=yY X9.of (dM g0).2 z0;exact⟨⟨l0⟩,rfl,y0⟩
structure X3 where
 aG:List UInt8
 aC:Int
 ap:List (List UInt8)
 ax:Bool
def X3.e (x:X3):List PV:=[.str x.aG, .int .i64 x.aC, .lst (x.ap.map zS), .bool x.ax]
def X3.Ok (B:Nat)(x:X3):Prop:=x.aG.length<=B/\ og x.aC/\ (x.ap.length<=B/\ ∀y∈x.ap,y.length<=B)
def X3.of {B:Nat}:∀r:List PV,dX KN r->gV r<=B->∃x:X3,r=x.e/\ x.Ok B:=fun r h hz=>by obtain⟨⟨c0,c1,c2,c3,_⟩,e,g0,g1,g2,g3,_⟩:=fu h;obtain rfl:r=[.str c0, .int _ c1, .lst c2, .bool c3]:=e;have z0:=Zc (eL (i:=0) rfl) hz;rw[iq]at z0;have z2:=Zc (eL (i:=2) rfl) hz;obtain⟨l2,rfl,y2⟩:=yY aeu (dM g2).2 z2;exact⟨⟨c0,c1,l2,c3⟩,rfl,⟨z0,eF g1,y2⟩⟩
structure Q5 where
 ak:Int
 aN:Bool
 aQ:Int
 a2:Z5
 aL:List X6
 aI:Int
 aJ:Y9
 aO:Z3
 aK:List X3
 a5:List Q2
def Q5.e (x:Q5):List PV:=[.int .i64 x.ak, .bool x.aN, .int .i64 x.aQ, .lst (x.a2.a0.map Q1.e), .lst (x.aL.map X6.e), .int .i64 x.aI, .lst (x.aJ.aJ.map X5.e), .lst (x.aO.aX.map X9.e), .lst (x.aK.map X3.e), .lst (x.a5.map Q2.e)]
def Q5.Ok (B:Nat)(x:Q5):Prop:=og x.ak/\ og x.aQ/\ x.a2.Ok B/\ (x.aL.length<=B/\ ∀y∈x.aL,y.Ok B)/\ og x.aI/\ x.aJ.Ok B/\ x.aO.Ok B/\ (x.aK.length<=B/\ ∀y∈x.aK,y.Ok B)/\ (x.a5.length<=B/\ ∀y∈x.a5,y.Ok B)
def Q5.of {B:Nat}:∀r:List PV,dX jh r->gV r<=B->∃x:Q5,r=x.e/\ x.Ok B:=fun r h hz=>by obtain⟨⟨c0,c1,c2,c3,c4,c5,c6,c7,c8,c9,_⟩,e,g0,g1,g2,g3,g4,g5,g6,g7,g8,g9,_⟩:=fu h;obtain rfl:r=[.int _ c0, .bool c1, .int _ c2, .lst c3, .lst c4, .int _ c5, .lst c6, .lst c7, .lst c8, .lst c9]:=e;have z3:=Zc (eL (i:=3) rfl) hz;obtain⟨l3,rfl,y3⟩:=yY Q1.of (dM g3).2 z3;have z4:=Zc (eL (i:=4) rfl) hz;obtain⟨l4,rfl,y4⟩:=yY X6.of (dM g4).2 z4;have z6:=Zc (eL (i:=6) rfl) hz;obtain⟨l6,rfl,y6⟩:=yY X5.of (dM g6).2 z6;have z7:=Zc (eL (i:=7) rfl) hz;obtain⟨l7,rfl,y7⟩:=yY X9.of (dM g7).2 z7;have z8:=Zc (eL (i:=8) rfl) hz;obtain⟨l8,rfl,y8⟩:=yY X3.of (dM g8).2 z8;have z9:=Zc (eL (i:=9) rfl) hz;obtain⟨l9,rfl,y9⟩:=yY Q2.of (dM g9).2 z9;exact⟨⟨c0,c1,c2,⟨l3⟩,l4,c5,⟨l6⟩,⟨l7⟩,l8,l9⟩,rfl,⟨eF g0,eF g2,y3,y4,eF g5,y6,y7,y8,y9⟩⟩
set_option maxHeartbeats 4000000
set_option maxRecDepth 4000
def cK :Nat->List V->Option V:=fun k xz=>match k,xz with
 |363,[.one (.pv (.str a)), .one (.pv (.str b))]=>some (ce .i64 (Lib.compareBytes a b))
 |_,_=>none
def dz :vU (cf Ph cK):=Ub fun k xz r h=>by unfold cK at h;split at h;cases h;rfl;cases h
def uI {a b:List UInt8}:mJ .neq a b=some (cL (!(a==b))):=rfl
def uH {a b:List UInt8}:mJ .eql a b=some (cL (a==b)):=rfl
def fK :IntKind.i64.wrap 1=1:=by rw[IntKind.wrap_i64];rfl
def tt {j n:Nat}(hn:n<=maxLen)(hj:j+1<n):IntKind.i64.wrap ((j:Int)+1+1)=(j:Int)+1+1/\ IntKind.i64.wrap (j:Int)=(j:Int)/\ (0:Int)<(j:Int)+1/\ (0:Int)<=(j:Int)+1/\ ((j:Int)+1).toNat=j+1/\ (j:Int)+1<(n:Int):=by unfold maxLen at hn;refine⟨?_,?_,by omega,by omega,by omega,by omega⟩<;>rw[IntKind.wrap_i64]<;>omega
def gU {m z:Nat}(hm:m<=4194304)(hz:z<=4096):m*z<=140737488355328/\ m<=9223372036854775807/\ m<=9223372036854775806/\ m<9223372036854775807:=by
 refine⟨?_,by omega,by omega,by omega⟩;calc m*z<=4194304*4096:=Nat.mul_le_mul hm hz
  _<=140737488355328:=by decide
def fJ {α:Type}{e:α->List PV}{xs:List α}{k:Nat}(hk:k<xs.length):(xs.map e).take (k+1)=(xs.map e).take k++[e xs[k]]:=by rw[ZQ (by simpa using hk)];simp
def ij {α:Type}{e:α->List PV}(h:∀x,(e x).all PV.flat=true)(xs:List α):qY (xs.map e)=true:=by simp only[qY,List.all_map,Zu,Function.comp];exact fun x _=>by simpa[Zu]using h x
def fM {α:Type}{e:α->List PV}{z:Nat}(h:∀x,(e x).length=z)(xs:List α):((xs.map e).all fun r=>r.length==z)=true:=by simp only[List.all_map,Zu,Function.comp,beq_iff_eq];exact fun x _=>h x
def vo (s:List UInt8):qY (cC s)=true:=ij (e:=fun b:UInt8=>[PV.int .u8 b.toNat]) (fun _=>rfl) s
def m8 (s:List UInt8):((cC s).all fun r=>r.length==1)=true:=fM (e:=fun b:UInt8=>[PV.int .u8 b.toNat]) (z:=1) (fun _=>rfl) s
def nd (z:Nat):List (List PV)->L
 |[]=> .nil
 |r::rs=> .down z (r::rs)
def pm (z:Nat):List (List PV)->L
 |[]=> .nil
 |r::rs=> .own z (r::rs)
def nQ :List (List PV)->L
 |[]=> .nil
 |r::rs=> .pv (.lst (r::rs))
def fF (z:Nat)(rows:List (List PV)):(rows=[]/\ nd z rows= .nil) \/(rows≠[]/\ nd z rows= .down z rows):=by
 cases rows with
 |nil=>exact .inl ⟨rfl,rfl⟩
 |cons r rs=>exact .inr ⟨by simp,rfl⟩
def du {z:Nat}{rows:List (List PV)}:fv (nd z rows)=nQ rows:=by cases rows<;>rfl
def dx {z:Nat}{rows:List (List PV)}:fv (pm z rows)=nQ rows:=by cases rows<;>rfl
def cH {rows:List (List PV)}:fv (nQ rows)=nQ rows:=by cases rows<;>rfl
def cF {h:List Q0}{rows:List (List PV)}:L.view h (nQ rows)=some (.lst rows):=by cases rows<;>rfl
def ct {rows:List (List PV)}:plain (nQ rows)=true:=by cases rows<;>rfl
def df {h:List Q0}{rows:List (List PV)}:L.mut h (nQ rows)=false:=by cases rows<;>rfl
def co {h:List Q0}{rows:List (List PV)}:freezeL h (nQ rows)=h:=by cases rows<;>rfl
def cE {h:List Q0}{rows:List (List PV)}:dS h (nQ rows)=some (nQ rows):=by cases rows<;>rfl
def cO {f:List Nat}{rows:List (List PV)}:(nQ rows).bD f=some (nQ rows):=by cases rows<;>rfl
def cA {o:Nat}{rows:List (List PV)}:L.bB o (nQ rows)=true:=by cases rows<;>rfl
def dE {rows:List (List PV)}:L.flat (nQ rows)=false:=by cases rows<;>rfl
def qr {rows:List (List PV)}:L.bL (nQ rows)=nQ rows:=by cases rows<;>rfl
def dF {h:List Q0}{rows:List (List PV)}{ls:List L}:thawL h (nQ rows::ls)=((nQ rows::(thawL h ls).1),(thawL h ls).2):=by cases rows<;>rfl
def eV :cz []=[]:=rfl
def dW {p:PV}{ls:List L}:cz (.pv p::ls)=cz ls:=rfl
def dD {ls:List L}:cz (.nil::ls)=cz ls:=rfl
def dA {o:Nat}{ls:List L}:cz (.arr o::ls)=o::cz ls:=rfl
def dC {rows:List (List PV)}{ls:List L}:cz (nQ rows::ls)=cz ls:=by cases rows<;>rfl
def Kn.q (f:List Nat){t t':List V}{h h':List Q0}(ho:dH f h' f h:=by simp[cX,cV,cW,iv,dI,dj,dQ,cZ,fI,ed,dH,eB,L.bD,cO])(ht:dj f t t':=by simp[cX,cV,cW,iv,dI,dj,dQ,cZ,fI,ed,dH,eB,L.bD,cO])(nd:f.Nodup:=by decide):Kn ⟨t,h⟩ ⟨t',h'⟩:=Kn.of f nd ho ht
def iI :List Q0->Nat->List Nat
 |[],_=>[]
 |_::r,k=>k::iI r (k+1)
def Vs :∀{h:List Q0}{k x:Nat},x∈iI h k->k<=x
 |_::_,_,_,h=>by rcases ZG.1 h with rfl|h;exact Zi _;have:=Vs h;omega
def K2 :∀(h:List Q0)(k:Nat),(iI h k).Nodup
 |[],_=>QQ
 |_::r,k=>Yn.2 ⟨fun h=>by have:=Vs h;omega,K2 r (k+1)⟩
def fx {t t':List V}{h h':List Q0}(hh:dH (iI h 0) h' (iI h 0) h/\ dj (iI h 0) t t'):Kn ⟨t,h⟩ ⟨t',h'⟩:=Kn.of _ (K2 h 0) hh.1 hh.2
def gn {p:PV}:L.ow (.pv p)= .pv p:=rfl
def fj :L.ow .nil= .nil:=rfl
def fk {z:Nat}{rows:List (List PV)}:L.ow (.own z rows)= .own z rows:=rfl
def ez {z:Nat}{rows:List (List PV)}:L.ow (.down z rows)= .own z rows:=rfl
def gm {z:Nat}{rows:List (List PV)}:L.ow (nd z rows)=pm z rows:=by cases rows<;>rfl
def eA {z:Nat}{rows:List (List PV)}:L.ow (pm z rows)=pm z rows:=by cases rows<;>rfl
def fi {rows:List (List PV)}:L.ow (nQ rows)=nQ rows:=by cases rows<;>rfl
def jg (z:Nat)(rows:List (List PV)):(rows=[]/\ nd z rows= .nil/\ pm z rows= .nil) \/(rows≠[]/\ nd z rows= .down z rows/\ pm z rows= .own z rows):=by
 cases rows with
 |nil=>exact .inl ⟨rfl,rfl,rfl⟩
 |cons r rs=>exact .inr ⟨by simp,rfl,rfl⟩
abbrev Y7.v (x:Y7):V:= .agg [.pv (.int .i64 x.aW), .pv (.int .i64 x.n), .pv (.str x.ad)]
abbrev Q9.v (x:Q9):V:= .agg [.pv (.str x.aG), .pv (.int .i64 x.n)]
abbrev X7.v (x:X7):V:= .agg [.pv (.lst (x.fs.map Q9.e))]
abbrev Q3.v (x:Q3):V:= .agg [.pv (.int .i64 x.aZ.aW), .pv (.int .i64 x.aZ.n), .pv (.str x.aZ.ad), .pv (.lst (x.au.fs.map Q9.e))]
abbrev Q6.v (x:Q6):V:= .agg [.pv (.str x.aG), .pv (.lst (x.a1.map Q3.e)), .pv (.int .i64 x.aS)]
abbrev Q4.v (x:Q4):V:= .agg [.pv (.int .i64 x.aY), .pv (.int .i64 x.an), .pv (.int .i64 x.aZ.aW), .pv (.int .i64 x.aZ.n), .pv (.str x.aZ.ad), .pv (.str x.aU), .pv (.int .i64 x.n)]
abbrev Q8.v (x:Q8):V:= .agg [.pv (.int .i64 x.aY), .pv (.int .i64 x.an)]
abbrev Q2.v (x:Q2):V:= .agg [.pv (.str x.aF.aG), .pv (.lst (x.aF.a1.map Q3.e)), .pv (.int .i64 x.aF.aS), .pv (.lst (x.a7.map Q8.e)), .pv (.lst (x.aD.map Q4.e))]
abbrev Y0.v (x:Y0):V:= .agg [.pv (.int .i64 x.aY), .pv (.int .i64 x.ag), .pv (.lst (x.aA.map Q4.e))]
abbrev Z0.v (x:Z0):V:= .agg [.pv (.int .i64 x.a6.aY), .pv (.int .i64 x.a6.ag), .pv (.lst (x.a6.aA.map Q4.e)), .pv (.int .i64 x.aT), .pv (.int .i64 x.ae)]
abbrev X8.v (x:X8):V:= .agg [.pv (.str x.aB.aG), .pv (.lst (x.aB.a1.map Q3.e)), .pv (.int .i64 x.aB.aS), .pv (.int .i64 x.ab), .pv (.int .i64 x.aH.a6.aY), .pv (.int .i64 x.aH.a6.ag), .pv (.lst (x.aH.a6.aA.map Q4.e)), .pv (.int .i64 x.aH.aT), .pv (.int .i64 x.aH.ae)]
abbrev Y5.v (x:Y5):V:= .agg [.pv (.int .i64 x.b3), .pv (.int .i64 x.ay), .pv (.int .i64 x.aC), .pv (.lst (cC x.body)), .pv (.bool x.b2)]
abbrev X4.v (x:X4):V:= .agg [.pv (.str x.aP), .pv (.str x.al), .pv (.int .i64 x.ao.b3), .pv (.int .i64 x.ao.ay), .pv (.int .i64 x.ao.aC), .pv (.lst (cC x.ao.body)), .pv (.bool x.ao.b2)]
abbrev X1.v (x:X1):V:= .agg [.pv (.int .i64 x.aC), .pv (.lst (x.a8.map X4.e))]
abbrev Y6.v (x:Y6):V:= .agg [.pv (.lst (x.a3.map X1.e))]
abbrev Y1.v (x:Y1):V:= .agg [.pv (.str x.aP), .pv (.int .i64 x.aV), .pv (.int .i64 x.ah), .pv (.int .i64 x.aj)]
abbrev Y4.v (x:Y4):V:= .agg [.pv (.str x.al), .pv (.int .i64 x.aC)]
abbrev Y8.v (x:Y8):V:= .agg [.pv (.int .i64 x.aW), .pv (.int .i64 x.r), .pv (.int .i64 x.n), .pv (.str x.ad)]
abbrev Z4.v (x:Z4):V:= .agg [.pv (.lst (x.am.map Y8.e)), .pv (.int .i64 x.pc), .pv (.lst (x.az.map AX)), .pv (.int .i64 x.b1), .pv (.bool x.b4), .pv (.bool x.ae)]
abbrev X6.v (x:X6):V:= .agg [.pv (.int .i64 x.id), .pv (.str x.aP), .pv (.str x.av), .pv (.int .i64 x.aC), .pv (.lst (x.ai.map Y4.e)), .pv (.lst (x.aR.am.map Y8.e)), .pv (.int .i64 x.aR.pc), .pv (.lst (x.aR.az.map AX)), .pv (.int .i64 x.aR.b1), .pv (.bool x.aR.b4), .pv (.bool x.aR.ae)]
abbrev X0.v (x:X0):V:= .agg [.pv (.str x.aF), .pv (.str x.aU)]
abbrev Y2.v (x:Y2):V:= .agg [.pv (.str x.aG), .pv (.int .i64 x.aC), .pv (.lst (x.a9.map Q6.e)), .pv (.lst (x.aE.map X0.e))]
abbrev Z8.v (x:Z8):V:= .agg [.pv (.str x.aB.aG), .pv (.int .i64 x.aB.aC), .pv (.lst (x.aB.a9.map Q6.e)), .pv (.lst (x.aB.aE.map X0.e)), .pv (.lst (cC x.aw)), .pv (.int .i64 x.aq)]
abbrev Q1.v (x:Q1):V:= .agg [.pv (.str x.aP), .pv (.str x.av), .pv (.str x.ar.aP), .pv (.int .i64 x.ar.aV), .pv (.int .i64 x.ar.ah), .pv (.int .i64 x.ar.aj), .pv (.lst (x.a3.a3.map X1.e)), .pv (.str x.aM.aB.aG), .pv (.int .i64 x.aM.aB.aC), .pv (.lst (x.aM.aB.a9.map Q6.e)), .pv (.lst (x.aM.aB.aE.map X0.e)), .pv (.lst (cC x.aM.aw)), .pv (.int .i64 x.aM.aq), .pv (.str x.a4.aB.aG), .pv (.lst (x.a4.aB.a1.map Q3.e)), .pv (.int .i64 x.a4.aB.aS), .pv (.int .i64 x.a4.ab), .pv (.int .i64 x.a4.aH.a6.aY), .pv (.int .i64 x.a4.aH.a6.ag), .pv (.lst (x.a4.aH.a6.aA.map Q4.e)), .pv (.int .i64 x.a4.aH.aT), .pv (.int .i64 x.a4.aH.ae), .pv (.int .i64 x.aa), .pv (.bool x.af)]
abbrev Z5.v (x:Z5):V:= .agg [.pv (.lst (x.a0.map Q1.e))]
abbrev X5.v (x:X5):V:= .agg [.pv (.str x.aG), .pv (.int .i64 x.b5), .pv (.bool x.ax), .pv (.bool x.b7)]
abbrev Y9.v (x:Y9):V:= .agg [.pv (.lst (x.aJ.map X5.e))]
abbrev X9.v (x:X9):V:= .agg [.pv (.int .i64 x.to), .pv (.int .i64 x.b6), .pv (.int .i64 x.n)]
abbrev Z3.v (x:Z3):V:= .agg [.pv (.lst (x.aX.map X9.e))]
abbrev X3.v (x:X3):V:= .agg [.pv (.str x.aG), .pv (.int .i64 x.aC), .pv (.lst (x.ap.map zS)), .pv (.bool x.ax)]
abbrev Q5.v (x:Q5):V:= .agg [.pv (.int .i64 x.ak), .pv (.bool x.aN), .pv (.int .i64 x.aQ), .pv (.lst (x.a2.a0.map Q1.e)), .pv (.lst (x.aL.map X6.e)), .pv (.int .i64 x.aI), .pv (.lst (x.aJ.aJ.map X5.e)), .pv (.lst (x.aO.aX.map X9.e)), .pv (.lst (x.aK.map X3.e)), .pv (.lst (x.a5.map Q2.e))]
def dZ (a b:Int):Bool:=decide (a<b)
def leI (a b:Int):decide (a<=b)= !(dZ b a):=by unfold dZ;by_cases h:a<=b<;>simp[h]<;>omega
def jl {a b:Int}(h:a<b):dZ a b=true:=decide_eq_true h
def iG {a b:Int}(h:b<=a):dZ a b=false:=decide_eq_false (by omega)
def vA :∀(a b:List UInt8),(Op.bytesLess a b||a==b)= !(Op.bytesLess b a)
 |[],[]=>rfl
 |[],_::_=>rfl
 |_::_,[]=>rfl
 |a::xz,b::bs=>by
  have ih:=vA xz bs;simp only[Op.bytesLess];by_cases h1:a<b;have h2:¬b<a:=fun h=>absurd (UInt8.lt_trans h1 h) (UInt8.lt_irrefl _);have h3:¬b=a:=fun h=>by subst h;exact absurd h1 (UInt8.lt_irrefl _)
  simp[h1,h2,h3];by_cases h2:b<a;have h3:¬a=b:=fun h=>by subst h;exact absurd h2 (UInt8.lt_irrefl _)
  simp[h1,h2,h3];obtain rfl:a=b:=UInt8.le_antisymm (UInt8.not_lt.1 h2) (UInt8.not_lt.1 h1);simpa[UInt8.lt_irrefl]using ih
def i7 (op:BinOp)(k:IntKind)(a b:Int):Option V:=
 match op with
 | .add=>some (ce k (k.wrap (a+b)))
 | .sub=>some (ce k (k.wrap (a-b)))
 | .mul=>some (ce k (k.wrap (a*b)))
 | .quo=>if b=0 then none else some (ce k (k.wrap (a.tdiv b)))
 | .rem=>if b=0 then none else some (ce k (a.tmod b))
 | .and=>some (ce k (k.wrap ((BitVec.ofInt k.bits a&&&BitVec.ofInt k.bits b).toNat)))
 | .or=>some (ce k (k.wrap ((BitVec.ofInt k.bits a|||BitVec.ofInt k.bits b).toNat)))
 | .eql=>some (cL (a==b))
 | .neq=>some (cL (!(a==b)))
 | .lss=>some (cL (dZ a b))
 | .leq=>some (cL (!(dZ b a)))
 | .gtr=>some (cL (dZ b a))
 | .geq=>some (cL (!(dZ a b)))
 |_=>none
def eu (op:BinOp)(k:IntKind)(a b:Int):ft op k a b=i7 op k a b:=by cases op<;>simp only[ft,i7,leI]<;>rfl
def i9 (op:BinOp)(a b:List UInt8):Option V:=
 match op with
 | .add=>if a.length+b.length<=9223372036854775807 then some (fZ (a++b))else none
 | .eql=>some (cL (a==b))
 | .neq=>some (cL (!(a==b)))
 | .lss=>some (cL (Op.bytesLess a b))
 | .leq=>some (cL (!(Op.bytesLess b a)))
 | .gtr=>some (cL (Op.bytesLess b a))
 | .geq=>some (cL (!(Op.bytesLess a b)))
 |_=>none
def ew (op:BinOp)(a b:List UInt8):mJ op a b=i9 op a b:=by cases op<;>simp only[mJ,i9,vA]<;>simp
def cY {n k:Nat}(hn:n<=maxLen)(hk:k<n):IntKind.i64.wrap ((k:Int)+1)=(k:Int)+1:=by unfold maxLen at hn;rw[IntKind.wrap_i64];omega
def dw {n k:Nat}(h:k<n):dZ (k:Int) (n:Int)=true:=jl (by omega)
def gl (n:Nat):dZ (n:Int) (n:Int)=false:=iG (Int.le_refl _)
def Bc {n k:Nat}(hn:n<=maxLen)(hk:k<n):(dZ 0 (k:Int)=true->IntKind.i64.wrap ((k:Int)-1)=((k-1:Nat):Int))/\ k-1<n:=by refine⟨fun h=> ?_,by omega⟩;have:=of_decide_eq_true h;unfold maxLen at hn;rw[IntKind.wrap_i64];omega
end Gi
