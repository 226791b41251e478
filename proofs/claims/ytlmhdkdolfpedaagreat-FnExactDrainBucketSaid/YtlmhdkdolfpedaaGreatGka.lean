/- Of this proof. -/
import Derived.Test.YtlmhdkdolfpedaaGreatGtb
import Derived.Test.YtlmhdkdolfpedaaGreatGsr
import Derived.Lib.Bytealg
set_option linter.all false
namespace Gi
open Go Go.RowKit
def nV (n:Int):Prop:= -9223372036854775808<=n/\ n<=9223372036854775807
def eh {n:Int}(h:qa (.int .i64) (.int .i64 n)):nV n:=by simp only[qa,Lit.wf,IntKind.min,IntKind.max,IntKind.signed,IntKind.bits]at h;simp at h;unfold nV;omega
def AC (n:Int):List PV:=[.int .i64 n]
def zz (s:List UInt8):List PV:=[.str s]
def yF {α:Type}{e:α->List PV}{ok:α->Prop}{ts:List PTy}{B:Nat}(f:∀r,dW ts r->gT r<=B->∃x,r=e x/\ ok x):∀{rows:List (List PV)},(∀r∈rows,dW ts r)->sz (.lst rows)<=B->∃xs:List α,rows=xs.map e/\ (xs.length<=B/\ ∀x∈xs,ok x)
 |[],_,_=>⟨[],rfl,by simp,by simp⟩
 |r::rows,h,hz=>by rw[mG]at hz;simp only[dP,Zo]at hz;obtain⟨x,rfl,hx⟩:=f r (h r (by simp)) (by omega);obtain⟨xs,rfl,hl,ha⟩:=yF f (rows:=rows) (fun r m=>h r (by simp[m])) (by rw[mG];omega);refine⟨x::xs,rfl,by simp at hz⊢;omega,fun y hy=> ?_⟩;rcases ZF.1 hy with rfl|hy;exact hx;exact ha y hy
def aaN {B:Nat}:∀r,dW vA r->gT r<=B->∃x,r=AC x/\ nV x:=fun r h _=>by obtain⟨⟨c0,_⟩,e,g0,_⟩:=fg h;obtain rfl:r=[.int _ c0]:=e;exact⟨c0,rfl,eh g0⟩
def adR {B:Nat}:∀r,dW mc r->gT r<=B->∃x,r=zz x/\ x.length<=B:=fun r h hz=>by obtain⟨⟨c0,_⟩,e,g0,_⟩:=fg h;obtain rfl:r=[.str c0]:=e;refine⟨c0,rfl,?_⟩;simp only[gT,sz]at hz;omega
def MN {rows:List (List PV)}(h:∀r∈rows,dW nE r):∃s:List UInt8,rows=cC s:=by
 induction rows with
 |nil=>exact⟨[],rfl⟩
 |cons r rows ih=>obtain⟨s,rfl⟩:=ih fun r m=>h r (by simp[m]);obtain⟨⟨c0,_⟩,e,g0,_⟩:=fg (h r (by simp));obtain rfl:r=[.int _ c0]:=e;refine⟨UInt8.ofNat c0.toNat::s,?_⟩;simp only[qa,Lit.wf,IntKind.min,IntKind.max,IntKind.signed,IntKind.bits]at g0;simp at g0;simp only[cC,Zt,List.cons.injEq,and_true,PV.int.injEq,true_and];simp;omega
def HE (s:List UInt8):(cC s).length=s.length:=by simp[cC]
structure Y7 where
 aX:Int
 n:Int
 ad:List UInt8
def Y7.e (x:Y7):List PV:=[.int .i64 x.aX, .int .i64 x.n, .str x.ad]
def Y7.Ok (B:Nat)(x:Y7):Prop:=nV x.aX/\ nV x.n/\ x.ad.length<=B
def Y7.of {B:Nat}:∀r:List PV,dW Mp r->gT r<=B->∃x:Y7,r=x.e/\ x.Ok B:=fun r h hz=>by obtain⟨⟨c0,c1,c2,_⟩,e,g0,g1,g2,_⟩:=fg h;obtain rfl:r=[.int _ c0, .int _ c1, .str c2]:=e;have z2:=Zc (eH (i:=2) rfl) hz;rw[io]at z2;exact⟨⟨c0,c1,c2⟩,rfl,⟨eh g0,eh g1,z2⟩⟩
structure Q8 where
 aG:List UInt8
 n:Int
def Q8.e (x:Q8):List PV:=[.str x.aG, .int .i64 x.n]
def Q8.Ok (B:Nat)(x:Q8):Prop:=x.aG.length<=B/\ nV x.n
def Q8.of {B:Nat}:∀r:List PV,dW DT r->gT r<=B->∃x:Q8,r=x.e/\ x.Ok B:=fun r h hz=>by obtain⟨⟨c0,c1,_⟩,e,g0,g1,_⟩:=fg h;obtain rfl:r=[.str c0, .int _ c1]:=e;have z0:=Zc (eH (i:=0) rfl) hz;rw[io]at z0;exact⟨⟨c0,c1⟩,rfl,⟨z0,eh g1⟩⟩
structure X6 where
 fs:List Q8
def X6.e (x:X6):List PV:=[.lst (x.fs.map Q8.e)]
def X6.Ok (B:Nat)(x:X6):Prop:=(x.fs.length<=B/\ ∀y∈x.fs,y.Ok B)
def X6.of {B:Nat}:∀r:List PV,dW zQ r->gT r<=B->∃x:X6,r=x.e/\ x.Ok B:=fun r h hz=>by obtain⟨⟨c0,_⟩,e,g0,_⟩:=fg h;obtain rfl:r=[.lst c0]:=e;have z0:=Zc (eH (i:=0) rfl) hz;obtain⟨l0,rfl,y0⟩:=yF Q8.of (dJ g0).2 z0;exact⟨⟨l0⟩,rfl,y0⟩
structure Q2 where
 aZ:Y7
 au:X6
def Q2.e (x:Q2):List PV:=[.int .i64 x.aZ.aX, .int .i64 x.aZ.n, .str x.aZ.ad, .lst (x.au.fs.map Q8.e)]
def Q2.Ok (B:Nat)(x:Q2):Prop:=x.aZ.Ok B/\ x.au.Ok B
def Q2.of {B:Nat}:∀r:List PV,dW FL r->gT r<=B->∃x:Q2,r=x.e/\ x.Ok B:=fun r h hz=>by obtain⟨⟨c0,c1,c2,c3,_⟩,e,g0,g1,g2,g3,_⟩:=fg h;obtain rfl:r=[.int _ c0, .int _ c1, .str c2, .lst c3]:=e;have z2:=Zc (eH (i:=2) rfl) hz;rw[io]at z2;have z3:=Zc (eH (i:=3) rfl) hz;obtain⟨l3,rfl,y3⟩:=yF Q8.of (dJ g3).2 z3;exact⟨⟨⟨c0,c1,c2⟩,⟨l3⟩⟩,rfl,⟨⟨eh g0,eh g1,z2⟩,y3⟩⟩
structure Q5 where
 aG:List UInt8
 a1:List Q2
 aS:Int
def Q5.e (x:Q5):List PV:=[.str x.aG, .lst (x.a1.map Q2.e), .int .i64 x.aS]
def Q5.Ok (B:Nat)(x:Q5):Prop:=x.aG.length<=B/\ (x.a1.length<=B/\ ∀y∈x.a1,y.Ok B)/\ nV x.aS
def Q5.of {B:Nat}:∀r:List PV,dW yg r->gT r<=B->∃x:Q5,r=x.e/\ x.Ok B:=fun r h hz=>by obtain⟨⟨c0,c1,c2,_⟩,e,g0,g1,g2,_⟩:=fg h;obtain rfl:r=[.str c0, .lst c1, .int _ c2]:=e;have z0:=Zc (eH (i:=0) rfl) hz;rw[io]at z0;have z1:=Zc (eH (i:=1) rfl) hz;obtain⟨l1,rfl,y1⟩:=yF Q2.of (dJ g1).2 z1;exact⟨⟨c0,l1,c2⟩,rfl,⟨z0,y1,eh g2⟩⟩
structure Q4 where
 aY:Int
 an:Int
 aZ:Y7
 aU:List UInt8
 n:Int
def Q4.e (x:Q4):List PV:=[.int .i64 x.aY, .int .i64 x.an, .int .i64 x.aZ.aX, .int .i64 x.aZ.n, .str x.aZ.ad, .str x.aU, .int .i64 x.n]
def Q4.Ok (B:Nat)(x:Q4):Prop:=nV x.aY/\ nV x.an/\ x.aZ.Ok B/\ x.aU.length<=B/\ nV x.n
def Q4.of {B:Nat}:∀r:List PV,dW Aw r->gT r<=B->∃x:Q4,r=x.e/\ x.Ok B:=fun r h hz=>by obtain⟨⟨c0,c1,c2,c3,c4,c5,c6,_⟩,e,g0,g1,g2,g3,g4,g5,g6,_⟩:=fg h;obtain rfl:r=[.int _ c0, .int _ c1, .int _ c2, .int _ c3, .str c4, .str c5, .int _ c6]:=e;have z4:=Zc (eH (i:=4) rfl) hz;rw[io]at z4;have z5:=Zc (eH (i:=5) rfl) hz;rw[io]at z5;exact⟨⟨c0,c1,⟨c2,c3,c4⟩,c5,c6⟩,rfl,⟨eh g0,eh g1,⟨eh g2,eh g3,z4⟩,z5,eh g6⟩⟩
structure Q7 where
 aY:Int
 an:Int
def Q7.e (x:Q7):List PV:=[.int .i64 x.aY, .int .i64 x.an]
def Q7.Ok (B:Nat)(x:Q7):Prop:=nV x.aY/\ nV x.an
def Q7.of {B:Nat}:∀r:List PV,dW Av r->gT r<=B->∃x:Q7,r=x.e/\ x.Ok B:=fun r h hz=>by obtain⟨⟨c0,c1,_⟩,e,g0,g1,_⟩:=fg h;obtain rfl:r=[.int _ c0, .int _ c1]:=e;exact⟨⟨c0,c1⟩,rfl,⟨eh g0,eh g1⟩⟩
structure Q3 where
 aF:Q5
 a7:List Q7
 aD:List Q4
def Q3.e (x:Q3):List PV:=[.str x.aF.aG, .lst (x.aF.a1.map Q2.e), .int .i64 x.aF.aS, .lst (x.a7.map Q7.e), .lst (x.aD.map Q4.e)]
def Q3.Ok (B:Nat)(x:Q3):Prop:=x.aF.Ok B/\ (x.a7.length<=B/\ ∀y∈x.a7,y.Ok B)/\ (x.aD.length<=B/\ ∀y∈x.aD,y.Ok B)
def Q3.of {B:Nat}:∀r:List PV,dW zR r->gT r<=B->∃x:Q3,r=x.e/\ x.Ok B:=fun r h hz=>by obtain⟨⟨c0,c1,c2,c3,c4,_⟩,e,g0,g1,g2,g3,g4,_⟩:=fg h;obtain rfl:r=[.str c0, .lst c1, .int _ c2, .lst c3, .lst c4]:=e;have z0:=Zc (eH (i:=0) rfl) hz;rw[io]at z0;have z1:=Zc (eH (i:=1) rfl) hz;obtain⟨l1,rfl,y1⟩:=yF Q2.of (dJ g1).2 z1;have z3:=Zc (eH (i:=3) rfl) hz;obtain⟨l3,rfl,y3⟩:=yF Q7.of (dJ g3).2 z3;have z4:=Zc (eH (i:=4) rfl) hz;obtain⟨l4,rfl,y4⟩:=yF Q4.of (dJ g4).2 z4;exact⟨⟨⟨c0,l1,c2⟩,l3,l4⟩,rfl,⟨⟨z0,y1,eh g2⟩,y3,y4⟩⟩
structure Y0 where
 aY:Int
 ag:Int
 aA:List Q4
def Y0.e (x:Y0):List PV:=[.int .i64 x.aY, .int .i64 x.ag, .lst (x.aA.map Q4.e)]
def Y0.Ok (B:Nat)(x:Y0):Prop:=nV x.aY/\ nV x.ag/\ (x.aA.length<=B/\ ∀y∈x.aA,y.Ok B)
def Y0.of {B:Nat}:∀r:List PV,dW zP r->gT r<=B->∃x:Y0,r=x.e/\ x.Ok B:=fun r h hz=>by obtain⟨⟨c0,c1,c2,_⟩,e,g0,g1,g2,_⟩:=fg h;obtain rfl:r=[.int _ c0, .int _ c1, .lst c2]:=e;have z2:=Zc (eH (i:=2) rfl) hz;obtain⟨l2,rfl,y2⟩:=yF Q4.of (dJ g2).2 z2;exact⟨⟨c0,c1,l2⟩,rfl,⟨eh g0,eh g1,y2⟩⟩
structure Z0 where
 a6:Y0
 aT:Int
 ae:Int
def Z0.e (x:Z0):List PV:=[.int .i64 x.a6.aY, .int .i64 x.a6.ag, .lst (x.a6.aA.map Q4.e), .int .i64 x.aT, .int .i64 x.ae]
def Z0.Ok (B:Nat)(x:Z0):Prop:=x.a6.Ok B/\ nV x.aT/\ nV x.ae
def Z0.of {B:Nat}:∀r:List PV,dW Km r->gT r<=B->∃x:Z0,r=x.e/\ x.Ok B:=fun r h hz=>by obtain⟨⟨c0,c1,c2,c3,c4,_⟩,e,g0,g1,g2,g3,g4,_⟩:=fg h;obtain rfl:r=[.int _ c0, .int _ c1, .lst c2, .int _ c3, .int _ c4]:=e;have z2:=Zc (eH (i:=2) rfl) hz;obtain⟨l2,rfl,y2⟩:=yF Q4.of (dJ g2).2 z2;exact⟨⟨⟨c0,c1,l2⟩,c3,c4⟩,rfl,⟨⟨eh g0,eh g1,y2⟩,eh g3,eh g4⟩⟩
structure X7 where
 aB:Q5
 ab:Int
 aH:Z0
def X7.e (x:X7):List PV:=[.str x.aB.aG, .lst (x.aB.a1.map Q2.e), .int .i64 x.aB.aS, .int .i64 x.ab, .int .i64 x.aH.a6.aY, .int .i64 x.aH.a6.ag, .lst (x.aH.a6.aA.map Q4.e), .int .i64 x.aH.aT, .int .i64 x.aH.ae]
def X7.Ok (B:Nat)(x:X7):Prop:=x.aB.Ok B/\ nV x.ab/\ x.aH.Ok B
def X7.of {B:Nat}:∀r:List PV,dW qf r->gT r<=B->∃x:X7,r=x.e/\ x.Ok B:=fun r h hz=>by obtain⟨⟨c0,c1,c2,c3,c4,c5,c6,c7,c8,_⟩,e,g0,g1,g2,g3,g4,g5,g6,g7,g8,_⟩:=fg h;obtain rfl:r=[.str c0, .lst c1, .int _ c2, .int _ c3, .int _ c4, .int _ c5, .lst c6, .int _ c7, .int _ c8]:=e;have z0:=Zc (eH (i:=0) rfl) hz;rw[io]at z0;have z1:=Zc (eH (i:=1) rfl) hz;obtain⟨l1,rfl,y1⟩:=yF Q2.of (dJ g1).2 z1;have z6:=Zc (eH (i:=6) rfl) hz;obtain⟨l6,rfl,y6⟩:=yF Q4.of (dJ g6).2 z6;exact⟨⟨⟨c0,l1,c2⟩,c3,⟨⟨c4,c5,l6⟩,c7,c8⟩⟩,rfl,⟨⟨z0,y1,eh g2⟩,eh g3,⟨⟨eh g4,eh g5,y6⟩,eh g7,eh g8⟩⟩⟩
structure Y5 where
 b3:Int
 ay:Int
 aC:Int
 body:List UInt8
 b2:Bool
def Y5.e (x:Y5):List PV:=[.int .i64 x.b3, .int .i64 x.ay, .int .i64 x.aC, .lst (cC x.body), .bool x.b2]
def Y5.Ok (B:Nat)(x:Y5):Prop:=nV x.b3/\ nV x.ay/\ nV x.aC/\ x.body.length<=B
def Y5.of {B:Nat}:∀r:List PV,dW vB r->gT r<=B->∃x:Y5,r=x.e/\ x.Ok B:=fun r h hz=>by
 obtain⟨⟨c0,c1,c2,c3,c4,_⟩,e,g0,g1,g2,g3,g4,_⟩:=fg h;obtain rfl:r=[.int _ c0, .int _ c1, .int _ c2, .lst c3, .bool c4]:=e;have z3:=Zc (eH (i:=3) rfl) hz;obtain⟨b3,rfl⟩:=MN (dJ g3).2;rw[mG,HE]at z3;have y3:b3.length<=B:=by omega
 exact⟨⟨c0,c1,c2,b3,c4⟩,rfl,⟨eh g0,eh g1,eh g2,y3⟩⟩
structure X3 where
 aP:List UInt8
 al:List UInt8
 ao:Y5
def X3.e (x:X3):List PV:=[.str x.aP, .str x.al, .int .i64 x.ao.b3, .int .i64 x.ao.ay, .int .i64 x.ao.aC, .lst (cC x.ao.body), .bool x.ao.b2]
def X3.Ok (B:Nat)(x:X3):Prop:=x.aP.length<=B/\ x.al.length<=B/\ x.ao.Ok B
def X3.of {B:Nat}:∀r:List PV,dW zN r->gT r<=B->∃x:X3,r=x.e/\ x.Ok B:=fun r h hz=>by
 obtain⟨⟨c0,c1,c2,c3,c4,c5,c6,_⟩,e,g0,g1,g2,g3,g4,g5,g6,_⟩:=fg h;obtain rfl:r=[.str c0, .str c1, .int _ c2, .int _ c3, .int _ c4, .lst c5, .bool c6]:=e;have z0:=Zc (eH (i:=0) rfl) hz;rw[io]at z0;have z1:=Zc (eH (i:=1) rfl) hz;rw[io]at z1;have z5:=Zc (eH (i:=5) rfl) hz;obtain⟨b5,rfl⟩:=MN (dJ g5).2;rw[mG,HE]at z5;have y5:b5.length<=B:=by omega
 exact⟨⟨c0,c1,⟨c2,c3,c4,b5,c6⟩⟩,rfl,⟨z0,z1,⟨eh g2,eh g3,eh g4,y5⟩⟩⟩
structure X1 where
 aC:Int
 a8:List X3
def X1.e (x:X1):List PV:=[.int .i64 x.aC, .lst (x.a8.map X3.e)]
def X1.Ok (B:Nat)(x:X1):Prop:=nV x.aC/\ (x.a8.length<=B/\ ∀y∈x.a8,y.Ok B)
def X1.of {B:Nat}:∀r:List PV,dW DS r->gT r<=B->∃x:X1,r=x.e/\ x.Ok B:=fun r h hz=>by obtain⟨⟨c0,c1,_⟩,e,g0,g1,_⟩:=fg h;obtain rfl:r=[.int _ c0, .lst c1]:=e;have z1:=Zc (eH (i:=1) rfl) hz;obtain⟨l1,rfl,y1⟩:=yF X3.of (dJ g1).2 z1;exact⟨⟨c0,l1⟩,rfl,⟨eh g0,y1⟩⟩
structure Y6 where
 a3:List X1
def Y6.e (x:Y6):List PV:=[.lst (x.a3.map X1.e)]
def Y6.Ok (B:Nat)(x:Y6):Prop:=(x.a3.length<=B/\ ∀y∈x.a3,y.Ok B)
def Y6.of {B:Nat}:∀r:List PV,dW vx r->gT r<=B->∃x:Y6,r=x.e/\ x.Ok B:=fun r h hz=>by obtain⟨⟨c0,_⟩,e,g0,_⟩:=fg h;obtain rfl:r=[.lst c0]:=e;have z0:=Zc (eH (i:=0) rfl) hz;obtain⟨l0,rfl,y0⟩:=yF X1.of (dJ g0).2 z0;exact⟨⟨l0⟩,rfl,y0⟩
structure Y1 where
 aP:List UInt8
 aV:Int
 ah:Int
 ak:Int
def Y1.e (x:Y1):List PV:=[.str x.aP, .int .i64 x.aV, .int .i64 x.ah, .int .i64 x.ak]
def Y1.Ok (B:Nat)(x:Y1):Prop:=x.aP.length<=B/\ nV x.aV/\ nV x.ah/\ nV x.ak
def Y1.of {B:Nat}:∀r:List PV,dW n5 r->gT r<=B->∃x:Y1,r=x.e/\ x.Ok B:=fun r h hz=>by obtain⟨⟨c0,c1,c2,c3,_⟩,e,g0,g1,g2,g3,_⟩:=fg h;obtain rfl:r=[.str c0, .int _ c1, .int _ c2, .int _ c3]:=e;have z0:=Zc (eH (i:=0) rfl) hz;rw[io]at z0;exact⟨⟨c0,c1,c2,c3⟩,rfl,⟨z0,eh g1,eh g2,eh g3⟩⟩
structure Y4 where
 al:List UInt8
 aC:Int
def Y4.e (x:Y4):List PV:=[.str x.al, .int .i64 x.aC]
def Y4.Ok (B:Nat)(x:Y4):Prop:=x.al.length<=B/\ nV x.aC
def Y4.of {B:Nat}:∀r:List PV,dW zO r->gT r<=B->∃x:Y4,r=x.e/\ x.Ok B:=fun r h hz=>by obtain⟨⟨c0,c1,_⟩,e,g0,g1,_⟩:=fg h;obtain rfl:r=[.str c0, .int _ c1]:=e;have z0:=Zc (eH (i:=0) rfl) hz;rw[io]at z0;exact⟨⟨c0,c1⟩,rfl,⟨z0,eh g1⟩⟩
structure Y8 where
 aX:Int
 r:Int
 n:Int
 ad:List UInt8
def Y8.e (x:Y8):List PV:=[.int .i64 x.aX, .int .i64 x.r, .int .i64 x.n, .str x.ad]
def Y8.Ok (B:Nat)(x:Y8):Prop:=nV x.aX/\ nV x.r/\ nV x.n/\ x.ad.length<=B
def Y8.of {B:Nat}:∀r:List PV,dW DU r->gT r<=B->∃x:Y8,r=x.e/\ x.Ok B:=fun r h hz=>by obtain⟨⟨c0,c1,c2,c3,_⟩,e,g0,g1,g2,g3,_⟩:=fg h;obtain rfl:r=[.int _ c0, .int _ c1, .int _ c2, .str c3]:=e;have z3:=Zc (eH (i:=3) rfl) hz;rw[io]at z3;exact⟨⟨c0,c1,c2,c3⟩,rfl,⟨eh g0,eh g1,eh g2,z3⟩⟩
structure Z4 where
 am:List Y8
 pc:Int
 az:List Int
 b1:Int
 b4:Bool
 ae:Bool
def Z4.e (x:Z4):List PV:=[.lst (x.am.map Y8.e), .int .i64 x.pc, .lst (x.az.map AC), .int .i64 x.b1, .bool x.b4, .bool x.ae]
def Z4.Ok (B:Nat)(x:Z4):Prop:=(x.am.length<=B/\ ∀y∈x.am,y.Ok B)/\ nV x.pc/\ (x.az.length<=B/\ ∀y∈x.az,nV y)/\ nV x.b1
def Z4.of {B:Nat}:∀r:List PV,dW xt r->gT r<=B->∃x:Z4,r=x.e/\ x.Ok B:=fun r h hz=>by obtain⟨⟨c0,c1,c2,c3,c4,c5,_⟩,e,g0,g1,g2,g3,g4,g5,_⟩:=fg h;obtain rfl:r=[.lst c0, .int _ c1, .lst c2, .int _ c3, .bool c4, .bool c5]:=e;have z0:=Zc (eH (i:=0) rfl) hz;obtain⟨l0,rfl,y0⟩:=yF Y8.of (dJ g0).2 z0;have z2:=Zc (eH (i:=2) rfl) hz;obtain⟨l2,rfl,y2⟩:=yF aaN (dJ g2).2 z2;exact⟨⟨l0,c1,l2,c3,c4,c5⟩,rfl,⟨y0,eh g1,y2,eh g3⟩⟩
structure X8 where
 id:Int
 aP:List UInt8
 av:List UInt8
 aC:Int
 ai:List Y4
 aR:Z4
def X8.e (x:X8):List PV:=[.int .i64 x.id, .str x.aP, .str x.av, .int .i64 x.aC, .lst (x.ai.map Y4.e), .lst (x.aR.am.map Y8.e), .int .i64 x.aR.pc, .lst (x.aR.az.map AC), .int .i64 x.aR.b1, .bool x.aR.b4, .bool x.aR.ae]
def X8.Ok (B:Nat)(x:X8):Prop:=nV x.id/\ x.aP.length<=B/\ x.av.length<=B/\ nV x.aC/\ (x.ai.length<=B/\ ∀y∈x.ai,y.Ok B)/\ x.aR.Ok B
def X8.of {B:Nat}:∀r:List PV,dW Kk r->gT r<=B->∃x:X8,r=x.e/\ x.Ok B:=fun r h hz=>by obtain⟨⟨c0,c1,c2,c3,c4,c5,c6,c7,c8,c9,b0,_⟩,e,g0,g1,g2,g3,g4,g5,g6,g7,g8,g9,b8,_⟩:=fg h;obtain rfl:r=[.int _ c0, .str c1, .str c2, .int _ c3, .lst c4, .lst c5, .int _ c6, .lst c7, .int _ c8, .bool c9, .bool b0]:=e;have z1:=Zc (eH (i:=1) rfl) hz;rw[io]at z1;have z2:=Zc (eH (i:=2) rfl) hz;rw[io]at z2;have z4:=Zc (eH (i:=4) rfl) hz;obtain⟨l4,rfl,y4⟩:=yF Y4.of (dJ g4).2 z4;have z5:=Zc (eH (i:=5) rfl) hz;obtain⟨l5,rfl,y5⟩:=yF Y8.of (dJ g5).2 z5;have z7:=Zc (eH (i:=7) rfl) hz;obtain⟨l7,rfl,y7⟩:=yF aaN (dJ g7).2 z7;exact⟨⟨c0,c1,c2,c3,l4,⟨l5,c6,l7,c8,c9,b0⟩⟩,rfl,⟨eh g0,z1,z2,eh g3,y4,⟨y5,eh g6,y7,eh g8⟩⟩⟩
structure Q9 where
 aF:List UInt8
 aU:List UInt8
def Q9.e (x:Q9):List PV:=[.str x.aF, .str x.aU]
def Q9.Ok (B:Nat)(x:Q9):Prop:=x.aF.length<=B/\ x.aU.length<=B
def Q9.of {B:Nat}:∀r:List PV,dW vz r->gT r<=B->∃x:Q9,r=x.e/\ x.Ok B:=fun r h hz=>by obtain⟨⟨c0,c1,_⟩,e,g0,g1,_⟩:=fg h;obtain rfl:r=[.str c0, .str c1]:=e;have z0:=Zc (eH (i:=0) rfl) hz;rw[io]at z0;have z1:=Zc (eH (i:=1) rfl) hz;rw[io]at z1;exact⟨⟨c0,c1⟩,rfl,⟨z0,z1⟩⟩
structure Y2 where
 aG:List UInt8
 aC:Int
 a9:List Q5
 aE:List Q9
def Y2.e (x:Y2):List PV:=[.str x.aG, .int .i64 x.aC, .lst (x.a9.map Q5.e), .lst (x.aE.map Q9.e)]
def Y2.Ok (B:Nat)(x:Y2):Prop:=x.aG.length<=B/\ nV x.aC/\ (x.a9.length<=B/\ ∀y∈x.a9,y.Ok B)/\ (x.aE.length<=B/\ ∀y∈x.aE,y.Ok B)
def Y2.of {B:Nat}:∀r:List PV,dW vy r->gT r<=B->∃x:Y2,r=x.e/\ x.Ok B:=fun r h hz=>by obtain⟨⟨c0,c1,c2,c3,_⟩,e,g0,g1,g2,g3,_⟩:=fg h;obtain rfl:r=[.str c0, .int _ c1, .lst c2, .lst c3]:=e;have z0:=Zc (eH (i:=0) rfl) hz;rw[io]at z0;have z2:=Zc (eH (i:=2) rfl) hz;obtain⟨l2,rfl,y2⟩:=yF Q5.of (dJ g2).2 z2;have z3:=Zc (eH (i:=3) rfl) hz;obtain⟨l3,rfl,y3⟩:=yF Q9.of (dJ g3).2 z3;exact⟨⟨c0,c1,l2,l3⟩,rfl,⟨z0,eh g1,y2,y3⟩⟩
structure Z8 where
 aB:Y2
 aw:List UInt8
 aq:Int
def Z8.e (x:Z8):List PV:=[.str x.aB.aG, .int .i64 x.aB.aC, .lst (x.aB.a9.map Q5.e), .lst (x.aB.aE.map Q9.e), .lst (cC x.aw), .int .i64 x.aq]
def Z8.Ok (B:Nat)(x:Z8):Prop:=x.aB.Ok B/\ x.aw.length<=B/\ nV x.aq
def Z8.of {B:Nat}:∀r:List PV,dW Ki r->gT r<=B->∃x:Z8,r=x.e/\ x.Ok B:=fun r h hz=>by
 obtain⟨⟨c0,c1,c2,c3,c4,c5,_⟩,e,g0,g1,g2,g3,g4,g5,_⟩:=fg h;obtain rfl:r=[.str c0, .int _ c1, .lst c2, .lst c3, .lst c4, .int _ c5]:=e;have z0:=Zc (eH (i:=0) rfl) hz;rw[io]at z0;have z2:=Zc (eH (i:=2) rfl) hz;obtain⟨l2,rfl,y2⟩:=yF Q5.of (dJ g2).2 z2;have z3:=Zc (eH (i:=3) rfl) hz;obtain⟨l3,rfl,y3⟩:=yF Q9.of (dJ g3).2 z3;have z4:=Zc (eH (i:=4) rfl) hz;obtain⟨b4,rfl⟩:=MN (dJ g4).2;rw[mG,HE]at z4;have y4:b4.length<=B:=by omega
 exact⟨⟨⟨c0,c1,l2,l3⟩,b4,c5⟩,rfl,⟨⟨z0,eh g1,y2,y3⟩,y4,eh g5⟩⟩
structure Q1 where
 aP:List UInt8
 av:List UInt8
 ar:Y1
 a3:Y6
 aM:Z8
 a4:X7
 aa:Int
 af:Bool
def Q1.e (x:Q1):List PV:=[.str x.aP, .str x.av, .str x.ar.aP, .int .i64 x.ar.aV, .int .i64 x.ar.ah, .int .i64 x.ar.ak, .lst (x.a3.a3.map X1.e), .str x.aM.aB.aG, .int .i64 x.aM.aB.aC, .lst (x.aM.aB.a9.map Q5.e), .lst (x.aM.aB.aE.map Q9.e), .lst (cC x.aM.aw), .int .i64 x.aM.aq, .str x.a4.aB.aG, .lst (x.a4.aB.a1.map Q2.e), .int .i64 x.a4.aB.aS, .int .i64 x.a4.ab, .int .i64 x.a4.aH.a6.aY, .int .i64 x.a4.aH.a6.ag, .lst (x.a4.aH.a6.aA.map Q4.e), .int .i64 x.a4.aH.aT, .int .i64 x.a4.aH.ae, .int .i64 x.aa, .bool x.af]
def Q1.Ok (B:Nat)(x:Q1):Prop:=x.aP.length<=B/\ x.av.length<=B/\ x.ar.Ok B/\ x.a3.Ok B/\ x.aM.Ok B/\ x.a4.Ok B/\ nV x.aa
def Q1.of {B:Nat}:∀r:List PV,dW zM r->gT r<=B->∃x:Q1,r=x.e/\ x.Ok B:=fun r h hz=>by
 obtain⟨⟨c0,c1,c2,c3,c4,c5,c6,c7,c8,c9,b0,bn,b9,ba,bo,bb,bc,bd,bf,bp,bg,bh,bj,bk,_⟩,e,g0,g1,g2,g3,g4,g5,g6,g7,g8,g9,b8,bq,br,bS,bt,bu,bw,bx,bz,bB,bD,bE,bF,bT,_⟩:=fg h;obtain rfl:r=[.str c0, .str c1, .str c2, .int _ c3, .int _ c4, .int _ c5, .lst c6, .str c7, .int _ c8, .lst c9, .lst b0, .lst bn, .int _ b9, .str ba, .lst bo, .int _ bb, .int _ bc, .int _ bd, .int _ bf, .lst bp, .int _ bg, .int _ bh, .int _ bj, .bool bk]:=e;have z0:=Zc (eH (i:=0) rfl) hz;rw[io]at z0;have z1:=Zc (eH (i:=1) rfl) hz;rw[io]at z1;have z2:=Zc (eH (i:=2) rfl) hz;rw[io]at z2;have z6:=Zc (eH (i:=6) rfl) hz;obtain⟨l6,rfl,y6⟩:=yF X1.of (dJ g6).2 z6;have z7:=Zc (eH (i:=7) rfl) hz;rw[io]at z7;have z9:=Zc (eH (i:=9) rfl) hz;obtain⟨l9,rfl,y9⟩:=yF Q5.of (dJ g9).2 z9;have bG:=Zc (eH (i:=10) rfl) hz;obtain⟨bH,rfl,bI⟩:=yF Q9.of (dJ b8).2 bG;have bK:=Zc (eH (i:=11) rfl) hz;obtain⟨bl,rfl⟩:=MN (dJ bq).2;rw[mG,HE]at bK;have bL:bl.length<=B:=by omega
 have bm:=Zc (eH (i:=13) rfl) hz;rw[io]at bm;have bM:=Zc (eH (i:=14) rfl) hz;obtain⟨bN,rfl,bO⟩:=yF Q2.of (dJ bt).2 bM;have bP:=Zc (eH (i:=19) rfl) hz;obtain⟨bQ,rfl,bR⟩:=yF Q4.of (dJ bB).2 bP;exact⟨⟨c0,c1,⟨c2,c3,c4,c5⟩,⟨l6⟩,⟨⟨c7,c8,l9,bH⟩,bl,b9⟩,⟨⟨ba,bN,bb⟩,bc,⟨⟨bd,bf,bQ⟩,bg,bh⟩⟩,bj,bk⟩,rfl,⟨z0,z1,⟨z2,eh g3,eh g4,eh g5⟩,y6,⟨⟨z7,eh g8,y9,bI⟩,bL,eh br⟩,⟨⟨bm,bO,eh bu⟩,eh bw,⟨⟨eh bx,eh bz,bR⟩,eh bD,eh bE⟩⟩,eh bF⟩⟩
structure Z5 where
 a0:List Q1
def Z5.e (x:Z5):List PV:=[.lst (x.a0.map Q1.e)]
def Z5.Ok (B:Nat)(x:Z5):Prop:=(x.a0.length<=B/\ ∀y∈x.a0,y.Ok B)
def Z5.of {B:Nat}:∀r:List PV,dW kL r->gT r<=B->∃x:Z5,r=x.e/\ x.Ok B:=fun r h hz=>by obtain⟨⟨c0,_⟩,e,g0,_⟩:=fg h;obtain rfl:r=[.lst c0]:=e;have z0:=Zc (eH (i:=0) rfl) hz;obtain⟨l0,rfl,y0⟩:=yF Q1.of (dJ g0).2 z0;exact⟨⟨l0⟩,rfl,y0⟩
structure X5 where
 aG:List UInt8
 b5:Int
 ax:Bool
 b7:Bool
def X5.e (x:X5):List PV:=[.str x.aG, .int .i64 x.b5, .bool x.ax, .bool x.b7]
def X5.Ok (B:Nat)(x:X5):Prop:=x.aG.length<=B/\ nV x.b5
def X5.of {B:Nat}:∀r:List PV,dW Kj r->gT r<=B->∃x:X5,r=x.e/\ x.Ok B:=fun r h hz=>by obtain⟨⟨c0,c1,c2,c3,_⟩,e,g0,g1,g2,g3,_⟩:=fg h;obtain rfl:r=[.str c0, .int _ c1, .bool c2, .bool c3]:=e;have z0:=Zc (eH (i:=0) rfl) hz;rw[io]at z0;exact⟨⟨c0,c1,c2,c3⟩,rfl,⟨z0,eh g1⟩⟩
structure Y9 where
 aJ:List X5
def Y9.e (x:Y9):List PV:=[.lst (x.aJ.map X5.e)]
def Y9.Ok (B:Nat)(x:Y9):Prop:=(x.aJ.length<=B/\ ∀y∈x.aJ,y.Ok B)
def Y9.of {B:Nat}:∀r:List PV,dW iY r->gT r<=B->∃x:Y9,r=x.e/\ x.Ok B:=fun r h hz=>by obtain⟨⟨c0,_⟩,e,g0,_⟩:=fg h;obtain rfl:r=[.lst c0]:=e;have z0:=Zc (eH (i:=0) rfl) hz;obtain⟨l0,rfl,y0⟩:=yF X5.of (dJ g0).2 z0;exact⟨⟨l0⟩,rfl,y0⟩
structure X9 where
 to:Int
 b6:Int
 n:Int
def X9.e (x:X9):List PV:=[.int .i64 x.to, .int .i64 x.b6, .int .i64 x.n]
def X9.Ok (B:Nat)(x:X9):Prop:=nV x.to/\ nV x.b6/\ nV x.n
def X9.of {B:Nat}:∀r:List PV,dW Ou r->gT r<=B->∃x:X9,r=x.e/\ x.Ok B:=fun r h hz=>by obtain⟨⟨c0,c1,c2,_⟩,e,g0,g1,g2,_⟩:=fg h;obtain rfl:r=[.int _ c0, .int _ c1, .int _ c2]:=e;exact⟨⟨c0,c1,c2⟩,rfl,⟨eh g0,eh g1,eh g2⟩⟩
structure Z3 where
 aW:List X9
def Z3.e (x:Z3):List PV:=[.lst (x.aW.map X9.e)]
def Z3.Ok (B:Nat)(x:Z3):Prop:=(x.aW.length<=B/\ ∀y∈x.aW,y.Ok B)
def Z3.of {B:Nat}:∀r:List PV,dW kK r->gT r<=B->∃x:Z3,r=x.e/\ x.Ok B:=fun r h hz=>by obtain⟨⟨c0,_⟩,e,g0,_⟩:=fg h;obtain rfl:r=[.lst c0]:=e;have z0:=Zc (eH (i:=0) rfl) hz;obtain⟨l0,rfl,y0⟩:=yF X9.of (dJ g0).2 z0;exact⟨⟨l0⟩,rfl,y0⟩
structure X4 where
 aG:List UInt8
 aC:Int
 ap:List (List UInt8)
 ax:Bool
def X4.e (x:X4):List PV:=[.str x.aG, .int .i64 x.aC, .lst (x.ap.map zz), .bool x.ax]
def X4.Ok (B:Nat)(x:X4):Prop:=x.aG.length<=B/\ nV x.aC/\ (x.ap.length<=B/\ ∀y∈x.ap,y.length<=B)
def X4.of {B:Nat}:∀r:List PV,dW Kl r->gT r<=B->∃x:X4,r=x.e/\ x.Ok B:=fun r h hz=>by obtain⟨⟨c0,c1,c2,c3,_⟩,e,g0,g1,g2,g3,_⟩:=fg h;obtain rfl:r=[.str c0, .int _ c1, .lst c2, .bool c3]:=e;have z0:=Zc (eH (i:=0) rfl) hz;rw[io]at z0;have z2:=Zc (eH (i:=2) rfl) hz;obtain⟨l2,rfl,y2⟩:=yF adR (dJ g2).2 z2;exact⟨⟨c0,c1,l2,c3⟩,rfl,⟨z0,eh g1,y2⟩⟩
structure X0 where
 aj:Int
 aN:Bool
 aQ:Int
 a2:Z5
 aL:List X8
 aI:Int
 aJ:Y9
 aO:Z3
 aK:List X4
 a5:List Q3
def X0.e (x:X0):List PV:=[.int .i64 x.aj, .bool x.aN, .int .i64 x.aQ, .lst (x.a2.a0.map Q1.e), .lst (x.aL.map X8.e), .int .i64 x.aI, .lst (x.aJ.aJ.map X5.e), .lst (x.aO.aW.map X9.e), .lst (x.aK.map X4.e), .lst (x.a5.map Q3.e)]
def X0.Ok (B:Nat)(x:X0):Prop:=nV x.aj/\ nV x.aQ/\ x.a2.Ok B/\ (x.aL.length<=B/\ ∀y∈x.aL,y.Ok B)/\ nV x.aI/\ x.aJ.Ok B/\ x.aO.Ok B/\ (x.aK.length<=B/\ ∀y∈x.aK,y.Ok B)/\ (x.a5.length<=B/\ ∀y∈x.a5,y.Ok B)
def X0.of {B:Nat}:∀r:List PV,dW i9 r->gT r<=B->∃x:X0,r=x.e/\ x.Ok B:=fun r h hz=>by obtain⟨⟨c0,c1,c2,c3,c4,c5,c6,c7,c8,c9,_⟩,e,g0,g1,g2,g3,g4,g5,g6,g7,g8,g9,_⟩:=fg h;obtain rfl:r=[.int _ c0, .bool c1, .int _ c2, .lst c3, .lst c4, .int _ c5, .lst c6, .lst c7, .lst c8, .lst c9]:=e;have z3:=Zc (eH (i:=3) rfl) hz;obtain⟨l3,rfl,y3⟩:=yF Q1.of (dJ g3).2 z3;have z4:=Zc (eH (i:=4) rfl) hz;obtain⟨l4,rfl,y4⟩:=yF X8.of (dJ g4).2 z4;have z6:=Zc (eH (i:=6) rfl) hz;obtain⟨l6,rfl,y6⟩:=yF X5.of (dJ g6).2 z6;have z7:=Zc (eH (i:=7) rfl) hz;obtain⟨l7,rfl,y7⟩:=yF X9.of (dJ g7).2 z7;have z8:=Zc (eH (i:=8) rfl) hz;obtain⟨l8,rfl,y8⟩:=yF X4.of (dJ g8).2 z8;have z9:=Zc (eH (i:=9) rfl) hz;obtain⟨l9,rfl,y9⟩:=yF Q3.of (dJ g9).2 z9;exact⟨⟨c0,c1,c2,⟨l3⟩,l4,c5,⟨l6⟩,⟨l7⟩,l8,l9⟩,rfl,⟨eh g0,eh g2,y3,y4,eh g5,y6,y7,y8,y9⟩⟩
set_option maxHeartbeats 4000000
set_option maxRecDepth 4000
def cL :Nat->List V->Option V:=fun k xz=>match k,xz with
 |363,[.one (.pv (.str a)), .one (.pv (.str b))]=>some (ce .i64 (Lib.compareBytes a b))
 |_,_=>none
def dG :vG (cf Ph cL):=TP fun k xz r h=>by unfold cL at h;split at h;cases h;rfl;cases h
def uu {a b:List UInt8}:mA .neq a b=some (cK (!(a==b))):=rfl
def ut {a b:List UInt8}:mA .eql a b=some (cK (a==b)):=rfl
def fH :IntKind.i64.wrap 1=1:=by rw[IntKind.wrap_i64];rfl
def sZ {j n:Nat}(hn:n<=maxLen)(hj:j+1<n):IntKind.i64.wrap ((j:Int)+1+1)=(j:Int)+1+1/\ IntKind.i64.wrap (j:Int)=(j:Int)/\ (0:Int)<(j:Int)+1/\ (0:Int)<=(j:Int)+1/\ ((j:Int)+1).toNat=j+1/\ (j:Int)+1<(n:Int):=by unfold maxLen at hn;refine⟨?_,?_,by omega,by omega,by omega,by omega⟩<;>rw[IntKind.wrap_i64]<;>omega
def gS {m z:Nat}(hm:m<=4194304)(hz:z<=4096):m*z<=140737488355328/\ m<=9223372036854775807/\ m<=9223372036854775806/\ m<9223372036854775807:=by
 refine⟨?_,by omega,by omega,by omega⟩;calc m*z<=4194304*4096:=Nat.mul_le_mul hm hz
  _<=140737488355328:=by decide
def fG {α:Type}{e:α->List PV}{xs:List α}{k:Nat}(hk:k<xs.length):(xs.map e).take (k+1)=(xs.map e).take k++[e xs[k]]:=by rw[ZQ (by simpa using hk)];simp
def ii {α:Type}{e:α->List PV}(h:∀x,(e x).all PV.flat=true)(xs:List α):qN (xs.map e)=true:=by simp only[qN,List.all_map,Zu,Function.comp];exact fun x _=>by simpa[Zu]using h x
def fL {α:Type}{e:α->List PV}{z:Nat}(h:∀x,(e x).length=z)(xs:List α):((xs.map e).all fun r=>r.length==z)=true:=by simp only[List.all_map,Zu,Function.comp,beq_iff_eq];exact fun x _=>h x
def uZ (s:List UInt8):qN (cC s)=true:=ii (e:=fun b:UInt8=>[PV.int .u8 b.toNat]) (fun _=>rfl) s
def mW (s:List UInt8):((cC s).all fun r=>r.length==1)=true:=fL (e:=fun b:UInt8=>[PV.int .u8 b.toNat]) (z:=1) (fun _=>rfl) s
def nd (z:Nat):List (List PV)->L
 |[]=> .nil
 |r::rs=> .down z (r::rs)
def oW (z:Nat):List (List PV)->L
 |[]=> .nil
 |r::rs=> .own z (r::rs)
def qm :List (List PV)->L
 |[]=> .nil
 |r::rs=> .pv (.lst (r::rs))
def fJ (z:Nat)(rows:List (List PV)):(rows=[]/\ nd z rows= .nil) \/(rows≠[]/\ nd z rows= .down z rows):=by
 cases rows with
 |nil=>exact .inl ⟨rfl,rfl⟩
 |cons r rs=>exact .inr ⟨by simp,rfl⟩
def du {z:Nat}{rows:List (List PV)}:ft (nd z rows)=qm rows:=by cases rows<;>rfl
def dx {z:Nat}{rows:List (List PV)}:ft (oW z rows)=qm rows:=by cases rows<;>rfl
def cI {rows:List (List PV)}:ft (qm rows)=qm rows:=by cases rows<;>rfl
def cG {h:List Q0}{rows:List (List PV)}:L.view h (qm rows)=some (.lst rows):=by cases rows<;>rfl
def ct {rows:List (List PV)}:plain (qm rows)=true:=by cases rows<;>rfl
def df {h:List Q0}{rows:List (List PV)}:L.mut h (qm rows)=false:=by cases rows<;>rfl
def cq {h:List Q0}{rows:List (List PV)}:freezeL h (qm rows)=h:=by cases rows<;>rfl
def cF {h:List Q0}{rows:List (List PV)}:dS h (qm rows)=some (qm rows):=by cases rows<;>rfl
def cO {f:List Nat}{rows:List (List PV)}:(qm rows).bC f=some (qm rows):=by cases rows<;>rfl
def cA {o:Nat}{rows:List (List PV)}:L.bA o (qm rows)=true:=by cases rows<;>rfl
def dD {rows:List (List PV)}:L.flat (qm rows)=false:=by cases rows<;>rfl
def qg {rows:List (List PV)}:L.bJ (qm rows)=qm rows:=by cases rows<;>rfl
def dF {h:List Q0}{rows:List (List PV)}{ls:List L}:thawL h (qm rows::ls)=((qm rows::(thawL h ls).1),(thawL h ls).2):=by cases rows<;>rfl
def eV :cz []=[]:=rfl
def dV {p:PV}{ls:List L}:cz (.pv p::ls)=cz ls:=rfl
def dC {ls:List L}:cz (.nil::ls)=cz ls:=rfl
def dz {o:Nat}{ls:List L}:cz (.arr o::ls)=o::cz ls:=rfl
def dA {rows:List (List PV)}{ls:List L}:cz (qm rows::ls)=cz ls:=by cases rows<;>rfl
def Kn.q (f:List Nat){t t':List V}{h h':List Q0}(ho:dE f h' f h:=by simp[cY,cW,cX,it,dI,dj,dQ,cZ,fK,ed,dE,ew,L.bC,cO])(ht:dj f t t':=by simp[cY,cW,cX,it,dI,dj,dQ,cZ,fK,ed,dE,ew,L.bC,cO])(nd:f.Nodup:=by decide):Kn ⟨t,h⟩ ⟨t',h'⟩:=Kn.of f nd ho ht
def iE :List Q0->Nat->List Nat
 |[],_=>[]
 |_::r,k=>k::iE r (k+1)
def UZ :∀{h:List Q0}{k x:Nat},x∈iE h k->k<=x
 |_::_,_,_,h=>by rcases ZF.1 h with rfl|h;exact Zi _;have:=UZ h;omega
def Kz :∀(h:List Q0)(k:Nat),(iE h k).Nodup
 |[],_=>QP
 |_::r,k=>Yn.2 ⟨fun h=>by have:=UZ h;omega,Kz r (k+1)⟩
def fI {t t':List V}{h h':List Q0}(hh:dE (iE h 0) h' (iE h 0) h/\ dj (iE h 0) t t'):Kn ⟨t,h⟩ ⟨t',h'⟩:=Kn.of _ (Kz h 0) hh.1 hh.2
def gA {p:PV}:L.ow (.pv p)= .pv p:=rfl
def fk :L.ow .nil= .nil:=rfl
def fm {z:Nat}{rows:List (List PV)}:L.ow (.own z rows)= .own z rows:=rfl
def eB {z:Nat}{rows:List (List PV)}:L.ow (.down z rows)= .own z rows:=rfl
def gz {z:Nat}{rows:List (List PV)}:L.ow (nd z rows)=oW z rows:=by cases rows<;>rfl
def eC {z:Nat}{rows:List (List PV)}:L.ow (oW z rows)=oW z rows:=by cases rows<;>rfl
def fj {rows:List (List PV)}:L.ow (qm rows)=qm rows:=by cases rows<;>rfl
def jK (z:Nat)(rows:List (List PV)):(rows=[]/\ nd z rows= .nil/\ oW z rows= .nil) \/(rows≠[]/\ nd z rows= .down z rows/\ oW z rows= .own z rows):=by
 cases rows with
 |nil=>exact .inl ⟨rfl,rfl,rfl⟩
 |cons r rs=>exact .inr ⟨by simp,rfl,rfl⟩
abbrev Y7.v (x:Y7):V:= .agg [.pv (.int .i64 x.aX), .pv (.int .i64 x.n), .pv (.str x.ad)]
abbrev Q8.v (x:Q8):V:= .agg [.pv (.str x.aG), .pv (.int .i64 x.n)]
abbrev X6.v (x:X6):V:= .agg [.pv (.lst (x.fs.map Q8.e))]
abbrev Q2.v (x:Q2):V:= .agg [.pv (.int .i64 x.aZ.aX), .pv (.int .i64 x.aZ.n), .pv (.str x.aZ.ad), .pv (.lst (x.au.fs.map Q8.e))]
abbrev Q5.v (x:Q5):V:= .agg [.pv (.str x.aG), .pv (.lst (x.a1.map Q2.e)), .pv (.int .i64 x.aS)]
abbrev Q4.v (x:Q4):V:= .agg [.pv (.int .i64 x.aY), .pv (.int .i64 x.an), .pv (.int .i64 x.aZ.aX), .pv (.int .i64 x.aZ.n), .pv (.str x.aZ.ad), .pv (.str x.aU), .pv (.int .i64 x.n)]
abbrev Q7.v (x:Q7):V:= .agg [.pv (.int .i64 x.aY), .pv (.int .i64 x.an)]
abbrev Q3.v (x:Q3):V:= .agg [.pv (.str x.aF.aG), .pv (.lst (x.aF.a1.map Q2.e)), .pv (.int .i64 x.aF.aS), .pv (.lst (x.a7.map Q7.e)), .pv (.lst (x.aD.map Q4.e))]
abbrev Y0.v (x:Y0):V:= .agg [.pv (.int .i64 x.aY), .pv (.int .i64 x.ag), .pv (.lst (x.aA.map Q4.e))]
abbrev Z0.v (x:Z0):V:= .agg [.pv (.int .i64 x.a6.aY), .pv (.int .i64 x.a6.ag), .pv (.lst (x.a6.aA.map Q4.e)), .pv (.int .i64 x.aT), .pv (.int .i64 x.ae)]
abbrev X7.v (x:X7):V:= .agg [.pv (.str x.aB.aG), .pv (.lst (x.aB.a1.map Q2.e)), .pv (.int .i64 x.aB.aS), .pv (.int .i64 x.ab), .pv (.int .i64 x.aH.a6.aY), .pv (.int .i64 x.aH.a6.ag), .pv (.lst (x.aH.a6.aA.map Q4.e)), .pv (.int .i64 x.aH.aT), .pv (.int .i64 x.aH.ae)]
abbrev Y5.v (x:Y5):V:= .agg [.pv (.int .i64 x.b3), .pv (.int .i64 x.ay), .pv (.int .i64 x.aC), .pv (.lst (cC x.body)), .pv (.bool x.b2)]
abbrev X3.v (x:X3):V:= .agg [.pv (.str x.aP), .pv (.str x.al), .pv (.int .i64 x.ao.b3), .pv (.int .i64 x.ao.ay), .pv (.int .i64 x.ao.aC), .pv (.lst (cC x.ao.body)), .pv (.bool x.ao.b2)]
abbrev X1.v (x:X1):V:= .agg [.pv (.int .i64 x.aC), .pv (.lst (x.a8.map X3.e))]
abbrev Y6.v (x:Y6):V:= .agg [.pv (.lst (x.a3.map X1.e))]
abbrev Y1.v (x:Y1):V:= .agg [.pv (.str x.aP), .pv (.int .i64 x.aV), .pv (.int .i64 x.ah), .pv (.int .i64 x.ak)]
abbrev Y4.v (x:Y4):V:= .agg [.pv (.str x.al), .pv (.int .i64 x.aC)]
abbrev Y8.v (x:Y8):V:= .agg [.pv (.int .i64 x.aX), .pv (.int .i64 x.r), .pv (.int .i64 x.n), .pv (.str x.ad)]
abbrev Z4.v (x:Z4):V:= .agg [.pv (.lst (x.am.map Y8.e)), .pv (.int .i64 x.pc), .pv (.lst (x.az.map AC)), .pv (.int .i64 x.b1), .pv (.bool x.b4), .pv (.bool x.ae)]
abbrev X8.v (x:X8):V:= .agg [.pv (.int .i64 x.id), .pv (.str x.aP), .pv (.str x.av), .pv (.int .i64 x.aC), .pv (.lst (x.ai.map Y4.e)), .pv (.lst (x.aR.am.map Y8.e)), .pv (.int .i64 x.aR.pc), .pv (.lst (x.aR.az.map AC)), .pv (.int .i64 x.aR.b1), .pv (.bool x.aR.b4), .pv (.bool x.aR.ae)]
abbrev Q9.v (x:Q9):V:= .agg [.pv (.str x.aF), .pv (.str x.aU)]
abbrev Y2.v (x:Y2):V:= .agg [.pv (.str x.aG), .pv (.int .i64 x.aC), .pv (.lst (x.a9.map Q5.e)), .pv (.lst (x.aE.map Q9.e))]
abbrev Z8.v (x:Z8):V:= .agg [.pv (.str x.aB.aG), .pv (.int .i64 x.aB.aC), .pv (.lst (x.aB.a9.map Q5.e)), .pv (.lst (x.aB.aE.map Q9.e)), .pv (.lst (cC x.aw)), .pv (.int .i64 x.aq)]
abbrev Q1.v (x:Q1):V:= .agg [.pv (.str x.aP), .pv (.str x.av), .pv (.str x.ar.aP), .pv (.int .i64 x.ar.aV), .pv (.int .i64 x.ar.ah), .pv (.int .i64 x.ar.ak), .pv (.lst (x.a3.a3.map X1.e)), .pv (.str x.aM.aB.aG), .pv (.int .i64 x.aM.aB.aC), .pv (.lst (x.aM.aB.a9.map Q5.e)), .pv (.lst (x.aM.aB.aE.map Q9.e)), .pv (.lst (cC x.aM.aw)), .pv (.int .i64 x.aM.aq), .pv (.str x.a4.aB.aG), .pv (.lst (x.a4.aB.a1.map Q2.e)), .pv (.int .i64 x.a4.aB.aS), .pv (.int .i64 x.a4.ab), .pv (.int .i64 x.a4.aH.a6.aY), .pv (.int .i64 x.a4.aH.a6.ag), .pv (.lst (x.a4.aH.a6.aA.map Q4.e)), .pv (.int .i64 x.a4.aH.aT), .pv (.int .i64 x.a4.aH.ae), .pv (.int .i64 x.aa), .pv (.bool x.af)]
abbrev Z5.v (x:Z5):V:= .agg [.pv (.lst (x.a0.map Q1.e))]
abbrev X5.v (x:X5):V:= .agg [.pv (.str x.aG), .pv (.int .i64 x.b5), .pv (.bool x.ax), .pv (.bool x.b7)]
abbrev Y9.v (x:Y9):V:= .agg [.pv (.lst (x.aJ.map X5.e))]
abbrev X9.v (x:X9):V:= .agg [.pv (.int .i64 x.to), .pv (.int .i64 x.b6), .pv (.int .i64 x.n)]
abbrev Z3.v (x:Z3):V:= .agg [.pv (.lst (x.aW.map X9.e))]
abbrev X4.v (x:X4):V:= .agg [.pv (.str x.aG), .pv (.int .i64 x.aC), .pv (.lst (x.ap.map zz)), .pv (.bool x.ax)]
abbrev X0.v (x:X0):V:= .agg [.pv (.int .i64 x.aj), .pv (.bool x.aN), .pv (.int .i64 x.aQ), .pv (.lst (x.a2.a0.map Q1.e)), .pv (.lst (x.aL.map X8.e)), .pv (.int .i64 x.aI), .pv (.lst (x.aJ.aJ.map X5.e)), .pv (.lst (x.aO.aW.map X9.e)), .pv (.lst (x.aK.map X4.e)), .pv (.lst (x.a5.map Q3.e))]
def dZ (a b:Int):Bool:=decide (a<b)
def leI (a b:Int):decide (a<=b)= !(dZ b a):=by unfold dZ;by_cases h:a<=b<;>simp[h]<;>omega
def ji {a b:Int}(h:a<b):dZ a b=true:=decide_eq_true h
def iN {a b:Int}(h:b<=a):dZ a b=false:=decide_eq_false (by omega)
def vj :∀(a b:List UInt8),(Op.bytesLess a b||a==b)= !(Op.bytesLess b a)
 |[],[]=>rfl
 |[],_::_=>rfl
 |_::_,[]=>rfl
 |a::xz,b::bs=>by
  have ih:=vj xz bs;simp only[Op.bytesLess];by_cases h1:a<b;have h2:¬b<a:=fun h=>absurd (UInt8.lt_trans h1 h) (UInt8.lt_irrefl _);have h3:¬b=a:=fun h=>by subst h;exact absurd h1 (UInt8.lt_irrefl _)
  simp[h1,h2,h3];by_cases h2:b<a;have h3:¬a=b:=fun h=>by subst h;exact absurd h2 (UInt8.lt_irrefl _)
  simp[h1,h2,h3];obtain rfl:a=b:=UInt8.le_antisymm (UInt8.not_lt.1 h2) (UInt8.not_lt.1 h1);simpa[UInt8.lt_irrefl]using ih
def je (op:BinOp)(k:IntKind)(a b:Int):Option V:=
 match op with
 | .add=>some (ce k (k.wrap (a+b)))
 | .sub=>some (ce k (k.wrap (a-b)))
 | .mul=>some (ce k (k.wrap (a*b)))
 | .quo=>if b=0 then none else some (ce k (k.wrap (a.tdiv b)))
 | .rem=>if b=0 then none else some (ce k (a.tmod b))
 | .and=>some (ce k (k.wrap ((BitVec.ofInt k.bits a&&&BitVec.ofInt k.bits b).toNat)))
 | .or=>some (ce k (k.wrap ((BitVec.ofInt k.bits a|||BitVec.ofInt k.bits b).toNat)))
 | .eql=>some (cK (a==b))
 | .neq=>some (cK (!(a==b)))
 | .lss=>some (cK (dZ a b))
 | .leq=>some (cK (!(dZ b a)))
 | .gtr=>some (cK (dZ b a))
 | .geq=>some (cK (!(dZ a b)))
 |_=>none
def ez (op:BinOp)(k:IntKind)(a b:Int):ff op k a b=je op k a b:=by cases op<;>simp only[ff,je,leI]<;>rfl
def jf (op:BinOp)(a b:List UInt8):Option V:=
 match op with
 | .add=>if a.length+b.length<=9223372036854775807 then some (fY (a++b))else none
 | .eql=>some (cK (a==b))
 | .neq=>some (cK (!(a==b)))
 | .lss=>some (cK (Op.bytesLess a b))
 | .leq=>some (cK (!(Op.bytesLess b a)))
 | .gtr=>some (cK (Op.bytesLess b a))
 | .geq=>some (cK (!(Op.bytesLess a b)))
 |_=>none
def eA (op:BinOp)(a b:List UInt8):mA op a b=jf op a b:=by cases op<;>simp only[mA,jf,vj]<;>simp
def da {n k:Nat}(hn:n<=maxLen)(hk:k<n):IntKind.i64.wrap ((k:Int)+1)=(k:Int)+1:=by unfold maxLen at hn;rw[IntKind.wrap_i64];omega
def dw {n k:Nat}(h:k<n):dZ (k:Int) (n:Int)=true:=ji (by omega)
def gy (n:Nat):dZ (n:Int) (n:Int)=false:=iN (Int.le_refl _)
def AQ {n k:Nat}(hn:n<=maxLen)(hk:k<n):(dZ 0 (k:Int)=true->IntKind.i64.wrap ((k:Int)-1)=((k-1:Nat):Int))/\ k-1<n:=by refine⟨fun h=> ?_,by omega⟩;have:=of_decide_eq_true h;unfold maxLen at hn;rw[IntKind.wrap_i64];omega
end Gi
