/- Of this proof. -/
import Derived.Test.YtlmhdkdolfpedaaGreatGpH
import Derived.Test.YtlmhdkdolfpedaaGreatGrP
import Derived.Test.YtlmhdkdolfpedaaGreatGrJ
import Derived.Test.YtlmhdkdolfpedaaGreatGkc
set_option linter.all false
namespace Gi
open Go Go.RowKit
set_option maxHeartbeats 8000000
set_option maxRecDepth 4000
attribute [local simp] start qY dX eX fi gx fh gv gC gB sE sO sF sP sG sQ sH sR sI sS sJ sU sK sV sM sW sN sX V.cells plain dM iZ isInt isStr isBool bin ez je eA jf gy un asList L.view cy V.view viewL dd cu eD dN ee comp cV dS eV dV dC dz dA cG ct df cq cF cO cA dx du cI dD dF V.flat L.flat fb ft dK putAt thaw thawL thawT V.ow gA fk fm eB gz eC fj freezeVs freezeLs freezeL V.mut L.mut cN fI iE dj dQ cZ fK ed dE ew L.bC cT fA ep fD ej eG wp_seq wp_block dk fq eE dO eF wp_skip wp_exit wp_ret eJ eM eP eO eS eT eR dU cM L.bA cY cW cX fo dI storeD de hJ co eK cJ nI L.bE L.closed V.closed PV.bare PV.flat
attribute [local simp] oL
attribute [local simp] Fz
def zd {w:X0}(h:w.Ok 1048576)(s t:List UInt8)(fate:Int)(hf:(!(jh w)||(dZ (fO (yE s t) w.a2.a0) 0||dZ (iR s) 0))=true):cf Ph cL 629 [w.v,fY s,fY t,ce .i64 fate]=some (.b8 [(true,wNS w w.a2.a0 w.a5),(false,[.pv (.int .i64 0)])]):=by have a8:w.a2.a0.length<=maxLen:=Zc h.2.2.1.1 (by unfold maxLen;omega);have e1:=kV (Zi 1048576) h;have e2:=km a8 s t;have e3:=ko s;have e4:=mL h;have N0:=fJ 24 (w.a2.a0.map Q1.e);have N1:=fJ 4 (w.aK.map X4.e);have N2:=fJ 5 (w.a5.map Q3.e);simp only[wNS,X0.v]at e4⊢;clear h a8;generalize fO (yE s t) w.a2.a0=k at*;generalize iR s=i at*;generalize nd 24 (w.a2.a0.map Q1.e)=n0 at*;generalize nd 4 (w.aK.map X4.e)=n1 at*;generalize nd 5 (w.a5.map Q3.e)=n2 at*;generalize jh w=b1 at*;generalize hk:dZ k 0=b2 at*;generalize hi:dZ i 0=b3 at*;cases b1;clear hf hk hi;rcases N0 with⟨-,rfl⟩|⟨-,rfl⟩<;>rcases N1 with⟨-,rfl⟩|⟨-,rfl⟩<;>rcases N2 with⟨-,rfl⟩|⟨-,rfl⟩<;>(refine ca rfl ?_;simp(maxSteps:=9^9) [eW,e1,e2,e3,e4]);cases b2;cases b3;simp at hf;clear hf;rcases N0 with⟨-,rfl⟩|⟨-,rfl⟩<;>rcases N1 with⟨-,rfl⟩|⟨-,rfl⟩<;>rcases N2 with⟨-,rfl⟩|⟨-,rfl⟩<;>(refine ca rfl ?_;simp(maxSteps:=9^9) [eW,e1,e2,e3,e4,hk,hi]);clear hf hi;rcases N0 with⟨-,rfl⟩|⟨-,rfl⟩<;>rcases N1 with⟨-,rfl⟩|⟨-,rfl⟩<;>rcases N2 with⟨-,rfl⟩|⟨-,rfl⟩<;>(refine ca rfl ?_;simp(maxSteps:=9^9) [eW,e1,e2,e3,e4,hk])
def BZ {w:X0}(h:w.Ok 1048576)(hc:jh w=true->∀v∈w.a5,v.aD.length+2<=1048576)(s t:List UInt8)(fate:Int):cf Ph cL 629 [w.v,fY s,fY t,ce .i64 fate]=some (.b8 [(true,wNS w (At w s t fate).1 (At w s t fate).2.1),(false,[.pv (.int .i64 (At w s t fate).2.2)])]):=by
 rcases zA w s t fate with⟨hf,q⟩|⟨k,hk,i,hi,q1,q2,c1,q⟩;rw[q];exact zd h s t fate hf;have a8:w.a2.a0.length<=maxLen:=Zc h.2.2.1.1 (by unfold maxLen;omega);have e1:=kV (Zi 1048576) h;have e2:=km a8 s t;have e3:=ko s;have e4:=mL h;rw[q];clear q;have lk:dZ (k:Int) 0=false:=iN (by omega);have li:dZ (i:Int) 0=false:=iN (by omega);have hx:=Q1.e.eq_1 w.a2.a0[k];have hv:=Q3.e.eq_1 w.a5[i];have aa:=h.2.2.1.2 _ (Zf hk);have ai:=h.2.2.2.2.2.2.2.2.2 _ (Zf hi);have ar:=aa.2.2.2.2.2.1.2.2;have av:=hc c1 _ (Zf hi);have e5:=Fc (by omega) (Zi 1048576) ar ai av w.aj (De w fate);have e6:=oU (Zi 1048576) aa.2.2.2.2.2.1;rw[q1]at e2;rw[q2]at e3;rw[c1]at e4;have ne:∀(z:Nat)(l:List (List PV)),0<l.length->nd z l= .down z l:=fun z l hl=>by
  cases l with
  |nil=>simp at hl
  |cons x xs=>rfl
 have n8:=ne 4 (w.aK.map X4.e) (by have:=(sh c1).2.1;simp;omega);have n3:=ne 24 (w.a2.a0.map Q1.e) (by simp;omega);have n9:=ne 5 (w.a5.map Q3.e) (by simp;omega);have d1:=abo hk (Bl w.a2.a0[k].a4.aH w.a5[i] w.aj (De w fate)).1;have d2:=abj (l:=w.a5) (i:=i) (Bl w.a2.a0[k].a4.aH w.a5[i] w.aj (De w fate)).2.1;have m3:=ne 24 ((w.a2.a0.set k (Bm w.a2.a0[k] (Bl w.a2.a0[k].a4.aH w.a5[i] w.aj (De w fate)).1)).map Q1.e) (by simp;omega);have m9:=ne 5 ((w.a5.set i (Bl w.a2.a0[k].a4.aH w.a5[i] w.aj (De w fate)).2.1).map Q3.e) (by simp;omega);have W0:=ad6 (Bl w.a2.a0[k].a4.aH w.a5[i] w.aj (De w fate)).2.2 ((Bl w.a2.a0[k].a4.aH w.a5[i] w.aj (De w fate)).1.a6.aA.map Q4.e);have M0:=fJ 4 (w.a2.a0[k].a4.aB.a1.map Q2.e);have M1:=fJ 4 ((Bl w.a2.a0[k].a4.aH w.a5[i] w.aj (De w fate)).2.1.aF.a1.map Q2.e);simp only[X0.v]at e4;simp only[ssD,syD,FI]at e5;rw[n3,n8,n9]at e1;simp only[wNS];rw[m3,m9,n8,d1,d2];clear ne m3 m9 d1 d2 n3 n8 n9 a8 aa ai ar av;generalize Bl w.a2.a0[k].a4.aH w.a5[i] w.aj (De w fate)=p at*;obtain⟨y,v,n⟩:=p;simp only at M1 W0 e5⊢;unfold De at e5;have hb:(w.a2.a0.map Q1.e)[k]? =some (w.a2.a0[k]).e:=by rw[Zp,Zk hk];rfl
 have hs:(w.a5.map Q3.e)[i]? =some (w.a5[i]).e:=by rw[Zp,Zk hi];rfl
 rw[hx]at hb;rw[hv]at hs;have hW:=Bq y.a6.aA;have aw:=fun wo ad=>acL hb hs rfl rfl e1 (wo:=wo) ad hW (nm:=w.a2.a0[k].a4.aB.aG) (au:=w.a2.a0[k].a4.aB.aS) (sn:=w.a2.a0[k].a4.ab) (od:=y.a6.aY) (ox:=y.a6.ag) (tr:=y.aT) (wt:=y.ae) (vn:=v.aF.aG) (va:=v.aF.aS) (W0:=w.a2.a0[k].a4.aH.a6.aA.map Q4.e) (A1:=v.a7.map Q7.e) (C1:=v.aD.map Q4.e);have ax:=fun wo ad=>acM hb hs rfl rfl e1 (wo:=wo) ad hW (nm:=w.a2.a0[k].a4.aB.aG) (au:=w.a2.a0[k].a4.aB.aS) (sn:=w.a2.a0[k].a4.ab) (od:=y.a6.aY) (ox:=y.a6.ag) (tr:=y.aT) (wt:=y.ae) (vn:=v.aF.aG) (va:=v.aF.aS) (W0:=w.a2.a0[k].a4.aH.a6.aA.map Q4.e) (A1:=v.a7.map Q7.e) (C1:=v.aD.map Q4.e) (I1:=v.aF.a1.map Q2.e);have ay:=fun wo ad=>acN hb hs rfl rfl e1 (wo:=wo) ad hW (nm:=w.a2.a0[k].a4.aB.aG) (au:=w.a2.a0[k].a4.aB.aS) (sn:=w.a2.a0[k].a4.ab) (od:=y.a6.aY) (ox:=y.a6.ag) (tr:=y.aT) (wt:=y.ae) (vn:=v.aF.aG) (va:=v.aF.aS) (W0:=w.a2.a0[k].a4.aH.a6.aA.map Q4.e) (A1:=v.a7.map Q7.e) (C1:=v.aD.map Q4.e) (I0:=w.a2.a0[k].a4.aB.a1.map Q2.e);have az:=fun wo ad=>acO hb hs rfl rfl e1 (wo:=wo) ad hW (nm:=w.a2.a0[k].a4.aB.aG) (au:=w.a2.a0[k].a4.aB.aS) (sn:=w.a2.a0[k].a4.ab) (od:=y.a6.aY) (ox:=y.a6.ag) (tr:=y.aT) (wt:=y.ae) (vn:=v.aF.aG) (va:=v.aF.aS) (W0:=w.a2.a0[k].a4.aH.a6.aA.map Q4.e) (A1:=v.a7.map Q7.e) (C1:=v.aD.map Q4.e) (I0:=w.a2.a0[k].a4.aB.a1.map Q2.e) (I1:=v.aF.a1.map Q2.e);generalize nd 4 (w.a2.a0[k].a4.aB.a1.map Q2.e)=n0 at*;generalize nd 4 (v.aF.a1.map Q2.e)=n1 at*;generalize wrL n (y.a6.aA.map Q4.e)=n2 at*;rcases M0 with⟨z0,rfl⟩|⟨z0,rfl⟩;rcases M1 with⟨z1,rfl⟩|⟨z1,rfl⟩;rcases W0.imp (fun h=>And.intro h (aw _ (.inl rfl))) (fun h=>And.intro h (aw _ (.inr rfl)))with⟨rfl,e0,hh,f1,f2,hE,hC,hD,hL,g3,ga,gb,gc,gd,ge,gf⟩|⟨rfl,e0,hh,f1,f2,hE,hC,hD,hL,g3,ga,gb,gc,gd,ge,gf⟩<;>(simp only[WW,wL,yL,Ss,sL,dL,WU,Zh,Zj,Zw,Nat.reduceAdd]at hE hC hL g3 ga gb gc gd ge gf;obtain⟨hn,g4⟩:=Zb.1 g3;simp only[z0,z1];cases c2:w.aN<;>rw[c2]at e1 e4 e5 hE hC hL<;>simp only[cond_true,cond_false]at e5<;>(refine ca rfl ?_;simp(maxSteps:=9^9) [eW,e1,e2,e3,e4,c2,e5,e6,lk,li,hk,hi,hx,hv,Bq,hE,hC,hD,hL,g3,g4,ga,gb,gc,gd,ge,gf,hn,Qq]));rcases W0.imp (fun h=>And.intro h (ax _ (.inl rfl))) (fun h=>And.intro h (ax _ (.inr rfl)))with⟨rfl,e0,hh,f1,f2,hE,hC,hD,hL,g3,ga,gb,gc,gd,ge,gf⟩|⟨rfl,e0,hh,f1,f2,hE,hC,hD,hL,g3,ga,gb,gc,gd,ge,gf⟩<;>(simp only[WW,wL,yL,Ss,sL,dL,WU,Zh,Zj,Zw,Nat.reduceAdd]at hE hC hL g3 ga gb gc gd ge gf;obtain⟨hn,g4⟩:=Zb.1 g3;simp only[z0];cases c2:w.aN<;>rw[c2]at e1 e4 e5 hE hC hL<;>simp only[cond_true,cond_false]at e5<;>(refine ca rfl ?_;simp(maxSteps:=9^9) [eW,e1,e2,e3,e4,c2,e5,e6,lk,li,hk,hi,hx,hv,Bq,hE,hC,hD,hL,g3,g4,ga,gb,gc,gd,ge,gf,hn,Qq]));rcases M1 with⟨z1,rfl⟩|⟨z1,rfl⟩;rcases W0.imp (fun h=>And.intro h (ay _ (.inl rfl))) (fun h=>And.intro h (ay _ (.inr rfl)))with⟨rfl,e0,hh,f1,f2,hE,hC,hD,hL,g3,ga,gb,gc,gd,ge,gf⟩|⟨rfl,e0,hh,f1,f2,hE,hC,hD,hL,g3,ga,gb,gc,gd,ge,gf⟩<;>(simp only[WW,wL,yL,Ss,sL,dL,WU,Zh,Zj,Zw,Nat.reduceAdd]at hE hC hL g3 ga gb gc gd ge gf;obtain⟨hn,g4⟩:=Zb.1 g3;simp only[z1];cases c2:w.aN<;>rw[c2]at e1 e4 e5 hE hC hL<;>simp only[cond_true,cond_false]at e5<;>(refine ca rfl ?_;simp(maxSteps:=9^9) [eW,e1,e2,e3,e4,c2,e5,e6,lk,li,hk,hi,hx,hv,Bq,hE,hC,hD,hL,g3,g4,ga,gb,gc,gd,ge,gf,hn,Qq]));rcases W0.imp (fun h=>And.intro h (az _ (.inl rfl))) (fun h=>And.intro h (az _ (.inr rfl)))with⟨rfl,e0,hh,f1,f2,hE,hC,hD,hL,g3,ga,gb,gc,gd,ge,gf⟩|⟨rfl,e0,hh,f1,f2,hE,hC,hD,hL,g3,ga,gb,gc,gd,ge,gf⟩<;>(simp only[WW,wL,yL,Ss,sL,dL,WU,Zh,Zj,Zw,Nat.reduceAdd]at hE hC hL g3 ga gb gc gd ge gf;obtain⟨hn,g4⟩:=Zb.1 g3;cases c2:w.aN<;>rw[c2]at e1 e4 e5 hE hC hL<;>simp only[cond_true,cond_false]at e5<;>(refine ca rfl ?_;simp(maxSteps:=9^9) [eW,e1,e2,e3,e4,c2,e5,e6,lk,li,hk,hi,hx,hv,Bq,hE,hC,hD,hL,g3,g4,ga,gb,gc,gd,ge,gf,hn,Qq]))
end Gi
namespace Gi
open Go Go.RowKit
set_option maxHeartbeats 8000000
set_option maxRecDepth 4000
attribute [local simp] start qY dX eX fi gx fh gv gC gB sE sO sF sP sG sQ sH sR sI sS sJ sU sK sV sM sW sN sX V.cells plain dM iZ isInt isStr isBool bin ez je eA jf gy un asList L.view cy V.view viewL dd cu eD dN ee comp cV dS eV dV dC dz dA cG ct df cq cF cO cA dx du cI dD dF V.flat L.flat fb ft dK putAt thaw thawL thawT V.ow gA fk fm eB gz eC fj freezeVs freezeLs freezeL V.mut L.mut cN fI iE dj dQ cZ fK ed dE ew L.bC cT fA ep fD ej eG wp_seq wp_block dk fq eE dO eF wp_skip wp_exit wp_ret eJ eM eP eO eS eT eR dU cM L.bA cY cW cX fo dI storeD de hJ co eK cJ nI L.bE L.closed V.closed PV.bare PV.flat
attribute [local simp] Fz
def BW {w:X0}(h:w.Ok 1048576)(s t:List UInt8):cf Ph cL 627 [w.v,fY s,fY t]=some (.b8 [(true,wN w (Sr w s t).1),(false,[.pv (.int .i64 (Sr w s t).2)])]):=by
 have a8:w.a2.a0.length<=maxLen:=Zc h.2.2.1.1 (by unfold maxLen;omega);have e1:=kV (Zi 1048576) h;have e2:=km a8 s t;have e3:=ko s;have e4:=mL h;have N0:=fJ 24 (w.a2.a0.map Q1.e);have N1:=fJ 4 (w.aK.map X4.e);have N2:=fJ 5 (w.a5.map Q3.e);rcases DC w s t with⟨hf,q⟩|⟨k,hk,i,hi,q1,q2,c1,c2,hb,q⟩;rw[q];exact za h s t hf;rw[q];clear q;rw[q1]at e2;rw[q2]at e3;rw[c1]at e4;have lk:dZ (k:Int) 0=false:=iN (by omega);have li:dZ (i:Int) 0=false:=iN (by omega);have hx:=Q1.e.eq_1 w.a2.a0[k];have hv:=Q3.e.eq_1 w.a5[i];have aa:=h.2.2.1.2 _ (Zf hk);have ai:=h.2.2.2.2.2.2.2.2.2 _ (Zf hi);have e5:=AH aa.2.2.2.2.2.1 ai;have aX:=JO aa.2.2.2.2.2.1 ai;have e6:=xQ aa aX;have d0:nd 24 (w.a2.a0.map Q1.e)= .down 24 (w.a2.a0.map Q1.e):=by rcases N0 with⟨z,_⟩|⟨_,z⟩;have:=congrArg List.length z;simp at this;simp[this]at hk;exact z
 have d2:nd 5 (w.a5.map Q3.e)= .down 5 (w.a5.map Q3.e):=by rcases N2 with⟨z,_⟩|⟨_,z⟩;have:=congrArg List.length z;simp at this;simp[this]at hi;exact z
 have d1:nd 4 (w.aK.map X4.e)= .down 4 (w.aK.map X4.e):=by rcases N1 with⟨z,_⟩|⟨_,z⟩;have:=congrArg List.length z;have h3:=(sh c1).2.1;simp at this;simp[this]at h3;exact z
 clear N0 N1 N2;have ak:∀b:Q1,nd 24 ((w.a2.a0.set k b).map Q1.e)= .down 24 ((w.a2.a0.map Q1.e).set k b.e):=fun b=>by
  rw[YJ];cases hw:w.a2.a0.map Q1.e with
  |nil=>have:=congrArg List.length hw;simp at this;simp[this]at hk
  |cons x xs=>cases k<;>rfl
 simp only[d0,d1,d2,c2]at e1;simp only[X0.v,c2]at e4;generalize mN w.a2.a0[k].a4 w.a5[i]=p at*;generalize yG w.a2.a0[k] p.1=r at*;obtain⟨r1,r2⟩:=r;cases r2;simp only[cond_false,wN,d0,d1,d2];simp only[bkN]at e6;have M0:=fJ 2 (r1.a3.a3.map X1.e);have M1:=fJ 3 (r1.aM.aB.a9.map Q5.e);have M2:=fJ 4 (r1.a4.aB.a1.map Q2.e);generalize nd 2 (r1.a3.a3.map X1.e)=n0 at*;generalize nd 3 (r1.aM.aB.a9.map Q5.e)=n1 at*;generalize nd 4 (r1.a4.aB.a1.map Q2.e)=n2 at*;rcases M0 with⟨-,rfl⟩|⟨-,rfl⟩<;>rcases M1 with⟨-,rfl⟩|⟨-,rfl⟩<;>rcases M2 with⟨-,rfl⟩|⟨-,rfl⟩<;>(refine ca rfl ?_;simp(maxSteps:=9^9) [fx,e1,e2,e3,e4,c2,e5,e6,lk,li,hk,hi,hx,hv, ↓cI, ↓cF, ↓ct, ↓cG, ↓cq, ↓df, ↓cA, ↓qg])
 ·simp only[cond_true,wN,d1,d2,ak];simp only[bkN]at e6;have aZ:=Q1.e.eq_1 r1;simp only[aZ];have M0:=fJ 2 (r1.a3.a3.map X1.e);have M1:=fJ 3 (r1.aM.aB.a9.map Q5.e);have M2:=fJ 4 (r1.a4.aB.a1.map Q2.e);generalize nd 2 (r1.a3.a3.map X1.e)=n0 at*;generalize nd 3 (r1.aM.aB.a9.map Q5.e)=n1 at*;generalize nd 4 (r1.a4.aB.a1.map Q2.e)=n2 at*;rcases M0 with⟨z0,rfl⟩|⟨z0,rfl⟩<;>rcases M1 with⟨z1,rfl⟩|⟨z1,rfl⟩<;>rcases M2 with⟨z2,rfl⟩|⟨z2,rfl⟩<;>((try simp only[z0,z1,z2]at e6⊢);refine ca rfl ?_;simp(maxSteps:=9^9) [fx,e1,e2,e3,e4,c2,e5,e6,lk,li,hk,hi,hx,hv, ↓cI, ↓cF, ↓ct, ↓cG, ↓cq, ↓df, ↓cA, ↓qg,storeD,de,L.bE,cz])
end Gi
namespace Gi
open Go Go.RowKit
set_option maxHeartbeats 8000000
set_option maxRecDepth 4000
attribute [local simp] start qY dX eX fi gx fh gv gC gB sE sO sF sP sG sQ sH sR sI sS sJ sU sK sV sM sW sN sX V.cells plain dM iZ isInt isStr isBool bin ez je eA jf gy un asList L.view cy V.view viewL dd cu eD dN ee comp cV dS eV dV dC dz dA cG ct df cq cF cO cA dx du cI dD dF V.flat L.flat fb ft dK putAt thaw thawL thawT V.ow gA fk fm eB gz eC fj freezeVs freezeLs freezeL V.mut L.mut cN fI iE dj dQ cZ fK ed dE ew L.bC cT fA ep fD ej eG wp_seq wp_block dk fq eE dO eF wp_skip wp_exit wp_ret eJ eM eP eO eS eT eR dU cM L.bA cY cW cX fo dI storeD de hJ co eK cJ nI L.bE L.closed V.closed PV.bare PV.flat
def dB (b:Bool)(z:Nat)(l:List (List PV)):L:=bif b then .down z l else .nil
def oB (b:Bool)(z:Nat)(l:List (List PV)):List Q0:=bif b then [.b9 z l]else []
def cB (b:Bool)(i:Nat):L:=bif b then .arr i else .nil
def Ti {α:Type}(e:α->List PV)(z:Nat)(m:List α):∃b,(∀l:List α,l.length=m.length->nd z (l.map e)=dB b z (l.map e))/\ ∀l:List α,l.length=m.length->b=false->l.map e=[]:=by
 cases m with
 |nil=>exact⟨false,fun l h=>by rw[Yl h];rfl,fun l h _=>by rw[Yl h];rfl⟩
 |cons x xs=>
  refine⟨true,fun l h=> ?_,fun l h q=>by cases q⟩;cases l with
  |nil=>cases h
  |cons y ys=>rfl
def ndN (z:Nat):nd z []= .nil:=rfl
def hX (w u:X0)(b3 b8 b9:Bool):List Q0:= .box (w.e.map .pv):: .box [.pv (.int .i64 0), .pv (.bool false), .pv (.int .i64 0), .nil, .nil, .pv (.int .i64 0), .nil, .nil, .nil, .nil]::(oB b3 24 (u.a2.a0.map Q1.e)++ .b9 11 (u.aL.map X8.e):: .b9 4 (u.aJ.aJ.map X5.e):: .b9 3 (u.aO.aW.map X9.e)::(oB b8 4 (u.aK.map X4.e)++(oB b9 5 (u.a5.map Q3.e)++[.box [.pv (.int .i64 u.aj), .pv (.bool u.aN), .pv (.int .i64 u.aQ),cB b3 2, .arr (2+b3.toNat), .pv (.int .i64 u.aI), .arr (3+b3.toNat), .arr (4+b3.toNat),cB b8 (5+b3.toNat),cB b9 (5+b3.toNat+b8.toNat)]])))
def AE {w:X0}(h:w.Ok 1048576){s t:List UInt8}(hd:∀k,k<=20->DI w k (yx s t w k))(hz:sz (.lst (w.a5.map Q3.e))<=1900000):cf Ph cL 631 [w.v,fY s,fY t]=some (.agg (wNS (KL w s t) (KL w s t).a2.a0 (KL w s t).a5)):=by
 have e1:=kV (Zi 1048576) h;have step:∀k,k<20->∀u,u=yx s t w k->cf Ph cL 374 [(sy u (IntKind.i64.wrap (u.aj+64))).v]=some (cK (jh (sy u (IntKind.i64.wrap (u.aj+64)))))/\ cf Ph cL 629 [(Lt u).v,fY s,fY t,ce .i64 0]=some (.b8 [(true,wNS (Lt u) (At (Lt u) s t 0).1 (At (Lt u) s t 0).2.1),(false,[.pv (.int .i64 (At (Lt u) s t 0).2.2)])]):=fun k hk u hu=>by subst hu;have d:=hd k (by omega);refine⟨mL (D0 d.ok (OL _)),?_⟩;obtain⟨n,e,hn⟩:=Ur (yx s t w k);rw[e];exact BZ (D0 d.ok (hn d.ok.1)) (d.cj (by omega) hz n) s t 0
 have e5:=BW (hd 20 (Zi _)).ok s t;obtain⟨b3,F3,G3⟩:=Ti Q1.e 24 w.a2.a0;obtain⟨b8,F8,G8⟩:=Ti X4.e 4 w.aK;obtain⟨b9,F9,G9⟩:=Ti Q3.e 5 w.a5;rw[F3 _ rfl,F8 _ rfl,F9 _ rfl]at e1;refine ca rfl ?_;cases h3:b3<;>cases h8:b8<;>cases h9:b9<;>simp only[h3,h8,h9,dB,cond_true,cond_false]at e1 F3 F8 F9<;>simp(maxSteps:=9^9) [pK,e1];all_goals
  refine fB dG Cl.fin 20 [.f,.t,.t,.t,.f,.f,.t,.t,.t,.f,.f,.f,.f,.f,.f,.f,.f,.f,.f,.f,.f,.f,.f,.f,.f,.f,.f,.f,.f,.f,.f,.f,.f,.f,.f,.f,.f,.f,.f,.f,.f,.f] (fun k=>[(8,ce .i64 k)]) (fun k=>hX w (yx s t w k) b3 b8 b9) rfl (by simp[h3,h8,h9,hX,oB,cB,yx,X0.e]) (fun k hk=> ?_) ?_
  ·obtain⟨e2,e3⟩:=step k hk _ rfl
   obtain⟨l1,l2⟩:=M5 s t (yx s t w k)
   obtain⟨l3,l4⟩:=Bu s t w k
   have hr:=congrArg List.length (hd k (by omega)).rest.2.2.2.2.2.2
   have b0:dZ (k:Int) 20=true:=ji (by omega)
   have b4:IntKind.i64.wrap ((k:Int)+1)=(k:Int)+1:=by rw[IntKind.wrap_i64];omega
   have f3:=F3 _ (l1.trans l3)
   have f9:=F9 _ (l2.trans l4)
   have g3:=F3 _ l3
   have g8:=F8 _ hr
   have g9:=F9 _ l4
   have k3:=G3 _ l3
   have k8:=G8 _ hr
   have k9:=G9 _ l4
   simp only[yx,dsX]
   generalize yx s t w k=u at*
   rcases JA u with⟨c,e⟩|⟨c,e⟩<;>rw[e]at e3 f3 f9⊢ <;>rw[c]at e2<;>generalize At _ s t 0=p at e3 f3 f9⊢ <;>obtain⟨p1,p2,p3⟩:=p<;>simp only at f3 f9<;>simp only[wNS,f3,f9,g3,g8,g9,k3,k8,k9,h3,h8,h9,ndN,sy,LO,X0.v]at e2 e3⊢ <;>(simp(maxSteps:=9^9) [kN,e2,e3,b0,b4,h3,h8,h9,hX,oB,cB,-fI];first|(refine Kn.of [0,1,7,8,9,5] (by decide) ?_ ?_<;>simp[X0.e];done)|(refine Kn.of [0,1,8,9,10,11,6] (by decide) ?_ ?_<;>simp[X0.e];done)|(refine Kn.of [0,1,9,10,11,12,13,7] (by decide) ?_ ?_<;>simp[X0.e];done)|(refine Kn.of [0,1,10,11,12,13,14,15,8] (by decide) ?_ ?_<;>simp[X0.e];done))
  ·have b5:dZ (20:Int) 20=false:=rfl
   obtain⟨l3,l4⟩:=Bu s t w 20
   have hr:=congrArg List.length (hd 20 (Zi _)).rest.2.2.2.2.2.2
   have f4:=F3 _ ((Tn _ s t).trans l3)
   have g3:=F3 _ l3
   have g8:=F8 _ hr
   have g9:=F9 _ l4
   have k3:=G3 _ l3
   have k8:=G8 _ hr
   have k9:=G9 _ l4
   simp only[KL,LO,sy]
   generalize yx s t w 20=u at*
   generalize Sr u s t=p at*
   obtain⟨p1,p2⟩:=p
   simp only at f4
   simp only[wN,X0.v,f4,g3,g8,g9,k3,k8,k9,h3,h8,h9,ndN]at e5⊢
   simp(maxSteps:=9^9) [kN,e5,b5,X0.e,f4,g8,g9,h3,h8,h9,hX,oB,cB]
end Gi
namespace Gi
open Go Go.RowKit
set_option maxHeartbeats 8000000
set_option maxRecDepth 8000
attribute [local simp] start iI cD cj cS dy dX eX Opd.ev put V.cells plain dM iZ isInt isStr isBool bin ff un asList L.view cy V.view viewL done dd cu eY ee comp cV dS cz V.flat L.flat fb ft dK putAt freezeVs freezeLs freezeL V.mut L.mut lent Q0.bW L.bJ vk ye nM yn oV Bc PV.flat PV.bare nC Q0.zone vY thaw thawL thawT V.closed L.closed
def V4 {c0 c2 c5 d0 d2 d5 l0:Int}{c1 d1:Bool}{c3 c4 c6 c7 c8 c9 d3 d4 d6 d7 d8 d9:List (List PV)}{s t:List UInt8}(h0:dW i9 (WR c0 c1 c2 c3 c4 c5 c6 c7 c8 c9))(af:gT (WR c0 c1 c2 c3 c4 c5 c6 c7 c8 c9)<=1048576)(h1:dW i9 (WR d0 d1 d2 d3 d4 d5 d6 d7 d8 d9))(b6:gT (WR d0 d1 d2 d3 d4 d5 d6 d7 d8 d9)<=2097152)(m0:cf Ph cL 104 [.agg (WP c0 c1 c2 c3 c4 c5 c6 c7 c8 c9),ce .i64 1048576]=some (ce .i64 l0))(n0:¬l0<0)(ls:¬(1048576:Int)<s.length)(lt:¬(1048576:Int)<t.length)
 (e1:cf Ph cL 631 [.agg (WP c0 c1 c2 c3 c4 c5 c6 c7 c8 c9),fY s,fY t]=some (.agg [.pv (.int .i64 d0), .pv (.bool d1), .pv (.int .i64 d2),nd 24 d3, .down 11 d4, .pv (.int .i64 d5), .down 4 d6, .down 3 d7,nd 4 d8,nd 5 d9]))
 (e2:cf Ph cL 630 [.agg (WP c0 c1 c2 c3 c4 c5 c6 c7 c8 c9),fY s,fY t]=some (.agg [.pv (.int .i64 d0), .pv (.bool d1), .pv (.int .i64 d2),oW 24 d3, .own 11 d4, .pv (.int .i64 d5), .own 4 d6, .own 3 d7, .own 4 d8, .own 5 d9])):cf Ph cL 616 [.agg (WP c0 c1 c2 c3 c4 c5 c6 c7 c8 c9),fY s,fY t]=some (cK true):=by
 have al:cf Ph cL 106 [.agg (WP c0 c1 c2 c3 c4 c5 c6 c7 c8 c9)]=some (.agg (lc i9 (WR c0 c1 c2 c3 c4 c5 c6 c7 c8 c9))):=TY (ext:=cL) _ h0 af;have ah:(lc i9 (WR c0 c1 c2 c3 c4 c5 c6 c7 c8 c9)).map ft=WP c0 c1 c2 c3 c4 c5 c6 c7 c8 c9:=acx h0;have aC:V.closed (.agg (lc i9 (WR c0 c1 c2 c3 c4 c5 c6 c7 c8 c9)))=true:=zw h0;have an:∀hh,vY hh (.agg (lc i9 (WR c0 c1 c2 c3 c4 c5 c6 c7 c8 c9)))=(.agg [.pv (.int .i64 c0), .pv (.bool c1), .pv (.int .i64 c2), .arr hh.length, .arr (hh.length+1), .pv (.int .i64 c5), .arr (hh.length+1+1), .arr (hh.length+1+1+1), .arr (hh.length+1+1+1+1), .arr (hh.length+1+1+1+1+1)],hh++[.bB 24 c3, .bB 11 c4, .bB 4 c6, .bB 3 c7, .bB 4 c8, .bB 5 c9]):=fun hh=>We h0 hh;have aE:cf Ph cL 108 [.agg (WP c0 c1 c2 c3 c4 c5 c6 c7 c8 c9), .agg (WP c0 c1 c2 c3 c4 c5 c6 c7 c8 c9)]=some (cK true):=Ix (ext:=cL) _ h0;have aP:cf Ph cL 108 [.agg (WP d0 d1 d2 d3 d4 d5 d6 d7 d8 d9), .agg (WP d0 d1 d2 d3 d4 d5 d6 d7 d8 d9)]=some (cK true):=Ix (ext:=cL) _ h1;generalize lc i9 (WR c0 c1 c2 c3 c4 c5 c6 c7 c8 c9)=OW at al ah aC an;have cw:=Ao cH _ i9 1 h0 (by decide);have b7:=Ao cH _ i9 1 h1 (by decide);have mw:=NM (ext:=cL) _ h0 1 (by omega) (by unfold Bf;omega);have hd:=NC (ext:=cL) _ h1 1 (by omega) (by unfold Bf;omega);have aR:=qS cH (WR c0 c1 c2 c3 c4 c5 c6 c7 c8 c9) 1;have ao:=qS cH (WR d0 d1 d2 d3 d4 d5 d6 d7 d8 d9) 1;have aU:(jk cH (WR d0 d1 d2 d3 d4 d5 d6 d7 d8 d9) 1).2<=Bf:=by unfold Bf;omega
 have mg:=mkW h1 (k:=1) (by omega) aU;simp only[WR,WP,i9,OO,Wd,jk,Zt,Zy]at m0 e1 e2 al ah an aE aP mw hd aR ao⊢;have tl:fF.length=24/\ nF.length=11/\ mI.length=4/\ mJ.length=3/\ nG.length=4/\ ik.length=5:=⟨rfl,rfl,rfl,rfl,rfl,rfl⟩;simp only[tl]at mw;clear cw b7 h0 h1 af b6 aU tl;rcases Mf 24 d3 with⟨rfl,u3,v3,w3,o3⟩|⟨_,u3,v3,w3,o3⟩<;>rcases Mf 4 d8 with⟨rfl,u8,v8,w8,o8⟩|⟨_,u8,v8,w8,o8⟩<;>rcases Mf 5 d9 with⟨rfl,u9,v9,w9,o9⟩|⟨_,u9,v9,w9,o9⟩;all_goals
  simp only[u3,u8,u9]at e1
  simp only[o3]at e2
  simp only[v3,v8,v9,w3,w8,w9]at mg
  (try simp only[aco]at mg hd ao)
  have hk:=Int.not_lt.2 (Int.le_trans (by decide:(0:Int)<=1) aR)
  have ba:=Int.not_lt.2 (Int.le_trans (by decide:(0:Int)<=1) ao)
  refine jg rfl ?_
  simp[eZ,m0,n0,ls,lt,al,ah, ↓aC, ↓an,aE,aP,e1,e2,mw,mg,hd,hk,ba]
end Gi
namespace Gi
open Go Go.RowKit
set_option maxHeartbeats 1000000
set_option maxRecDepth 8000
attribute [local simp] start iI cD cj cS dy dX eX Opd.ev put V.cells plain dM iZ isInt isStr isBool bin ff un asList L.view cy V.view viewL done dd cu eY ee comp cV dS cz V.flat L.flat fb ft dK putAt freezeVs freezeLs freezeL V.mut L.mut lent Q0.bW L.bJ vk ye nM yn oV Bc PV.flat PV.bare nC Q0.zone
def Hi {r0:List PV}{s1 s2:List UInt8}(h0:dW i9 r0)(h1:qa .str (.str s1))(h2:qa .str (.str s2)):cf Ph cL 616 [.agg (r0.map .pv),fY s1,fY s2]=some (cK true):=by
 obtain⟨w,rfl,bb⟩:=X0.of (B:=gT r0) r0 h0 (Zi _);have m0:cf Ph cL 104 [.agg (WP w.aj w.aN w.aQ (w.a2.a0.map Q1.e) (w.aL.map X8.e) w.aI (w.aJ.aJ.map X5.e) (w.aO.aW.map X9.e) (w.aK.map X4.e) (w.a5.map Q3.e)),ce .i64 1048576]=some (ce .i64 (less 1048576 (gT w.e))):=TN (ext:=cL) _ h0 1048576 (by omega) (by omega);show cf Ph cL 616 [.agg (WP w.aj w.aN w.aQ (w.a2.a0.map Q1.e) (w.aL.map X8.e) w.aI (w.aJ.aJ.map X5.e) (w.aO.aW.map X9.e) (w.aK.map X4.e) (w.a5.map Q3.e)),fY s1,fY s2]=_;by_cases b1:(1048576:Int)<s1.length;refine jg rfl ?_;simp[WP,eZ,b1];by_cases b2:(1048576:Int)<s2.length;refine jg rfl ?_;simp[WP,eZ,b1,b2];generalize q0:less 1048576 (gT w.e)=l0 at m0;by_cases n0:l0<0;refine jg rfl ?_;simp only[WP]at m0;simp[WP,eZ,b1,b2,m0,n0];obtain⟨bf,bg⟩:=aaW (by omega) q0 n0;have af:gT w.e<=1048576:=by omega
 have hk:=X0.Ok.mono af bb;have aV:=h0;simp only[X0.e,i9,dW]at aV;obtain⟨g0,g1,g2,g3,g4,g5,g6,g7,g8,g9,bc⟩:=aV;have aq:sz (.lst (w.a5.map Q3.e))<=1900000:=by simp only[X0.e,gT]at af;generalize sz (.lst (w.a5.map Q3.e))=B0 at*;omega
 have di:=DI.all hk g3 g9 aq s1 s2;have e1:=AE hk di aq;have e2:=AV hk di aq;have d:=di 20 (Zi _);have sp:=adK (s:=s1) (t:=s2) d.ok d.hb;obtain⟨r1,r2,r3,r4,r5,r6,r7⟩:=d.rest;have zb:=d.zb;have zs:=d.zs;have hs:=d.hs;refine V4 (s:=s1) (t:=s2) h0 af (d0:=(KL w s1 s2).aj) (d1:=(KL w s1 s2).aN) (d2:=(KL w s1 s2).aQ) (d3:=(KL w s1 s2).a2.a0.map Q1.e) (d4:=(KL w s1 s2).aL.map X8.e) (d5:=(KL w s1 s2).aI) (d6:=(KL w s1 s2).aJ.aJ.map X5.e) (d7:=(KL w s1 s2).aO.aW.map X9.e) (d8:=(KL w s1 s2).aK.map X4.e) (d9:=(KL w s1 s2).a5.map Q3.e) ?_ ?_ m0 n0 b1 b2 e1 e2;simp only[WR,i9,dW,KL,sy,LO,r1,r2,r3,r4,r5,r6,r7];exact⟨g0,g1,g2,sp.1,g4,g5,g6,g7,g8,hs,bc⟩;have bd:=sp.2;simp only[X0.e,gT]at af;simp only[WR,gT,KL,sy,LO,r1,r2,r3,r4,r5,r6,r7];generalize sz (.lst ((Sr (yx s1 s2 w 20) s1 s2).1.map Q1.e))=A at bd⊢;generalize sz (.lst ((yx s1 s2 w 20).a5.map Q3.e))=B at zs⊢;generalize sz (.lst ((yx s1 s2 w 20).a2.a0.map Q1.e))=A1 at*;generalize sz (.lst (w.a2.a0.map Q1.e))=A0 at*;generalize sz (.lst (w.a5.map Q3.e))=B0 at*;omega
end Gi
