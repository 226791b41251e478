/- Of this proof. -/
import Derived.Test.YtlmhdkdolfpedaaGreatGrD
set_option linter.all false
namespace Gi
open Go Go.RowKit
set_option maxHeartbeats 8000000
set_option maxRecDepth 4000
attribute [local simp] start qY dX eX fi gx fh gv gC gB sE sO sF sP sG sQ sH sR sI sS sJ sU sK sV sM sW sN sX V.cells plain dM iZ isInt isStr isBool bin ez je eA jf gy un asList L.view cy V.view viewL dd cu eD dN ee comp cV dS eV dV dC dz dA cG ct df cq cF cO cA dx du cI dD dF V.flat L.flat fb ft dK putAt thaw thawL thawT V.ow gA fk fm eB gz eC fj freezeVs freezeLs freezeL V.mut L.mut cN fI iE dj dQ cZ fK ed dE ew L.bC cT fA ep fD ej eG wp_seq wp_block dk fq eE dO eF wp_skip wp_exit wp_ret eJ eM eP eO eS eT eR dU cM L.bA cY cW cX fo dI storeD de hJ co eK cJ nI L.bE L.closed V.closed PV.bare PV.flat
abbrev FI (s:Q3):List L:=[.pv (.str s.aF.aG),nd 4 (s.aF.a1.map Q2.e), .pv (.int .i64 s.aF.aS), .down 2 (s.a7.map Q7.e), .down 7 (s.aD.map Q4.e)]
abbrev rwD (x:Q3×Int):V:= .b8 [(true,FI x.1),(false,[.pv (.int .i64 x.2)])]
def ta {B:Nat}(ad:17<=B)(hB:B<=1048576){s:Q3}(h:s.Ok B){w:Q4}(hw:w.Ok B):cf Ph cL 680 [s.v, .agg (w.e.map .pv)]=some (rwD (vU s w)):=by
 have hM:B+1<=maxLen:=by unfold maxLen;omega
 have hl:s.a7.length<=1048576:=Zc h.2.1.1 hB;have hc:s.aD.length<=1048576:=Zc h.2.2.1 hB;have e1:=mE hB h;have e2:=Fh (s:=s) (by unfold maxLen;omega) w.aY;have e3:=yk (s:=s) (by unfold maxLen;omega) w.aY;have e4:=se (Q3.Ok.mono (by omega) h);have e5:=nc (Q4.Ok.mono (by omega) hw);have e6:cf Ph cL 326 [.agg [.pv (.str s.aF.aG), .pv (.lst (s.aF.a1.map Q2.e)), .pv (.int .i64 s.aF.aS)], .agg (w.e.map .pv)]=some (sC (vt s.aF w)):=tb ad hB h.1 hw;simp only[Q4.e.eq_1,Zt,Zy]at e6;have O:=jK 4 (s.aF.a1.map Q2.e);have m1:=gS (m:=s.aD.length) (z:=72) (by omega) (by omega);have m2:=gS (m:=s.aD.length+1) (z:=72) (by omega) (by omega);unfold vU;refine ca rfl ?_;cases c1:kq s<;>rw[c1]at e4;rcases O with⟨_,q2,q1⟩|⟨_,q2,q1⟩<;>rw[q2]at e1<;>simp(maxSteps:=9^9) [fC,Q4.e.eq_1,e1,e2,e3,e4,q2];cases c2:AO w<;>rw[c2]at e5;rcases O with⟨_,q2,q1⟩|⟨_,q2,q1⟩<;>rw[q2]at e1<;>simp(maxSteps:=9^9) [fC,Q4.e.eq_1,e1,e2,e3,e4,e5,q2];have b3:=RH c1 w.aY;have al:IntKind.i64.wrap (jW s w.aY+1)=jW s w.aY+1:=by rw[IntKind.wrap_i64];omega
 have bq:=N6 c1;simp only[Yj,cond_true];have ai:s.aD.map Q4.e++[w.e]=(s.aD++[w]).map Q4.e:=by simp
 rw[Q4.e.eq_1 w]at ai;rcases zJ c1 w.aY w.an with⟨j,hj,hf,hd,hm,hq⟩|⟨hf,hm,hq⟩
 ·rw[hf]at e2⊢;have l0:dZ (j:Int) 0=false:=xX;rw[l0];have hx:=Q7.e.eq_1 s.a7[j];have ao:(s.a7.map Q7.e).set j [.int .i64 s.a7[j].aY, .int .i64 w.an]=(s.a7.set j ⟨w.aY,w.an⟩).map Q7.e:=by rw[YJ,hd];rfl
  rw[hm];simp only[ZX,cond_false];clear hm hq b3;generalize jW s w.aY=q at*;cases c4:dZ q w.an;rcases O with⟨_,q2,q1⟩|⟨_,q2,q1⟩<;>rw[q2]at e1<;>simp(maxSteps:=9^9) [fC,Q4.e.eq_1,e1,e2,e3,e4,e5,q2,l0,c4];cases c5:dZ (q+1) w.an
  ·generalize vt s.aF w=p at e6⊢;obtain⟨p1,p2⟩:=p;simp only[sC]at e6;generalize s.aD++[w]=C at ai⊢;generalize s.a7.set j ⟨w.aY,w.an⟩=F at ao⊢;have O2:=jK 4 (p1.a1.map Q2.e);rcases O with⟨q0,q2,q1⟩|⟨q0,q2,q1⟩<;>rw[q2]at e1<;>(try rw[q0]at e6)<;>rcases O2 with⟨_,q4,_⟩|⟨_,q4,_⟩<;>rw[q4]at e6<;>simp(maxSteps:=9^9) [fC,Q4.e.eq_1,e1,e2,e3,e4,e5,e6,q2,q4,l0,c4,c5,al,hx,hj,ao,ai,m1,m2]
  rcases O with⟨_,q2,q1⟩|⟨_,q2,q1⟩<;>rw[q2]at e1<;>simp(maxSteps:=9^9) [fC,Q4.e.eq_1,e1,e2,e3,e4,e5,q2,l0,c4,c5,al]
 ·rw[hf]at e2⊢;have l0:dZ (-1) 0=true:=rfl;rw[l0];simp only[Yi];cases c3:dZ (s.a7.length:Int) 60;simp only[Q',cond_true];rcases O with⟨_,q2,q1⟩|⟨_,q2,q1⟩<;>rw[q2]at e1<;>simp(maxSteps:=9^9) [fC,Q4.e.eq_1,e1,e2,e3,e4,e5,q2,l0,c3];rw[hm];simp only[Yv,cond_false];have hp:=Ap w.aY s.a7;have b1:= @HQ w.aY s.a7;have b2:= @HO w.aY s.a7;have ay:(s.a7.take (oX w.aY s.a7)++(⟨w.aY,w.an⟩:Q7)::s.a7.drop (oX w.aY s.a7)).map Q7.e=(s.a7.map Q7.e).take (oX w.aY s.a7)++([.int .i64 w.aY, .int .i64 w.an]::(s.a7.map Q7.e).drop (oX w.aY s.a7)):=by simp[Q7.e]
  clear hm hq b3;generalize jW s w.aY=q at*;cases c4:dZ q w.an;rcases O with⟨_,q2,q1⟩|⟨_,q2,q1⟩<;>rw[q2]at e1<;>simp(maxSteps:=9^9) [fC,Q4.e.eq_1,e1,e2,e3,e4,e5,q2,l0,c3,c4];cases c5:dZ (q+1) w.an
  ·generalize vt s.aF w=pp at e6⊢;obtain⟨p1,p2⟩:=pp;simp only[sC]at e6;generalize s.aD++[w]=C at ai⊢;generalize s.a7.take (oX w.aY s.a7)++(⟨w.aY,w.an⟩:Q7)::s.a7.drop (oX w.aY s.a7)=F at ay⊢;generalize oX w.aY s.a7=p at*;have m3:=gS (m:=s.a7.length+1) (z:=16) (by omega) (by omega);have O2:=jK 4 (p1.a1.map Q2.e);rcases O with⟨q0,q2,q1⟩|⟨q0,q2,q1⟩<;>rw[q2]at e1<;>(try rw[q0]at e6)<;>rcases O2 with⟨_,q4,_⟩|⟨_,q4,_⟩<;>rw[q4]at e6;all_goals
    simp(maxSteps:=9^9) [fC,Q4.e.eq_1,e1,e2,e3,e4,e5,e6,q2,q4,l0,c3,c4,c5,al,ai,m1,m2]
    refine cP dG Cl.fin [.f,.f,.f,.t,.t,.f,.t,.f,.f,.t,.f,.f,.f,.f,.f,.f,.f,.f,.f,.f,.f,.f,.f,.f,.f,.f,.f,.f,.f,.f,.f,.f,.f,.f,.f,.f,.f,.f,.f,.f,.f,.f,.f,.f,.f,.f,.f,.f,.f,.f,.f,.f,.f,.f,.f,.f,.f,.f,.f,.f,.f,.f,.f,.f,.f,.f,.f,.f,.f,.f,.f,.f,.f,.f,.f,.f,.f,.f,.f,.f,.f,.f,.f,.f,.f,.f,.f,.f,.f,.f,.f,.f,.f,.f,.f,.f,.f,.f,.f,.f,.f,.f,.f,.f,.f,.f] (fun k=>[(9,ce .i64 k)]) p (fun _=>false) rfl (by simp) (fun j hj _=> ?_) (fun _ _=> ?_)
    ·have ax:j<s.a7.length:=by omega
     have l1:=ji (b1 ax hj)
     simp +contextual (maxSteps:=9^9) [jb,ax,l1,da (n:=s.a7.length) (by unfold maxLen;omega) ax,dw ax,Q7.e.eq_1 s.a7[j]]
    ·by_cases hlt:p<s.a7.length
     ·have l1:=iN (Int.not_lt.1 (b2 hlt))
      have hx:=Q7.e.eq_1 s.a7[p]
      simp +contextual (maxSteps:=9^9) [jb,hlt,hx,l1,hp,m3,dw hlt,<-ay,q4]
     ·obtain rfl:p=s.a7.length:=by omega
      have ao:(s.a7.map Q7.e).take s.a7.length++[[.int .i64 w.aY, .int .i64 w.an]]=F.map Q7.e:=by rw[ay];simp
      have hd:(s.a7.map Q7.e).drop s.a7.length=[]:=Yu (by simp)
      simp +contextual (maxSteps:=9^9) [jb,m3,hd, ↓ao,q4]
  rcases O with⟨_,q2,q1⟩|⟨_,q2,q1⟩<;>rw[q2]at e1<;>simp(maxSteps:=9^9) [fC,Q4.e.eq_1,e1,e2,e3,e4,e5,q2,l0,c3,c4,c5,al]
def OQ (t:Int):Int:=bif dZ t 60 then t+1 else 60
def NU (s:Q3)(w:Q4)(fate:Int):Q3×Int:=
 if fate=0 then vU s w else if fate=2 then vU s w else if fate=3 then vU (vU s w).1 w else(s,4)
def Bl (y:Z0)(s:Q3)(now fate:Int):Z0×Q3×Int:=
 bif mM y.a6&&((xN y.a6).2&&(!(dZ now y.ae)&&rg now 0 1000000000000))then
  bif (fate==0||fate==3)&&((NU s (xN y.a6).1 fate).2==1||(NU s (xN y.a6).1 fate).2==2)then(⟨(wM y.a6 (xN y.a6).1.an).1,0,0⟩,(NU s (xN y.a6).1 fate).1,1)
  else(⟨y.a6,OQ y.aT,now+boX (OQ y.aT)⟩,(NU s (xN y.a6).1 fate).1,2)
 else(y,s,0)
def SE (t:Int):1<=boX t/\ boX t<=64:=by unfold boX pw boT;have h:min t.toNat 6<=6:=Nat.min_le_right _ _;generalize min t.toNat 6=k at h;rcases k with _|_|_|_|_|_|_|k;decide;decide;decide;decide;decide;decide;decide;omega
def ad2 {t:Int}(h:nV t):nV (OQ t):=by unfold OQ;unfold nV at h⊢;cases c:dZ t 60;simp only[cond_false];omega;have:=of_decide_eq_true c;simp only[cond_true];omega
def aaQ :nV 0:=by unfold nV;omega
def S5 {B:Nat}{o:Y0}(h:o.Ok B):(xN o).1.Ok B:=by
 obtain⟨d,n,ws⟩:=o;unfold xN;cases ws with
 |nil=>have z:=aaQ;exact⟨z,z,⟨z,z,YA _⟩,YA _,z⟩
 |cons w ws=>exact h.2.2.2 w Yw
def ME {B:Nat}{o:Y0}(h:o.Ok B)(q:Int):(wM o q).1.Ok B:=by unfold wM;cases mM o;exact h;exact⟨h.1,h.2.1,Zc (YC _ _) h.2.2.1,fun x m=>h.2.2.2 x (QK.1 m).1⟩
def adP {B:Nat}(hB:100<=B){s:Q3}(h:s.Ok B){w:Q4}(hw:w.Ok B)(hc:s.aD.length+2<=B)(fate:Int):(NU s w fate).1.Ok B:=by
 have h1:=NW hB h hw (by omega);unfold NU;split;exact h1;split;exact h1;split;refine NW hB h1 hw ?_;have:(vU s w).1.aD.length<=s.aD.length+1:=by unfold vU;cases kq s&&AO w;simp only[cond_false];omega;simp only[cond_true];cases dZ (fO (Fi w.aY) s.a7) 0&& !(dZ s.a7.length 60);simp only[cond_false];cases !(dZ (jW s w.aY) w.an);simp only[cond_false];cases dZ (jW s w.aY+1) w.an;simp only[cond_false,Zv,Zo,Zx];omega;simp only[cond_true];omega;simp only[cond_true];omega;simp only[cond_true];omega
 omega;exact h
def abv {B:Nat}(hB:100<=B){y:Z0}(hy:y.Ok B){s:Q3}(h:s.Ok B)(hc:s.aD.length+2<=B)(now fate:Int):(Bl y s now fate).1.Ok B/\ (Bl y s now fate).2.1.Ok B:=by
 have hr:=adP hB h (S5 hy.1) hc fate;have hb:=SE (OQ y.aT);unfold Bl;cases c1:mM y.a6&&((xN y.a6).2&&(!(dZ now y.ae)&&rg now 0 1000000000000));exact⟨hy,h⟩;simp only[cond_true];have hn:0<=now/\ now<=1000000000000:=by simp only[Zg]at c1;simpa[vo]using c1.2.2.2
 cases(fate==0||fate==3)&&((NU s (xN y.a6).1 fate).2==1||(NU s (xN y.a6).1 fate).2==2);refine⟨⟨hy.1,ad2 hy.2.1,?_⟩,hr⟩;show nV (now+boX (OQ y.aT));unfold nV;omega;exact⟨⟨ME hy.1 _,aaQ,aaQ⟩,hr⟩
def wrL (n:Int)(rows:List (List PV)):L:=if n=1 then .own 7 rows else .down 7 rows
def T3 (r:List (List PV)):wrL 0 r= .down 7 r:=rfl
def T4 (r:List (List PV)):wrL 1 r= .own 7 r:=rfl
def T5 (r:List (List PV)):wrL 2 r= .down 7 r:=rfl
def ad6 (n:Int)(r:List (List PV)):wrL n r= .own 7 r \/wrL n r= .down 7 r:=by unfold wrL;split;exact .inl rfl;exact .inr rfl
abbrev syD (y:Z0)(n:Int):List L:=[.pv (.int .i64 y.a6.aY), .pv (.int .i64 y.a6.ag),wrL n (y.a6.aA.map Q4.e), .pv (.int .i64 y.aT), .pv (.int .i64 y.ae)]
abbrev ssD (x:Z0×Q3×Int):V:= .b8 [(true,syD x.1 x.2.2),(true,FI x.2.1),(false,[.pv (.int .i64 x.2.2)])]
def Bq (l:List Q4):jd (l.map Q4.e)=true:=by simp[jd,Q4.e,PV.bare]
def ac5 (s:Q3)(w:Q4):NU s w 0=vU s w:=rfl
def ac6 (s:Q3)(w:Q4):NU s w 2=vU s w:=rfl
def ac7 (s:Q3)(w:Q4):NU s w 3=vU (vU s w).1 w:=rfl
def ac8 (s:Q3)(w:Q4){f:Int}(h0:¬f=0)(h2:¬f=2)(h3:¬f=3):NU s w f=(s,4):=by unfold NU;rw[if_neg h0,if_neg h2,if_neg h3]
def UY {t:Int}(h:dZ t 60=true):OQ t=t+1:=by unfold OQ;rw[h];rfl
def UX {t:Int}(h:dZ t 60=false):OQ t=60:=by unfold OQ;rw[h];rfl
def acK {t:Int}(h:nV t)(c:dZ t 60=true):IntKind.i64.wrap (t+1)=t+1:=by have:=of_decide_eq_true c;unfold nV at h;rw[IntKind.wrap_i64];omega
def Sp {n b:Int}(h:rg n 0 1000000000000=true)(hb:1<=b/\ b<=64):IntKind.i64.wrap (n+b)=n+b:=by rw[vo]at h;rw[IntKind.wrap_i64];omega
def Bm (b:Q1)(y:Z0):Q1:=⟨b.aP,b.av,b.ar,b.a3,b.aM,⟨b.a4.aB,b.a4.ab,y⟩,b.aa,b.af⟩
def De (w:X0)(fate:Int):Int:=bif w.aN then fate else 1
def At (w:X0)(s t:List UInt8)(fate:Int):List Q1×List Q3×Int:=bif jh w&&(!(dZ (fO (yE s t) w.a2.a0) 0)&& !(dZ (iR s) 0))then(match w.a2.a0[(fO (yE s t) w.a2.a0).toNat]?,w.a5[(iR s).toNat]? with
 |some b,some v=>(w.a2.a0.set (fO (yE s t) w.a2.a0).toNat (Bm b (Bl b.a4.aH v w.aj (De w fate)).1),w.a5.set (iR s).toNat (Bl b.a4.aH v w.aj (De w fate)).2.1,(Bl b.a4.aH v w.aj (De w fate)).2.2)
 |_,_=>(w.a2.a0,w.a5,0))else(w.a2.a0,w.a5,0)
abbrev wNS (w:X0)(bs:List Q1)(sv:List Q3):List L:=[.pv (.int .i64 w.aj), .pv (.bool w.aN), .pv (.int .i64 w.aQ),nd 24 (bs.map Q1.e), .down 11 (w.aL.map X8.e), .pv (.int .i64 w.aI), .down 4 (w.aJ.aJ.map X5.e), .down 3 (w.aO.aW.map X9.e),nd 4 (w.aK.map X4.e),nd 5 (sv.map Q3.e)]
abbrev wOS (w:X0)(bs:List Q1)(sv:List Q3):List L:=[.pv (.int .i64 w.aj), .pv (.bool w.aN), .pv (.int .i64 w.aQ),oW 24 (bs.map Q1.e), .own 11 (w.aL.map X8.e), .pv (.int .i64 w.aI), .own 4 (w.aJ.aJ.map X5.e), .own 3 (w.aO.aW.map X9.e), .own 4 (w.aK.map X4.e), .own 5 (sv.map Q3.e)]
def sh {w:X0}(h:jh w=true):w.a5.length=3/\ w.aK.length=3/\ tc w.a2.a0=true:=by simp only[jh,Zg,beq_iff_eq]at h;obtain⟨_,_,h3,_,_,_,h7,h8,_⟩:=h;exact⟨by omega,by omega,h3⟩
def zA (w:X0)(s t:List UInt8)(fate:Int):((!(jh w)||(dZ (fO (yE s t) w.a2.a0) 0||dZ (iR s) 0))=true/\ At w s t fate=(w.a2.a0,w.a5,0)) \/
 ∃k,∃hk:k<w.a2.a0.length,∃i,∃hi:i<w.a5.length,fO (yE s t) w.a2.a0=(k:Int)/\ iR s=(i:Int)/\ jh w=true/\
  At w s t fate=(w.a2.a0.set k (Bm w.a2.a0[k] (Bl w.a2.a0[k].a4.aH w.a5[i] w.aj (De w fate)).1),w.a5.set i (Bl w.a2.a0[k].a4.aH w.a5[i] w.aj (De w fate)).2.1,(Bl w.a2.a0[k].a4.aH w.a5[i] w.aj (De w fate)).2.2):=by
 unfold At;cases c1:jh w;exact .inl ⟨by simp,rfl⟩;have hs:=(sh c1).1;rcases mQ (yE s t) w.a2.a0 with⟨q1,q2⟩|⟨k,hk,q1,q2⟩;rw[q1];exact .inl ⟨rfl,rfl⟩;rcases mQ (fun u=>s==u) Co with⟨p1,_⟩|⟨i,hi,p1,_⟩;rw[show iR s= -1 from p1,q1,iN (show(0:Int)<=(k:Int) by omega)];exact .inl ⟨rfl,rfl⟩;have br:i<3:=hi;have b4:i<w.a5.length:=by omega
 refine .inr ⟨k,hk,i,b4,q1,p1,rfl,?_⟩;rw[show iR s=(i:Int)from p1,q1,iN (show(0:Int)<=(k:Int) by omega),iN (show(0:Int)<=(i:Int) by omega)];simp only[Int.toNat_natCast,Zk hk,Zk b4,Q',ZG,cond_true]
def abo {l:List Q1}{k:Nat}(hk:k<l.length)(y:Z0):(l.set k (Bm l[k] y)).map Q1.e=(l.map Q1.e).set k [.str l[k].aP, .str l[k].av, .str l[k].ar.aP, .int .i64 l[k].ar.aV, .int .i64 l[k].ar.ah, .int .i64 l[k].ar.ak, .lst (l[k].a3.a3.map X1.e), .str l[k].aM.aB.aG, .int .i64 l[k].aM.aB.aC, .lst (l[k].aM.aB.a9.map Q5.e), .lst (l[k].aM.aB.aE.map Q9.e), .lst (cC l[k].aM.aw), .int .i64 l[k].aM.aq, .str l[k].a4.aB.aG, .lst (l[k].a4.aB.a1.map Q2.e), .int .i64 l[k].a4.aB.aS, .int .i64 l[k].a4.ab, .int .i64 y.a6.aY, .int .i64 y.a6.ag, .lst (y.a6.aA.map Q4.e), .int .i64 y.aT, .int .i64 y.ae, .int .i64 l[k].aa, .bool l[k].af]:=by rw[YJ];rfl
def abj {l:List Q3}{i:Nat}(v:Q3):(l.set i v).map Q3.e=(l.map Q3.e).set i [.str v.aF.aG, .lst (v.aF.a1.map Q2.e), .int .i64 v.aF.aS, .lst (v.a7.map Q7.e), .lst (v.aD.map Q4.e)]:=by rw[YJ];rfl
end Gi
namespace Gi
open Go Go.RowKit
set_option maxHeartbeats 8000000
set_option maxRecDepth 8000
attribute [local simp] start iI cD cj cS dy dX eX Opd.ev put V.cells plain dM iZ isInt isStr isBool bin ff un asList L.view cy V.view viewL done dd cu eY ee comp cV dS cz V.flat L.flat fb ft dK putAt freezeVs freezeLs freezeL V.mut L.mut lent Q0.bW L.bJ vk ye nM yn oV Bc PV.flat PV.bare nC Q0.zone
def pa {n:Int}(h:nV n):qa (.int .i64) (.int .i64 n):=by unfold nV at h;simp only[qa,Lit.wf,IntKind.min,IntKind.max,IntKind.signed,IntKind.bits,true_and];simp;omega
def L9 {s:List UInt8}(h:s.length<=1048576):qa .str (.str s):=by show s.length<=maxLen;unfold maxLen;omega
def L8 {x:Q2}(h:x.Ok 1048576):dW FL x.e:=by obtain⟨⟨h1,h2,h3⟩,h4,h5⟩:=h;refine⟨pa h1,pa h2,L9 h3,⟨by rw[Zr];unfold maxLen;omega,fun r m=> ?_⟩,trivial⟩;obtain⟨f,hf,rfl⟩:=ZV.1 m;obtain⟨g1,g2⟩:=h5 f hf;exact⟨L9 g1,pa g2,trivial⟩
def BR {x:Q4}(h:x.Ok 1048576):dW Aw x.e:=by obtain⟨h1,h2,⟨h3,h4,h5⟩,h6,h7⟩:=h;exact⟨pa h1,pa h2,pa h3,pa h4,L9 h5,L9 h6,pa h7,trivial⟩
def HV {α:Type}{e:α->List PV}{B:Nat}:∀{l:List α},(∀x∈l,gT (e x)<=B)->dP (l.map e)<=B*l.length
 |[],_=>by simp[dP]
 |x::l,h=>by have:=HV (e:=e) (B:=B) (l:=l) (fun y m=>h y (Ym _ m));have h0:=h x (Yw ..);simp only[Zt,dP,Zo,Nat.mul_succ];omega
def Kh {s:Q5}(h:gj s=true):gT [.str s.aG, .lst (s.a1.map Q2.e), .int .i64 s.aS]<=4096:=by
 simp only[gj,Zg,ZB]at h;obtain⟨h1,h2,h3,_⟩:=h;have hn:=xU h2;have hl:=of_decide_eq_false h3;have hi:∀x∈s.a1,gT x.e<=128:=by intro x m;obtain⟨j,hj,rfl⟩:=Yb.1 m;have:=tq h1 hj;simp only[KH,hj,show j-1<s.a1.length by omega,Zk,ZR,Ya]at this;obtain⟨k1,k2,_⟩:=this;have q1:=xf k1;obtain⟨q2,q3⟩:=As k2;have:=HV (e:=Q8.e) (B:=8) (l:=s.a1[j].au.fs) (fun f m=>by have:=(q3 f m).1;simp only[Q8.e,gT,sz];omega);rw[Q2.e.eq_1];simp only[gT,sz,Zr];omega
 have:=HV hi;simp only[gT,sz,Zr];omega
def wI {α:Type}(e:α->List PV)(p:α->Bool):∀xs:List α,dP ((xs.filter p).map e)<=dP (xs.map e)
 |[]=>Zi _
 |x::xs=>by have ih:=wI e p xs;cases h:p x<;>simp only[YS,h,if_true,if_false,Zt,dP,Zz]<;>omega
def zL {c:Nat}:∀{rows:List (List PV)}{j:Nat}{r:List PV}(hj:j<rows.length),gT r<=gT rows[j]+c->dP (rows.set j r)<=dP rows+c
 |x::rows,0,r,_,h=>by simp only[ZP,dP];simp only[Yy]at h;omega
 |x::rows,j+1,r,hj,h=>by have ih:=zL (rows:=rows) (j:=j) (r:=r) (by simpa using hj) (by simpa using h);simp only[Yf,dP];omega
def Dg {α:Type}{e:α->List PV}{t:List PTy}{l:List α}(hl:l.length<=1048576)(h:∀x∈l,dW t (e x)):qa (.lst t) (.lst (l.map e)):=by refine⟨by rw[Zr];unfold maxLen;omega,fun r m=> ?_⟩;obtain⟨f,hf,rfl⟩:=ZV.1 m;exact h f hf
def PX {x:Q3}(h:x.Ok 1048576):dW ik x.e:=by obtain⟨⟨h1,⟨h2,h3⟩,h4⟩,⟨h5,h6⟩,h7,h8⟩:=h;refine⟨L9 h1,Dg h2 (fun x m=>L8 (h3 x m)),pa h4,Dg h5 (fun x m=> ?_),Dg h7 (fun x m=>BR (h8 x m)),trivial⟩;exact⟨pa (h6 x m).1,pa (h6 x m).2,trivial⟩
def WS {b:Q1}{y:Z0}(h:dW fF b.e)(hy:y.Ok 1048576):dW fF (Bm b y).e:=by obtain⟨⟨h6,h7,h8,h9⟩,b6,b7⟩:=hy;simp only[Q1.e,Bm,fF,dW]at h⊢;obtain⟨a0,a1,a2,a3,a4,a5,a6,a7,a8,a9,b9,ba,bb,bc,bd,bf,bg,_,_,_,_,_,a22,bh,_⟩:=h;exact⟨a0,a1,a2,a3,a4,a5,a6,a7,a8,a9,b9,ba,bb,bc,bd,bf,bg,pa h6,pa h7,Dg h8 (fun x m=>BR (h9 x m)),pa b6,pa b7,a22,bh,trivial⟩
def aeL (b:Q1):List PV:=b.e.take 17
def ac3 (b:Q1):List PV:=b.e.drop 22
def abH {b:Q1}{y:Z0}(h:dP (y.a6.aA.map Q4.e)<=dP (b.a4.aH.a6.aA.map Q4.e)/\ y.a6.aA.length<=b.a4.aH.a6.aA.length):gT (Bm b y).e<=gT b.e:=by have e1:(Bm b y).e=aeL b++([.int .i64 y.a6.aY, .int .i64 y.a6.ag, .lst (y.a6.aA.map Q4.e), .int .i64 y.aT, .int .i64 y.ae]++ac3 b):=rfl;have e2:b.e=aeL b++([.int .i64 b.a4.aH.a6.aY, .int .i64 b.a4.aH.a6.ag, .lst (b.a4.aH.a6.aA.map Q4.e), .int .i64 b.a4.aH.aT, .int .i64 b.a4.aH.ae]++ac3 b):=rfl;rw[e1,e2,uc,uc,uc,uc];simp only[gT,sz,Zr];omega
def adX (y:Z0)(s:Q3)(now fate:Int):dP ((Bl y s now fate).1.a6.aA.map Q4.e)<=dP (y.a6.aA.map Q4.e)/\ (Bl y s now fate).1.a6.aA.length<=y.a6.aA.length:=by unfold Bl;cases mM y.a6&&((xN y.a6).2&&(!(dZ now y.ae)&&rg now 0 1000000000000));exact⟨Zi _,Zi _⟩;simp only[cond_true];cases(fate==0||fate==3)&&((NU s (xN y.a6).1 fate).2==1||(NU s (xN y.a6).1 fate).2==2);exact⟨Zi _,Zi _⟩;simp only[cond_true];unfold wM;cases mM y.a6;exact⟨Zi _,Zi _⟩;exact⟨wI Q4.e _ _,YC _ _⟩
def adN {s:Q5}(h:gj s=true)(k:Y7)(r:X6):gj (AS s k r).1=true:=by unfold AS;cases c:gj s&&(nA k&&gJ r.fs);exact h;simp only[Zg]at c;obtain⟨_,ck,cr⟩:=c;simp only[cond_true];rcases Ai (Fj k) s.a1 with hf|⟨j,hj,hf,hq⟩;rw[if_neg (by omega)];split;exact h;rw[F7 h ck hf,cr];simp only[Yi,decide_eq_true_eq];omega;rw[if_pos (by omega),hf];simp only[Int.toNat_natCast];rw[Ga h hj (NF.1 hq)];exact cr
def adV {s:Q5}(h:gj s=true)(w:Q4):gj (vt s w).1=true:=by unfold vt;cases(setR (kB s w.aZ).fs w.aU w.n).2;exact h;exact adN h _ _
def Kg :∀(a b:List (List PV)),dP (a++b)=dP a+dP b
 |[],b=>by simp[dP]
 |x::a,b=>by rw[Zh,dP,dP,Kg a b];omega
def ada (s:Q3)(w:Q4):gT (vU s w).1.e<=gT s.e+5000:=by
 unfold vU;cases c1:kq s;simp only[ZX,cond_false];exact ZU _ _;cases c2:AO w;simp only[ZY,cond_false];exact ZU _ _;simp only[ZG,cond_true];cases dZ (fO (Fi w.aY) s.a7) 0&& !(dZ s.a7.length 60);rotate_left;simp only[cond_true];exact ZU _ _;simp only[cond_false];cases !(dZ (jW s w.aY) w.an);rotate_left;simp only[cond_true];exact ZU _ _;simp only[cond_false];cases dZ (jW s w.aY+1) w.an;rotate_left;simp only[cond_true];exact ZU _ _;simp only[cond_false];have bj:gj s.aF=true:=by simp only[kq,Zg]at c1;exact c1.2.2.1
 have h1:=Kh (adV bj w);have h2:(xk s.a7 w.aY w.an).length<=s.a7.length+1:=by have hp:=Ap w.aY s.a7;rcases zJ c1 w.aY w.an with⟨j,hj,_,_,q,_⟩|⟨_,q,_⟩;rw[q];simp only[ZC];omega;rw[q];simp only[Zv,Zo,ZH,YD];omega
 have h3:dP ((xk s.a7 w.aY w.an).map Q7.e)<=0*(xk s.a7 w.aY w.an).length:=HV (e:=Q7.e) (B:=0) (fun x _=>by simp only[Q7.e,gT,sz];omega);have h4:gT w.e<=100:=by simp only[AO,Zg]at c2;obtain⟨_,_,k1,k2,_⟩:=c2;have q1:=xf k1;have q2:=xU k2;simp only[Q4.e,gT,sz];omega
 simp only[Q3.e,gT,sz,Zr,Qf,Zt,Zy,Kg,dP,Zv,Zo,Zx]at h1⊢;generalize gT w.e=A at*;generalize dP ((xk s.a7 w.aY w.an).map Q7.e)=C at*;generalize dP ((vt s.aF w).1.a1.map Q2.e)=D at*;generalize dP (s.aD.map Q4.e)=E at*;generalize dP (s.a7.map Q7.e)=F at*;generalize dP (s.aF.a1.map Q2.e)=G at*;omega
def aeM (s:Q3)(w:Q4)(fate:Int){c:Nat}(hc:5000<=c)(hf:fate=3->10000<=c):gT (NU s w fate).1.e<=gT s.e+c:=by have h1:=ada s w;have h2:=ada (vU s w).1 w;unfold NU;split;omega;split;omega;split;rename_i q;have:=hf q;omega;exact ZU _ _
def aeR (y:Z0)(s:Q3)(now fate:Int){c:Nat}(hc:5000<=c)(hf:fate=3->10000<=c):gT (Bl y s now fate).2.1.e<=gT s.e+c:=by have h:=aeM s (xN y.a6).1 fate hc hf;unfold Bl;cases mM y.a6&&((xN y.a6).2&&(!(dZ now y.ae)&&rg now 0 1000000000000));exact ZU _ _;simp only[cond_true];cases(fate==0||fate==3)&&((NU s (xN y.a6).1 fate).2==1||(NU s (xN y.a6).1 fate).2==2);exact h;exact h
def UM {α:Type}{e:α->List PV}{t:List PTy}{l:List α}{k:Nat}(hk:k<l.length){x:α}{c:Nat}(h:qa (.lst t) (.lst (l.map e)))(hx:dW t (e x))(hs:gT (e x)<=gT (e (l[k]'hk))+c):qa (.lst t) (.lst ((l.set k x).map e))/\ sz (.lst ((l.set k x).map e))<=sz (.lst (l.map e))+c:=by
 obtain⟨h1,h2⟩:=dJ h;have hlm:k<(l.map e).length:=by rw[Zr];exact hk
 have hg:(l.map e)[k]'hlm=e (l[k]'hk):=List.getElem_map ..;have b5:=zL (c:=c) (rows:=l.map e) (r:=e x) hlm (by rw[hg];exact hs);rw[YJ,mG,mG,ZC];refine⟨⟨by rw[ZC];exact h1,fun r' bk=> ?_⟩,?_⟩;rcases ZK bk with m|rfl;exact h2 r' m;exact hx;generalize dP ((l.map e).set k (e x))=A at b5⊢;generalize dP (l.map e)=B at b5⊢;omega
def adT {w:X0}{s t:List UInt8}{fate:Int}(hk:w.Ok 1048576)(hc:jh w=true->∀v∈w.a5,v.aD.length+2<=1048576)(h:qa (.lst fF) (.lst (w.a2.a0.map Q1.e)))(hv:qa (.lst ik) (.lst (w.a5.map Q3.e))){c:Nat}(h5:5000<=c)(hf:De w fate=3->10000<=c):
 qa (.lst fF) (.lst ((At w s t fate).1.map Q1.e))/\ sz (.lst ((At w s t fate).1.map Q1.e))<=sz (.lst (w.a2.a0.map Q1.e))/\
 qa (.lst ik) (.lst ((At w s t fate).2.1.map Q3.e))/\ sz (.lst ((At w s t fate).2.1.map Q3.e))<=sz (.lst (w.a5.map Q3.e))+c:=by
 rcases zA w s t fate with⟨_,e⟩|⟨k,hlt,i,hi,_,_,c1,e⟩;rw[e];exact⟨h,Zi _,hv,ZU _ _⟩;rw[e];have bl:=hk.2.2.1.2 _ (Zf hlt);have bm:=hk.2.2.2.2.2.2.2.2.2 _ (Zf hi);have bn:=hc c1 _ (Zf hi);have az:100<=1048576:=by omega
 have aR:=abv az bl.2.2.2.2.2.1.2.2 bm bn w.aj (De w fate);have z1:=adX w.a2.a0[k].a4.aH w.a5[i] w.aj (De w fate);have z2:=aeR w.a2.a0[k].a4.aH w.a5[i] w.aj (De w fate) h5 hf;generalize Bl w.a2.a0[k].a4.aH w.a5[i] w.aj (De w fate)=p at*;obtain⟨p1,p2,p3⟩:=p;simp only at aR z1 z2⊢;have b2:dW fF (w.a2.a0[k]).e:=(dJ h).2 _ (ZV.2 ⟨_,Zf hlt,rfl⟩);have r1:=WS b2 aR.1;have z3:gT (Bm w.a2.a0[k] p1).e<=gT (w.a2.a0[k]).e+0:=Zc (abH z1) (ZU _ _);have y1:=UM (c:=0) hlt h r1 z3;have y2:=UM (c:=c) hi hv (PX aR.2) z2;exact⟨y1.1,y1.2,y2.1,y2.2⟩
end Gi
namespace Gi
open Go Go.RowKit
set_option maxHeartbeats 8000000
set_option maxRecDepth 4000
attribute [local simp] start qY dX eX fi gx fh gv gC gB sE sO sF sP sG sQ sH sR sI sS sJ sU sK sV sM sW sN sX V.cells plain dM iZ isInt isStr isBool bin ez je eA jf gy un asList L.view cy V.view viewL dd cu eD dN ee comp cV dS eV dV dC dz dA cG ct df cq cF cO cA dx du cI dD dF V.flat L.flat fb ft dK putAt thaw thawL thawT V.ow gA fk fm eB gz eC fj freezeVs freezeLs freezeL V.mut L.mut cN fI iE dj dQ cZ fK ed dE ew L.bC cT fA ep fD ej eG wp_seq wp_block dk fq eE dO eF wp_skip wp_exit wp_ret eJ eM eP eO eS eT eR dU cM L.bA cY cW cX fo dI storeD de hJ co eK cJ nI L.bE L.closed V.closed PV.bare PV.flat
def Wm (x:Q5×Bool):fb (sC x)= .b8 [(true,J7 x.1),(false,[.pv (.bool x.2)])]:=by simp[sC,J7,fb, ↓du,ft]
def ON (s:Q5)(ws:List Q4):Q5:=ws.foldl (fun s w=>(vt s w).1) s
def OX {s:Q5}{ws:List Q4}{k:Nat}(h:k<ws.length):ON s (ws.take (k+1))=(vt (ON s (ws.take k)) ws[k]).1:=by unfold ON;rw[ZQ h,Qn];rfl
def Sz {B:Nat}(hB:17<=B){s:Q5}(h:s.Ok B):∀{ws:List Q4},(∀w∈ws,w.Ok B)->(ON s ws).Ok B:=by
 intro ws;induction ws generalizing s with
 |nil=>exact fun _=>h
 |cons w ws ih=>exact fun hw=>ih (UO hB h (hw w (by simp))) fun x m=>hw x (by simp[m])
def Hh {B:Nat}(ad:17<=B)(hB:B<=1048576){s:Q5}(h:s.Ok B){ws:List Q4}(hw:∀w∈ws,w.Ok B)(hl:ws.length<=maxLen):cf Ph cL 313 [s.v,eQ (ws.map Q4.e)]=some (.agg (J7 (ON s ws))):=by have e1:=jH hB h;have e2:=NY s;generalize hn:(V.agg [.pv (.str s.aG),nd 4 (s.a1.map Q2.e), .pv (.int .i64 s.aS)])=nv at*;simp only[J7]at e2⊢;refine ca rfl ?_;simp(maxSteps:=9^9) [uC,e1, ↓e2, ↓ct, ↓cF];refine fB dG Cl.fin ws.length [.f,.f,.f,.f,.t,.t,.f,.f,.f,.f,.t,.t,.t,.f,.f,.f,.f,.f,.f,.f,.f,.f,.f,.f] (fun k=>[(12,ce .i64 k)]) (fun k=>[.box [.pv (.str s.aG), .pv (.lst (s.a1.map Q2.e)), .pv (.int .i64 s.aS)], .box [.pv (.str []), .nil, .pv (.int .i64 0)], .box (J7 (ON s (ws.take k)))]) rfl (Kn.of [0,1,2] (by decide) (by simp[ON,J7, ↓cO]) (by simp)) (fun k hk=> ?_) ?_;have hx:=Q4.e.eq_1 ws[k];have aX:=Sz ad h (ws:=ws.take k) fun w m=>hw w (ZA m);have e3:=tb ad hB aX (hw _ (Zf hk));rw[Q4.e.eq_1]at e3;have e5:=Wm (vt (ON s (ws.take k)) ws[k]);have e4:=Tv (s:=ON s (ws.take k)) (w:=ws[k]);rw[OX hk];generalize ON s (ws.take k)=a at*;generalize bo:vt a ws[k]=sx at*;generalize sC sx=pr at*;obtain⟨a',b⟩:=sx;simp only[J7,Zt,Zy]at e3 e4 e5⊢;cases b;obtain rfl:=e4 rfl;simp(maxSteps:=9^9) [lF,hk,hx,e3, ↓e5,da hl hk,dw hk, ↓cI, ↓ct, ↓cG, ↓cq, ↓df,-fI];exact Kn.of [0,1,2] (by decide) (by simp[↓cO]) (by simp);simp(maxSteps:=9^9) [lF,hk,hx,e3, ↓e5,da hl hk,dw hk, ↓cI, ↓ct, ↓cG, ↓cq, ↓df,-fI];exact Kn.of [0,1,2] (by decide) (by simp[↓cO]) (by simp);rw[Yd];simp only[J7];simp(maxSteps:=9^9) [lF, ↓ct, ↓cF]
def FH {B:Nat}(ad:17<=B)(hB:B<=1048576){s:Q5}(h:s.Ok B){ws:List Q4}(hw:∀w∈ws,w.Ok B)(hl:ws.length<=maxLen):cf Ph cL 311 [s.v,eQ (ws.map Q4.e)]=some (.agg (J7 (ON s ws))):=by have e1:=lZ hB h;have e2:=NY s;generalize hn:(V.agg [.pv (.str s.aG),nd 4 (s.a1.map Q2.e), .pv (.int .i64 s.aS)])=nv at*;simp only[J7]at e2⊢;refine ca rfl ?_;simp(maxSteps:=9^9) [tT,e1, ↓e2, ↓ct, ↓cF];refine fB dG Cl.fin ws.length [.f,.t,.f,.f,.t,.t,.t,.f,.f,.f,.f,.f,.f,.f,.f,.f,.f,.f,.f,.f,.f,.f,.f,.f,.f,.f,.f,.f,.f] (fun k=>[(6,ce .i64 k)]) (fun k=>[.box [.pv (.str s.aG), .pv (.lst (s.a1.map Q2.e)), .pv (.int .i64 s.aS)], .box [.pv (.str []), .nil, .pv (.int .i64 0)], .box (J7 (ON s (ws.take k)))]) rfl (Kn.of [0,1,2] (by decide) (by simp[ON,J7, ↓cO]) (by simp)) (fun k hk=> ?_) ?_;have hx:=Q4.e.eq_1 ws[k];have aX:=Sz ad h (ws:=ws.take k) fun w m=>hw w (ZA m);have e3:=te ad hB aX (hw _ (Zf hk));rw[Q4.e.eq_1]at e3;have e4:=Tv (s:=ON s (ws.take k)) (w:=ws[k]);rw[OX hk];generalize ON s (ws.take k)=a at*;generalize bo:vt a ws[k]=sx at*;obtain⟨a',b⟩:=sx;simp only[J7,Zt,Zy]at e3 e4⊢;cases b;obtain rfl:=e4 rfl;simp(maxSteps:=9^9) [kQ,hk,hx,e3,da hl hk,dw hk, ↓cI, ↓ct, ↓cG, ↓cq, ↓df,-fI];exact Kn.of [0,1,2] (by decide) (by simp[↓cO]) (by simp);simp(maxSteps:=9^9) [kQ,hk,hx,e3,da hl hk,dw hk, ↓cI, ↓ct, ↓cG, ↓cq, ↓df,-fI];exact Kn.of [0,1,2] (by decide) (by simp[↓cO]) (by simp);rw[Yd];simp only[J7];simp(maxSteps:=9^9) [kQ, ↓ct, ↓cF]
abbrev aeN (x:X7):List L:=[.pv (.str x.aB.aG),qm (x.aB.a1.map Q2.e), .pv (.int .i64 x.aB.aS), .pv (.int .i64 x.ab), .pv (.int .i64 x.aH.a6.aY), .pv (.int .i64 x.aH.a6.ag), .pv (.lst (x.aH.a6.aA.map Q4.e)), .pv (.int .i64 x.aH.aT), .pv (.int .i64 x.aH.ae)]
def RB (x:X7):fb (.agg [.pv (.str x.aB.aG),nd 4 (x.aB.a1.map Q2.e), .pv (.int .i64 x.aB.aS), .pv (.int .i64 x.ab), .pv (.int .i64 x.aH.a6.aY), .pv (.int .i64 x.aH.a6.ag), .down 7 (x.aH.a6.aA.map Q4.e), .pv (.int .i64 x.aH.aT), .pv (.int .i64 x.aH.ae)])= .agg (aeN x):=by simp[fb, ↓du,ft]
def Rn (r:X7)(s:Q3):X7:=⟨ON r.aB (s.aD.drop r.ab.toNat),(s.aD.length:Nat),⟨(wM r.aH.a6 (jW s r.aH.a6.aY)).1,r.aH.aT,r.aH.ae⟩⟩
def mN (r:X7)(s:Q3):X7×Int:=bif vg r&&(kq s&& !(dZ (s.aD.length:Nat) r.ab))then(Rn r s,(s.aD.length:Int)-r.ab)else(r,0)
abbrev ac4 (x:X7×Int):V:= .b8 [(true,aeN x.1),(false,[.pv (.int .i64 x.2)])]
def JO {r:X7}(h:r.Ok 1048576){s:Q3}(hs:s.Ok 1048576):(mN r s).1.Ok 1048576:=by unfold mN;cases vg r&&(kq s&& !(dZ (s.aD.length:Nat) r.ab))<;>simp only[cond_true,cond_false];exact h;refine⟨Sz (by omega) h.1 (fun w m=>hs.2.2.2 w (Yc m)),?_,ME h.2.2.1 _,h.2.2.2.1,h.2.2.2.2⟩;have:=hs.2.2.1;simp only[Rn,nV];omega
def AH {r:X7}(h:r.Ok 1048576){s:Q3}(hs:s.Ok 1048576):cf Ph cL 649 [r.v,s.v]=some (ac4 (mN r s)):=by
 have e1:=oU (Zi 1048576) h;have e2:=RB r;have e3:=vR (X7.Ok.mono (show 1048576<=maxLen by unfold maxLen;omega) h);have e4:=se (Q3.Ok.mono (show 1048576<=maxLen by unfold maxLen;omega) hs);have e6:=yk (s:=s) (Zc hs.2.1.1 (by unfold maxLen;omega)) r.aH.a6.aY;have e7:=vQ (Zi 1048576) h.2.2.1 (jW s r.aH.a6.aY);have bp:=hs.2.2.1;unfold mN;generalize V.agg [.pv (.str r.aB.aG),nd 4 (r.aB.a1.map Q2.e), .pv (.int .i64 r.aB.aS), .pv (.int .i64 r.ab), .pv (.int .i64 r.aH.a6.aY), .pv (.int .i64 r.aH.a6.ag), .down 7 (r.aH.a6.aA.map Q4.e), .pv (.int .i64 r.aH.aT), .pv (.int .i64 r.aH.ae)]=nv at*;cases c1:vg r<;>rw[c1]at e3;simp only[ZX,cond_false];refine ca rfl ?_;simp(maxSteps:=9^9) [gE,e1, ↓e2,e3, ↓cI, ↓cF, ↓ct, ↓cG, ↓cq, ↓df, ↓cA];cases c2:kq s<;>rw[c2]at e4;simp only[ZX,ZY,cond_false];refine ca rfl ?_;simp(maxSteps:=9^9) [gE,e1, ↓e2,e3,e4, ↓cI, ↓cF, ↓ct, ↓cG, ↓cq, ↓df, ↓cA];cases c3:dZ (s.aD.length:Nat) r.ab;rotate_left;simp only[Yi,Yv,cond_false];refine ca rfl ?_;simp(maxSteps:=9^9) [gE,e1, ↓e2,e3,e4,c3, ↓cI, ↓cF, ↓ct, ↓cG, ↓cq, ↓df, ↓cA];have b0:r.ab<=(s.aD.length:Int):=by have:=of_decide_eq_false c3;omega
 have h0:0<=r.ab:=by simp only[vg,Zg,vo]at c1;omega
 have e5:=Hh (by omega) (Zi 1048576) h.1 (ws:=s.aD.drop r.ab.toNat) (fun w m=>hs.2.2.2 w (Yc m)) (by rw[YD];unfold maxLen;omega);have t5:∀x:Q4,x.e.length=7:=fun _=>rfl;have t1:((s.aD.map Q4.e).drop r.ab.toNat).take (s.aD.length-r.ab.toNat)=(s.aD.drop r.ab.toNat).map Q4.e:=by rw[<-List.map_drop];exact Zs (by simp)
 have w1:IntKind.i64.wrap ((s.aD.length:Int)-r.ab)=(s.aD.length:Int)-r.ab:=by rw[IntKind.wrap_i64];omega
 simp only[Yi,Q',cond_true,Rn];simp only[J7]at e5;generalize ON r.aB (s.aD.drop r.ab.toNat)=ap at*;generalize (s.aD.drop r.ab.toNat).map Q4.e=D at*;generalize wM r.aH.a6 (jW s r.aH.a6.aY)=ak at*;refine ca rfl ?_;simp(maxSteps:=9^9) [gE,e1, ↓e2,e3,e4,c3,h0,b0,t1,t5,e5,e6,e7,w1,eG,oL, ↓cI, ↓cF, ↓ct, ↓cG, ↓cq, ↓df, ↓cA]
def AX {r:X7}(h:r.Ok 1048576){s:Q3}(hs:s.Ok 1048576):cf Ph cL 646 [r.v,s.v]=some (ac4 (mN r s)):=by
 have e1:=tX (Zi 1048576) h;have e2:=RB r;have e3:=vW (X7.Ok.mono (show 1048576<=maxLen by unfold maxLen;omega) h);have e4:=su (Q3.Ok.mono (show 1048576<=maxLen by unfold maxLen;omega) hs);have e6:=yq (s:=s) (Zc hs.2.1.1 (by unfold maxLen;omega)) r.aH.a6.aY;have e7:=vV (Zi 1048576) h.2.2.1 (jW s r.aH.a6.aY);have bp:=hs.2.2.1;unfold mN;generalize V.agg [.pv (.str r.aB.aG),nd 4 (r.aB.a1.map Q2.e), .pv (.int .i64 r.aB.aS), .pv (.int .i64 r.ab), .pv (.int .i64 r.aH.a6.aY), .pv (.int .i64 r.aH.a6.ag), .down 7 (r.aH.a6.aA.map Q4.e), .pv (.int .i64 r.aH.aT), .pv (.int .i64 r.aH.ae)]=nv at*;cases c1:vg r<;>rw[c1]at e3;simp only[ZX,cond_false];refine ca rfl ?_;simp(maxSteps:=9^9) [gH,e1, ↓e2,e3, ↓cI, ↓cF, ↓ct, ↓cG, ↓cq, ↓df, ↓cA];cases c2:kq s<;>rw[c2]at e4;simp only[ZX,ZY,cond_false];refine ca rfl ?_;simp(maxSteps:=9^9) [gH,e1, ↓e2,e3,e4, ↓cI, ↓cF, ↓ct, ↓cG, ↓cq, ↓df, ↓cA];cases c3:dZ (s.aD.length:Nat) r.ab;rotate_left;simp only[Yi,Yv,cond_false];refine ca rfl ?_;simp(maxSteps:=9^9) [gH,e1, ↓e2,e3,e4,c3, ↓cI, ↓cF, ↓ct, ↓cG, ↓cq, ↓df, ↓cA];have b0:r.ab<=(s.aD.length:Int):=by have:=of_decide_eq_false c3;omega
 have h0:0<=r.ab:=by simp only[vg,Zg,vo]at c1;omega
 have e5:=FH (by omega) (Zi 1048576) h.1 (ws:=s.aD.drop r.ab.toNat) (fun w m=>hs.2.2.2 w (Yc m)) (by rw[YD];unfold maxLen;omega);have t5:∀x:Q4,x.e.length=7:=fun _=>rfl;have t1:((s.aD.map Q4.e).drop r.ab.toNat).take (s.aD.length-r.ab.toNat)=(s.aD.drop r.ab.toNat).map Q4.e:=by rw[<-List.map_drop];exact Zs (by simp)
 have w1:IntKind.i64.wrap ((s.aD.length:Int)-r.ab)=(s.aD.length:Int)-r.ab:=by rw[IntKind.wrap_i64];omega
 simp only[Yi,Q',cond_true,Rn];simp only[J7]at e5;generalize ON r.aB (s.aD.drop r.ab.toNat)=ap at*;generalize (s.aD.drop r.ab.toNat).map Q4.e=D at*;generalize wM r.aH.a6 (jW s r.aH.a6.aY)=ak at*;refine ca rfl ?_;simp(maxSteps:=9^9) [gH,e1, ↓e2,e3,e4,c3,h0,b0,t1,t5,e5,e6,e7,w1,eG,oL, ↓cI, ↓cF, ↓ct, ↓cG, ↓cq, ↓df, ↓cA]
end Gi
