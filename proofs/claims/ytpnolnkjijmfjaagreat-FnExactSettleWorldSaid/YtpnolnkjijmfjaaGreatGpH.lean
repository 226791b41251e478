/- Of this proof. -/
import Derived.Test.YtpnolnkjijmfjaaGreatGrD
set_option linter.all false
namespace Gi
open Go Go.RowKit
set_option maxHeartbeats 8000000
set_option maxRecDepth 4000
attribute [local simp] start qt dY fa fh gj fg gi gr gq rB rY rE rZ rH r8 rI r9 rJ sa rS sd rU se rV sf rW sh V.cells plain dP ja isInt isStr isBool bin eu i7 ew i9 gl un asList L.view cy V.view viewL dd cu eC dN eh comp cU dS eV dW dD dA dC cF ct df co cE cO cA dx du cH dE dF V.flat L.flat fe fv dK putAt thaw thawL thawT V.ow gn fj fk ez gm eA fi freezeVs freezeLs freezeL V.mut L.mut cN fx iI dj dQ cZ fI ed dH eB L.bD cQ fy ej fE ep eH wp_seq wp_block dh fo eD dO eE wp_skip wp_exit wp_ret eG eM eP eN eT eU eS dV cM L.bB cX cV cW fm dI storeD dg gZ cq eK cJ nP L.bG L.closed V.closed PV.bare PV.flat
abbrev F7 (s:Q2):List L:=[.pv (.str s.aF.aG),nd 4 (s.aF.a1.map Q3.e), .pv (.int .i64 s.aF.aS), .down 2 (s.a7.map Q8.e), .down 7 (s.aD.map Q4.e)]
abbrev rwD (x:Q2×Int):V:= .b8 [(true,F7 x.1),(false,[.pv (.int .i64 x.2)])]
def tu {B:Nat}(ad:17<=B)(hB:B<=1048576){s:Q2}(h:s.Ok B){w:Q4}(hw:w.Ok B):cf Ph cK 680 [s.v, .agg (w.e.map .pv)]=some (rwD (wm s w)):=by
 have hM:B+1<=maxLen:=by unfold maxLen;omega
 have hl:s.a7.length<=1048576:=Zc h.2.1.1 hB;have hc:s.aD.length<=1048576:=Zc h.2.2.1 hB;have e1:=mN hB h;have e2:=FF (s:=s) (by unfold maxLen;omega) w.aY;have e3:=yF (s:=s) (by unfold maxLen;omega) w.aY;have e4:=sY (Q2.Ok.mono (by omega) h);have e5:=nn (Q4.Ok.mono (by omega) hw);have e6:cf Ph cK 326 [.agg [.pv (.str s.aF.aG), .pv (.lst (s.aF.a1.map Q3.e)), .pv (.int .i64 s.aF.aS)], .agg (w.e.map .pv)]=some (tm (vH s.aF w)):=tv ad hB h.1 hw;simp only[Q4.e.eq_1,Zt,Zy]at e6;have O:=jg 4 (s.aF.a1.map Q3.e);have m1:=gU (m:=s.aD.length) (z:=72) (by omega) (by omega);have m2:=gU (m:=s.aD.length+1) (z:=72) (by omega) (by omega);unfold wm;refine ca rfl ?_;cases c1:kC s<;>rw[c1]at e4;rcases O with⟨_,q2,q1⟩|⟨_,q2,q1⟩<;>rw[q2]at e1<;>simp(maxSteps:=9^9) [fG,Q4.e.eq_1,e1,e2,e3,e4,q2];cases c2:Ba w<;>rw[c2]at e5;rcases O with⟨_,q2,q1⟩|⟨_,q2,q1⟩<;>rw[q2]at e1<;>simp(maxSteps:=9^9) [fG,Q4.e.eq_1,e1,e2,e3,e4,e5,q2];have b3:=Sa c1 w.aY;have al:IntKind.i64.wrap (j4 s w.aY+1)=j4 s w.aY+1:=by rw[IntKind.wrap_i64];omega
 have br:=Ox c1;simp only[Yk,cond_true];have ai:s.aD.map Q4.e++[w.e]=(s.aD++[w]).map Q4.e:=by simp
 rw[Q4.e.eq_1 w]at ai;rcases Ac c1 w.aY w.an with⟨j,hj,hf,hd,hm,hq⟩|⟨hf,hm,hq⟩
 ·rw[hf]at e2⊢;have l0:dZ (j:Int) 0=false:=yp;rw[l0];have hx:=Q8.e.eq_1 s.a7[j];have ao:(s.a7.map Q8.e).set j [.int .i64 s.a7[j].aY, .int .i64 w.an]=(s.a7.set j ⟨w.aY,w.an⟩).map Q8.e:=by rw[YK,hd];rfl
  rw[hm];simp only[ZX,cond_false];clear hm hq b3;generalize j4 s w.aY=q at*;cases c4:dZ q w.an;rcases O with⟨_,q2,q1⟩|⟨_,q2,q1⟩<;>rw[q2]at e1<;>simp(maxSteps:=9^9) [fG,Q4.e.eq_1,e1,e2,e3,e4,e5,q2,l0,c4];cases c5:dZ (q+1) w.an
  ·generalize vH s.aF w=p at e6⊢;obtain⟨p1,p2⟩:=p;simp only[tm]at e6;generalize s.aD++[w]=C at ai⊢;generalize s.a7.set j ⟨w.aY,w.an⟩=F at ao⊢;have O2:=jg 4 (p1.a1.map Q3.e);rcases O with⟨q0,q2,q1⟩|⟨q0,q2,q1⟩<;>rw[q2]at e1<;>(try rw[q0]at e6)<;>rcases O2 with⟨_,q4,_⟩|⟨_,q4,_⟩<;>rw[q4]at e6<;>simp(maxSteps:=9^9) [fG,Q4.e.eq_1,e1,e2,e3,e4,e5,e6,q2,q4,l0,c4,c5,al,hx,hj,ao,ai,m1,m2]
  rcases O with⟨_,q2,q1⟩|⟨_,q2,q1⟩<;>rw[q2]at e1<;>simp(maxSteps:=9^9) [fG,Q4.e.eq_1,e1,e2,e3,e4,e5,q2,l0,c4,c5,al]
 ·rw[hf]at e2⊢;have l0:dZ (-1) 0=true:=rfl;rw[l0];simp only[Yj];cases c3:dZ (s.a7.length:Int) 60;simp only[Q',cond_true];rcases O with⟨_,q2,q1⟩|⟨_,q2,q1⟩<;>rw[q2]at e1<;>simp(maxSteps:=9^9) [fG,Q4.e.eq_1,e1,e2,e3,e4,e5,q2,l0,c3];rw[hm];simp only[Yv,cond_false];have hp:=AI w.aY s.a7;have b1:= @Ig w.aY s.a7;have b2:= @If w.aY s.a7;have ay:(s.a7.take (pe w.aY s.a7)++(⟨w.aY,w.an⟩:Q8)::s.a7.drop (pe w.aY s.a7)).map Q8.e=(s.a7.map Q8.e).take (pe w.aY s.a7)++([.int .i64 w.aY, .int .i64 w.an]::(s.a7.map Q8.e).drop (pe w.aY s.a7)):=by simp[Q8.e]
  clear hm hq b3;generalize j4 s w.aY=q at*;cases c4:dZ q w.an;rcases O with⟨_,q2,q1⟩|⟨_,q2,q1⟩<;>rw[q2]at e1<;>simp(maxSteps:=9^9) [fG,Q4.e.eq_1,e1,e2,e3,e4,e5,q2,l0,c3,c4];cases c5:dZ (q+1) w.an
  ·generalize vH s.aF w=pp at e6⊢;obtain⟨p1,p2⟩:=pp;simp only[tm]at e6;generalize s.aD++[w]=C at ai⊢;generalize s.a7.take (pe w.aY s.a7)++(⟨w.aY,w.an⟩:Q8)::s.a7.drop (pe w.aY s.a7)=F at ay⊢;generalize pe w.aY s.a7=p at*;have m3:=gU (m:=s.a7.length+1) (z:=16) (by omega) (by omega);have O2:=jg 4 (p1.a1.map Q3.e);rcases O with⟨q0,q2,q1⟩|⟨q0,q2,q1⟩<;>rw[q2]at e1<;>(try rw[q0]at e6)<;>rcases O2 with⟨_,q4,_⟩|⟨_,q4,_⟩<;>rw[q4]at e6;all_goals
    simp(maxSteps:=9^9) [fG,Q4.e.eq_1,e1,e2,e3,e4,e5,e6,q2,q4,l0,c3,c4,c5,al,ai,m1,m2]
    refine cP dz Cl.fin [.f,.f,.f,.t,.t,.f,.t,.f,.f,.t,.f,.f,.f,.f,.f,.f,.f,.f,.f,.f,.f,.f,.f,.f,.f,.f,.f,.f,.f,.f,.f,.f,.f,.f,.f,.f,.f,.f,.f,.f,.f,.f,.f,.f,.f,.f,.f,.f,.f,.f,.f,.f,.f,.f,.f,.f,.f,.f,.f,.f,.f,.f,.f,.f,.f,.f,.f,.f,.f,.f,.f,.f,.f,.f,.f,.f,.f,.f,.f,.f,.f,.f,.f,.f,.f,.f,.f,.f,.f,.f,.f,.f,.f,.f,.f,.f,.f,.f,.f,.f,.f,.f,.f,.f,.f,.f] (fun k=>[(9,ce .i64 k)]) p (fun _=>false) rfl (by simp) (fun j hj _=> ?_) (fun _ _=> ?_)
    ·have ax:j<s.a7.length:=by omega
     have l1:=jl (b1 ax hj)
     simp +contextual (maxSteps:=9^9) [ji,ax,l1,cY (n:=s.a7.length) (by unfold maxLen;omega) ax,dw ax,Q8.e.eq_1 s.a7[j]]
    ·by_cases hlt:p<s.a7.length
     ·have l1:=iG (Int.not_lt.1 (b2 hlt))
      have hx:=Q8.e.eq_1 s.a7[p]
      simp +contextual (maxSteps:=9^9) [ji,hlt,hx,l1,hp,m3,dw hlt,<-ay,q4]
     ·obtain rfl:p=s.a7.length:=by omega
      have ao:(s.a7.map Q8.e).take s.a7.length++[[.int .i64 w.aY, .int .i64 w.an]]=F.map Q8.e:=by rw[ay];simp
      have hd:(s.a7.map Q8.e).drop s.a7.length=[]:=Yu (by simp)
      simp +contextual (maxSteps:=9^9) [ji,m3,hd, ↓ao,q4]
  rcases O with⟨_,q2,q1⟩|⟨_,q2,q1⟩<;>rw[q2]at e1<;>simp(maxSteps:=9^9) [fG,Q4.e.eq_1,e1,e2,e3,e4,e5,q2,l0,c3,c4,c5,al]
def Pn (t:Int):Int:=bif dZ t 60 then t+1 else 60
def Oi (s:Q2)(w:Q4)(fate:Int):Q2×Int:=
 if fate=0 then wm s w else if fate=2 then wm s w else if fate=3 then wm (wm s w).1 w else(s,4)
def BF (y:Z0)(s:Q2)(now fate:Int):Z0×Q2×Int:=
 bif mW y.a6&&((ye y.a6).2&&(!(dZ now y.ae)&&rg now 0 1000000000000))then
  bif (fate==0||fate==3)&&((Oi s (ye y.a6).1 fate).2==1||(Oi s (ye y.a6).1 fate).2==2)then(⟨(xe y.a6 (ye y.a6).1.an).1,0,0⟩,(Oi s (ye y.a6).1 fate).1,1)
  else(⟨y.a6,Pn y.aT,now+boX (Pn y.aT)⟩,(Oi s (ye y.a6).1 fate).1,2)
 else(y,s,0)
def S7 (t:Int):1<=boX t/\ boX t<=64:=by unfold boX pw boT;have h:min t.toNat 6<=6:=Nat.min_le_right _ _;generalize min t.toNat 6=k at h;rcases k with _|_|_|_|_|_|_|k;decide;decide;decide;decide;decide;decide;decide;omega
def aeF {t:Int}(h:og t):og (Pn t):=by unfold Pn;unfold og at h⊢;cases c:dZ t 60;simp only[cond_false];omega;have:=of_decide_eq_true c;simp only[cond_true];omega
def abk :og 0:=by unfold og;omega
def Tu {B:Nat}{o:Y0}(h:o.Ok B):(ye o).1.Ok B:=by
 obtain⟨d,n,ws⟩:=o;unfold ye;cases ws with
 |nil=>have z:=abk;exact⟨z,z,⟨z,z,YB _⟩,YB _,z⟩
 |cons w ws=>exact h.2.2.2 w Yw
def ad1 {B:Nat}{o:Y0}(h:o.Ok B)(q:Int):(xe o q).1.Ok B:=by unfold xe;cases mW o;exact h;exact⟨h.1,h.2.1,Zc (YD _ _) h.2.2.1,fun x m=>h.2.2.2 x (QL.1 m).1⟩
def aes {B:Nat}(hB:100<=B){s:Q2}(h:s.Ok B){w:Q4}(hw:w.Ok B)(hc:s.aD.length+2<=B)(fate:Int):(Oi s w fate).1.Ok B:=by
 have h1:=Ol hB h hw (by omega);unfold Oi;split;exact h1;split;exact h1;split;refine Ol hB h1 hw ?_;have:(wm s w).1.aD.length<=s.aD.length+1:=by unfold wm;cases kC s&&Ba w;simp only[cond_false];omega;simp only[cond_true];cases dZ (fP (FG w.aY) s.a7) 0&& !(dZ s.a7.length 60);simp only[cond_false];cases !(dZ (j4 s w.aY) w.an);simp only[cond_false];cases dZ (j4 s w.aY+1) w.an;simp only[cond_false,Zv,Zo,Zx];omega;simp only[cond_true];omega;simp only[cond_true];omega;simp only[cond_true];omega
 omega;exact h
def abZ {B:Nat}(hB:100<=B){y:Z0}(hy:y.Ok B){s:Q2}(h:s.Ok B)(hc:s.aD.length+2<=B)(now fate:Int):(BF y s now fate).1.Ok B/\ (BF y s now fate).2.1.Ok B:=by
 have hr:=aes hB h (Tu hy.1) hc fate;have hb:=S7 (Pn y.aT);unfold BF;cases c1:mW y.a6&&((ye y.a6).2&&(!(dZ now y.ae)&&rg now 0 1000000000000));exact⟨hy,h⟩;simp only[cond_true];have hn:0<=now/\ now<=1000000000000:=by simp only[Zg]at c1;simpa[vE]using c1.2.2.2
 cases(fate==0||fate==3)&&((Oi s (ye y.a6).1 fate).2==1||(Oi s (ye y.a6).1 fate).2==2);refine⟨⟨hy.1,aeF hy.2.1,?_⟩,hr⟩;show og (now+boX (Pn y.aT));unfold og;omega;exact⟨⟨ad1 hy.1 _,abk,abk⟩,hr⟩
def wrL (n:Int)(rows:List (List PV)):L:=if n=1 then .own 7 rows else .down 7 rows
def Uq (r:List (List PV)):wrL 0 r= .down 7 r:=rfl
def Ur (r:List (List PV)):wrL 1 r= .own 7 r:=rfl
def Us (r:List (List PV)):wrL 2 r= .down 7 r:=rfl
def aeI (n:Int)(r:List (List PV)):wrL n r= .own 7 r \/wrL n r= .down 7 r:=by unfold wrL;split;exact .inl rfl;exact .inr rfl
abbrev syD (y:Z0)(n:Int):List L:=[.pv (.int .i64 y.a6.aY), .pv (.int .i64 y.a6.ag),wrL n (y.a6.aA.map Q4.e), .pv (.int .i64 y.aT), .pv (.int .i64 y.ae)]
abbrev ssD (x:Z0×Q2×Int):V:= .b8 [(true,syD x.1 x.2.2),(true,F7 x.2.1),(false,[.pv (.int .i64 x.2.2)])]
def BK (l:List Q4):jk (l.map Q4.e)=true:=by simp[jk,Q4.e,PV.bare]
def adI (s:Q2)(w:Q4):Oi s w 0=wm s w:=rfl
def adJ (s:Q2)(w:Q4):Oi s w 2=wm s w:=rfl
def adK (s:Q2)(w:Q4):Oi s w 3=wm (wm s w).1 w:=rfl
def adL (s:Q2)(w:Q4){f:Int}(h0:¬f=0)(h2:¬f=2)(h3:¬f=3):Oi s w f=(s,4):=by unfold Oi;rw[if_neg h0,if_neg h2,if_neg h3]
def Vr {t:Int}(h:dZ t 60=true):Pn t=t+1:=by unfold Pn;rw[h];rfl
def Vq {t:Int}(h:dZ t 60=false):Pn t=60:=by unfold Pn;rw[h];rfl
def adk {t:Int}(h:og t)(c:dZ t 60=true):IntKind.i64.wrap (t+1)=t+1:=by have:=of_decide_eq_true c;unfold og at h;rw[IntKind.wrap_i64];omega
def SS {n b:Int}(h:rg n 0 1000000000000=true)(hb:1<=b/\ b<=64):IntKind.i64.wrap (n+b)=n+b:=by rw[vE]at h;rw[IntKind.wrap_i64];omega
def BG (b:Q1)(y:Z0):Q1:=⟨b.aP,b.av,b.ar,b.a3,b.aM,⟨b.a4.aB,b.a4.ab,y⟩,b.aa,b.af⟩
def Dw (w:Q5)(fate:Int):Int:=bif w.aN then fate else 1
def AN (w:Q5)(s t:List UInt8)(fate:Int):List Q1×List Q2×Int:=bif iF w&&(!(dZ (fP (yX s t) w.a2.a0) 0)&& !(dZ (iV s) 0))then(match w.a2.a0[(fP (yX s t) w.a2.a0).toNat]?,w.a5[(iV s).toNat]? with
 |some b,some v=>(w.a2.a0.set (fP (yX s t) w.a2.a0).toNat (BG b (BF b.a4.aH v w.ak (Dw w fate)).1),w.a5.set (iV s).toNat (BF b.a4.aH v w.ak (Dw w fate)).2.1,(BF b.a4.aH v w.ak (Dw w fate)).2.2)
 |_,_=>(w.a2.a0,w.a5,0))else(w.a2.a0,w.a5,0)
abbrev SW (w:Q5)(bs:List Q1)(sv:List Q2):List L:=[.pv (.int .i64 w.ak), .pv (.bool w.aN), .pv (.int .i64 w.aQ),nd 24 (bs.map Q1.e), .down 11 (w.aL.map X6.e), .pv (.int .i64 w.aI), .down 4 (w.aJ.aJ.map X5.e), .down 3 (w.aO.aX.map X9.e),nd 4 (w.aK.map X3.e),nd 5 (sv.map Q2.e)]
abbrev Un (w:Q5)(bs:List Q1)(sv:List Q2):List L:=[.pv (.int .i64 w.ak), .pv (.bool w.aN), .pv (.int .i64 w.aQ),pm 24 (bs.map Q1.e), .own 11 (w.aL.map X6.e), .pv (.int .i64 w.aI), .own 4 (w.aJ.aJ.map X5.e), .own 3 (w.aO.aX.map X9.e), .own 4 (w.aK.map X3.e), .own 5 (sv.map Q2.e)]
def ta {w:Q5}(h:iF w=true):w.a5.length=3/\ w.aK.length=3/\ rz w.a2.a0=true:=by simp only[iF,Zg,beq_iff_eq]at h;obtain⟨_,_,h3,_,_,_,h7,h8,_⟩:=h;exact⟨by omega,by omega,h3⟩
def xH (w:Q5)(s t:List UInt8)(fate:Int):((!(iF w)||(dZ (fP (yX s t) w.a2.a0) 0||dZ (iV s) 0))=true/\ AN w s t fate=(w.a2.a0,w.a5,0)) \/
 ∃k,∃hk:k<w.a2.a0.length,∃i,∃hi:i<w.a5.length,fP (yX s t) w.a2.a0=(k:Int)/\ iV s=(i:Int)/\ iF w=true/\
  AN w s t fate=(w.a2.a0.set k (BG w.a2.a0[k] (BF w.a2.a0[k].a4.aH w.a5[i] w.ak (Dw w fate)).1),w.a5.set i (BF w.a2.a0[k].a4.aH w.a5[i] w.ak (Dw w fate)).2.1,(BF w.a2.a0[k].a4.aH w.a5[i] w.ak (Dw w fate)).2.2):=by
 unfold AN;cases c1:iF w;exact .inl ⟨by simp,rfl⟩;have hs:=(ta c1).1;rcases mZ (yX s t) w.a2.a0 with⟨q1,q2⟩|⟨k,hk,q1,q2⟩;rw[q1];exact .inl ⟨rfl,rfl⟩;rcases mZ (fun u=>s==u) CL with⟨p1,_⟩|⟨i,hi,p1,_⟩;rw[show iV s= -1 from p1,q1,iG (show(0:Int)<=(k:Int) by omega)];exact .inl ⟨rfl,rfl⟩;have bt:i<3:=hi;have b4:i<w.a5.length:=by omega
 refine .inr ⟨k,hk,i,b4,q1,p1,rfl,?_⟩;rw[show iV s=(i:Int)from p1,q1,iG (show(0:Int)<=(k:Int) by omega),iG (show(0:Int)<=(i:Int) by omega)];simp only[Int.toNat_natCast,Zj hk,Zj b4,Q',ZH,cond_true]
def abT {l:List Q1}{k:Nat}(hk:k<l.length)(y:Z0):(l.set k (BG l[k] y)).map Q1.e=(l.map Q1.e).set k [.str l[k].aP, .str l[k].av, .str l[k].ar.aP, .int .i64 l[k].ar.aV, .int .i64 l[k].ar.ah, .int .i64 l[k].ar.aj, .lst (l[k].a3.a3.map X1.e), .str l[k].aM.aB.aG, .int .i64 l[k].aM.aB.aC, .lst (l[k].aM.aB.a9.map Q6.e), .lst (l[k].aM.aB.aE.map X0.e), .lst (cC l[k].aM.aw), .int .i64 l[k].aM.aq, .str l[k].a4.aB.aG, .lst (l[k].a4.aB.a1.map Q3.e), .int .i64 l[k].a4.aB.aS, .int .i64 l[k].a4.ab, .int .i64 y.a6.aY, .int .i64 y.a6.ag, .lst (y.a6.aA.map Q4.e), .int .i64 y.aT, .int .i64 y.ae, .int .i64 l[k].aa, .bool l[k].af]:=by rw[YK];rfl
def abO {l:List Q2}{i:Nat}(v:Q2):(l.set i v).map Q2.e=(l.map Q2.e).set i [.str v.aF.aG, .lst (v.aF.a1.map Q3.e), .int .i64 v.aF.aS, .lst (v.a7.map Q8.e), .lst (v.aD.map Q4.e)]:=by rw[YK];rfl
end Gi
namespace Gi
open Go Go.RowKit
set_option maxHeartbeats 8000000
set_option maxRecDepth 8000
attribute [local simp] start iN cD cj cT dG dY fa Opd.ev put V.cells plain dP ja isInt isStr isBool bin ft un asList L.view cy V.view viewL done dd cu fb eh comp cU dS cz V.flat L.flat fe fv dK putAt freezeVs freezeLs freezeL V.mut L.mut lent Q0.ba L.bL vB yy nV yI pd Bw PV.flat PV.bare nK Q0.zone
def pj {n:Int}(h:og n):mY (.int .i64) (.int .i64 n):=by unfold og at h;simp only[mY,Lit.wf,IntKind.min,IntKind.max,IntKind.signed,IntKind.bits,true_and];simp;omega
def My {s:List UInt8}(h:s.length<=1048576):mY .str (.str s):=by show s.length<=maxLen;unfold maxLen;omega
def Mx {x:Q3}(h:x.Ok 1048576):dX Gd x.e:=by obtain⟨⟨h1,h2,h3⟩,h4,h5⟩:=h;refine⟨pj h1,pj h2,My h3,⟨by rw[Zr];unfold maxLen;omega,fun r m=> ?_⟩,trivial⟩;obtain⟨f,hf,rfl⟩:=ZV.1 m;obtain⟨g1,g2⟩:=h5 f hf;exact⟨My g1,pj g2,trivial⟩
def Cc {x:Q4}(h:x.Ok 1048576):dX AQ x.e:=by obtain⟨h1,h2,⟨h3,h4,h5⟩,h6,h7⟩:=h;exact⟨pj h1,pj h2,pj h3,pj h4,My h5,My h6,pj h7,trivial⟩
def Ij {α:Type}{e:α->List PV}{B:Nat}:∀{l:List α},(∀x∈l,gV (e x)<=B)->dR (l.map e)<=B*l.length
 |[],_=>by simp[dR]
 |x::l,h=>by have:=Ij (e:=e) (B:=B) (l:=l) (fun y m=>h y (Ym _ m));have h0:=h x (Yw ..);simp only[Zt,dR,Zo,Nat.mul_succ];omega
def KH {s:Q6}(h:gy s=true):gV [.str s.aG, .lst (s.a1.map Q3.e), .int .i64 s.aS]<=4096:=by
 simp only[gy,Zg,Zz]at h;obtain⟨h1,h2,h3,_⟩:=h;have hn:=yl h2;have hl:=of_decide_eq_false h3;have hi:∀x∈s.a1,gV x.e<=128:=by intro x m;obtain⟨j,hj,rfl⟩:=Yb.1 m;have:=tJ h1 hj;simp only[La,hj,show j-1<s.a1.length by omega,Zj,ZR,Ya]at this;obtain⟨k1,k2,_⟩:=this;have q1:=xw k1;obtain⟨q2,q3⟩:=AM k2;have:=Ij (e:=Q9.e) (B:=8) (l:=s.a1[j].au.fs) (fun f m=>by have:=(q3 f m).1;simp only[Q9.e,gV,sz];omega);rw[Q3.e.eq_1];simp only[gV,sz,Zr];omega
 have:=Ij hi;simp only[gV,sz,Zr];omega
def xb {α:Type}(e:α->List PV)(p:α->Bool):∀xs:List α,dR ((xs.filter p).map e)<=dR (xs.map e)
 |[]=>Zi _
 |x::xs=>by have ih:=xb e p xs;cases h:p x<;>simp only[YT,h,if_true,if_false,Zt,dR,ZA]<;>omega
def Ad {c:Nat}:∀{rows:List (List PV)}{j:Nat}{r:List PV}(hj:j<rows.length),gV r<=gV rows[j]+c->dR (rows.set j r)<=dR rows+c
 |x::rows,0,r,_,h=>by simp only[ZP,dR];simp only[Yz]at h;omega
 |x::rows,j+1,r,hj,h=>by have ih:=Ad (rows:=rows) (j:=j) (r:=r) (by simpa using hj) (by simpa using h);simp only[Yf,dR];omega
def Dy {α:Type}{e:α->List PV}{t:List PTy}{l:List α}(hl:l.length<=1048576)(h:∀x∈l,dX t (e x)):mY (.lst t) (.lst (l.map e)):=by refine⟨by rw[Zr];unfold maxLen;omega,fun r m=> ?_⟩;obtain⟨f,hf,rfl⟩:=ZV.1 m;exact h f hf
def Rm {x:Q2}(h:x.Ok 1048576):dX fL x.e:=by obtain⟨⟨h1,⟨h2,h3⟩,h4⟩,⟨h5,h6⟩,h7,h8⟩:=h;refine⟨My h1,Dy h2 (fun x m=>Mx (h3 x m)),pj h4,Dy h5 (fun x m=> ?_),Dy h7 (fun x m=>Cc (h8 x m)),trivial⟩;exact⟨pj (h6 x m).1,pj (h6 x m).2,trivial⟩
def aaq {b:Q1}{y:Z0}(h:dX eR b.e)(hy:y.Ok 1048576):dX eR (BG b y).e:=by obtain⟨⟨h6,h7,h8,h9⟩,b6,b7⟩:=hy;simp only[Q1.e,BG,eR,dX]at h⊢;obtain⟨a0,a1,a2,a3,a4,a5,a6,a7,a8,a9,b9,bb,bc,bd,bf,bg,bh,_,_,_,_,_,a22,bj,_⟩:=h;exact⟨a0,a1,a2,a3,a4,a5,a6,a7,a8,a9,b9,bb,bc,bd,bf,bg,bh,pj h6,pj h7,Dy h8 (fun x m=>Cc (h9 x m)),pj b6,pj b7,a22,bj,trivial⟩
def afm (b:Q1):List PV:=b.e.take 17
def adF (b:Q1):List PV:=b.e.drop 22
def acb {b:Q1}{y:Z0}(h:dR (y.a6.aA.map Q4.e)<=dR (b.a4.aH.a6.aA.map Q4.e)/\ y.a6.aA.length<=b.a4.aH.a6.aA.length):gV (BG b y).e<=gV b.e:=by have e1:(BG b y).e=afm b++([.int .i64 y.a6.aY, .int .i64 y.a6.ag, .lst (y.a6.aA.map Q4.e), .int .i64 y.aT, .int .i64 y.ae]++adF b):=rfl;have e2:b.e=afm b++([.int .i64 b.a4.aH.a6.aY, .int .i64 b.a4.aH.a6.ag, .lst (b.a4.aH.a6.aA.map Q4.e), .int .i64 b.a4.aH.aT, .int .i64 b.a4.aH.ae]++adF b):=rfl;rw[e1,e2,ut,ut,ut,ut];simp only[gV,sz,Zr];omega
def aeA (y:Z0)(s:Q2)(now fate:Int):dR ((BF y s now fate).1.a6.aA.map Q4.e)<=dR (y.a6.aA.map Q4.e)/\ (BF y s now fate).1.a6.aA.length<=y.a6.aA.length:=by unfold BF;cases mW y.a6&&((ye y.a6).2&&(!(dZ now y.ae)&&rg now 0 1000000000000));exact⟨Zi _,Zi _⟩;simp only[cond_true];cases(fate==0||fate==3)&&((Oi s (ye y.a6).1 fate).2==1||(Oi s (ye y.a6).1 fate).2==2);exact⟨Zi _,Zi _⟩;simp only[cond_true];unfold xe;cases mW y.a6;exact⟨Zi _,Zi _⟩;exact⟨xb Q4.e _ _,YD _ _⟩
def aeq {s:Q6}(h:gy s=true)(k:Y7)(r:X7):gy (Bd s k r).1=true:=by unfold Bd;cases c:gy s&&(nI k&&gL r.fs);exact h;simp only[Zg]at c;obtain⟨_,ck,cr⟩:=c;simp only[cond_true];rcases AB (FH k) s.a1 with hf|⟨j,hj,hf,hq⟩;rw[if_neg (by omega)];split;exact h;rw[Gy h ck hf,cr];simp only[Yj,decide_eq_true_eq];omega;rw[if_pos (by omega),hf];simp only[Int.toNat_natCast];rw[Gz h hj (NZ.1 hq)];exact cr
def aey {s:Q6}(h:gy s=true)(w:Q4):gy (vH s w).1=true:=by unfold vH;cases(setR (kH s w.aZ).fs w.aU w.n).2;exact h;exact aeq h _ _
def KG :∀(a b:List (List PV)),dR (a++b)=dR a+dR b
 |[],b=>by simp[dR]
 |x::a,b=>by rw[Zh,dR,dR,KG a b];omega
def adN (s:Q2)(w:Q4):gV (wm s w).1.e<=gV s.e+5000:=by
 unfold wm;cases c1:kC s;simp only[ZX,cond_false];exact ZU _ _;cases c2:Ba w;simp only[ZY,cond_false];exact ZU _ _;simp only[ZH,cond_true];cases dZ (fP (FG w.aY) s.a7) 0&& !(dZ s.a7.length 60);rotate_left;simp only[cond_true];exact ZU _ _;simp only[cond_false];cases !(dZ (j4 s w.aY) w.an);rotate_left;simp only[cond_true];exact ZU _ _;simp only[cond_false];cases dZ (j4 s w.aY+1) w.an;rotate_left;simp only[cond_true];exact ZU _ _;simp only[cond_false];have bk:gy s.aF=true:=by simp only[kC,Zg]at c1;exact c1.2.2.1
 have h1:=KH (aey bk w);have h2:(xC s.a7 w.aY w.an).length<=s.a7.length+1:=by have hp:=AI w.aY s.a7;rcases Ac c1 w.aY w.an with⟨j,hj,_,_,q,_⟩|⟨_,q,_⟩;rw[q];simp only[ZC];omega;rw[q];simp only[Zv,Zo,ZI,YE];omega
 have h3:dR ((xC s.a7 w.aY w.an).map Q8.e)<=0*(xC s.a7 w.aY w.an).length:=Ij (e:=Q8.e) (B:=0) (fun x _=>by simp only[Q8.e,gV,sz];omega);have h4:gV w.e<=100:=by simp only[Ba,Zg]at c2;obtain⟨_,_,k1,k2,_⟩:=c2;have q1:=xw k1;have q2:=yl k2;simp only[Q4.e,gV,sz];omega
 simp only[Q2.e,gV,sz,Zr,Qf,Zt,Zy,KG,dR,Zv,Zo,Zx]at h1⊢;generalize gV w.e=A at*;generalize dR ((xC s.a7 w.aY w.an).map Q8.e)=C at*;generalize dR ((vH s.aF w).1.a1.map Q3.e)=D at*;generalize dR (s.aD.map Q4.e)=E at*;generalize dR (s.a7.map Q8.e)=F at*;generalize dR (s.aF.a1.map Q3.e)=G at*;omega
def afn (s:Q2)(w:Q4)(fate:Int){c:Nat}(hc:5000<=c)(hf:fate=3->10000<=c):gV (Oi s w fate).1.e<=gV s.e+c:=by have h1:=adN s w;have h2:=adN (wm s w).1 w;unfold Oi;split;omega;split;omega;split;rename_i q;have:=hf q;omega;exact ZU _ _
def afs (y:Z0)(s:Q2)(now fate:Int){c:Nat}(hc:5000<=c)(hf:fate=3->10000<=c):gV (BF y s now fate).2.1.e<=gV s.e+c:=by have h:=afn s (ye y.a6).1 fate hc hf;unfold BF;cases mW y.a6&&((ye y.a6).2&&(!(dZ now y.ae)&&rg now 0 1000000000000));exact ZU _ _;simp only[cond_true];cases(fate==0||fate==3)&&((Oi s (ye y.a6).1 fate).2==1||(Oi s (ye y.a6).1 fate).2==2);exact h;exact h
def Vf {α:Type}{e:α->List PV}{t:List PTy}{l:List α}{k:Nat}(hk:k<l.length){x:α}{c:Nat}(h:mY (.lst t) (.lst (l.map e)))(hx:dX t (e x))(hs:gV (e x)<=gV (e (l[k]'hk))+c):mY (.lst t) (.lst ((l.set k x).map e))/\ sz (.lst ((l.set k x).map e))<=sz (.lst (l.map e))+c:=by
 obtain⟨h1,h2⟩:=dM h;have hlm:k<(l.map e).length:=by rw[Zr];exact hk
 have hg:(l.map e)[k]'hlm=e (l[k]'hk):=List.getElem_map ..;have b5:=Ad (c:=c) (rows:=l.map e) (r:=e x) hlm (by rw[hg];exact hs);rw[YK,mP,mP,ZC];refine⟨⟨by rw[ZC];exact h1,fun r' bl=> ?_⟩,?_⟩;rcases ZF bl with m|rfl;exact h2 r' m;exact hx;generalize dR ((l.map e).set k (e x))=A at b5⊢;generalize dR (l.map e)=B at b5⊢;omega
def aew {w:Q5}{s t:List UInt8}{fate:Int}(hk:w.Ok 1048576)(hc:iF w=true->∀v∈w.a5,v.aD.length+2<=1048576)(h:mY (.lst eR) (.lst (w.a2.a0.map Q1.e)))(hv:mY (.lst fL) (.lst (w.a5.map Q2.e))){c:Nat}(h5:5000<=c)(hf:Dw w fate=3->10000<=c):
 mY (.lst eR) (.lst ((AN w s t fate).1.map Q1.e))/\ sz (.lst ((AN w s t fate).1.map Q1.e))<=sz (.lst (w.a2.a0.map Q1.e))/\
 mY (.lst fL) (.lst ((AN w s t fate).2.1.map Q2.e))/\ sz (.lst ((AN w s t fate).2.1.map Q2.e))<=sz (.lst (w.a5.map Q2.e))+c:=by
 rcases xH w s t fate with⟨_,e⟩|⟨k,hlt,i,hi,_,_,c1,e⟩;rw[e];exact⟨h,Zi _,hv,ZU _ _⟩;rw[e];have bm:=hk.2.2.1.2 _ (Zf hlt);have bn:=hk.2.2.2.2.2.2.2.2.2 _ (Zf hi);have bo:=hc c1 _ (Zf hi);have az:100<=1048576:=by omega
 have aR:=abZ az bm.2.2.2.2.2.1.2.2 bn bo w.ak (Dw w fate);have z1:=aeA w.a2.a0[k].a4.aH w.a5[i] w.ak (Dw w fate);have z2:=afs w.a2.a0[k].a4.aH w.a5[i] w.ak (Dw w fate) h5 hf;generalize BF w.a2.a0[k].a4.aH w.a5[i] w.ak (Dw w fate)=p at*;obtain⟨p1,p2,p3⟩:=p;simp only at aR z1 z2⊢;have b2:dX eR (w.a2.a0[k]).e:=(dM h).2 _ (ZV.2 ⟨_,Zf hlt,rfl⟩);have r1:=aaq b2 aR.1;have z3:gV (BG w.a2.a0[k] p1).e<=gV (w.a2.a0[k]).e+0:=Zc (acb z1) (ZU _ _);have y1:=Vf (c:=0) hlt h r1 z3;have y2:=Vf (c:=c) hi hv (Rm aR.2) z2;exact⟨y1.1,y1.2,y2.1,y2.2⟩
end Gi
namespace Gi
open Go Go.RowKit
set_option maxHeartbeats 8000000
set_option maxRecDepth 4000
attribute [local simp] start qt dY fa fh gj fg gi gr gq rB rY rE rZ rH r8 rI r9 rJ sa rS sd rU se rV sf rW sh V.cells plain dP ja isInt isStr isBool bin eu i7 ew i9 gl un asList L.view cy V.view viewL dd cu eC dN eh comp cU dS eV dW dD dA dC cF ct df co cE cO cA dx du cH dE dF V.flat L.flat fe fv dK putAt thaw thawL thawT V.ow gn fj fk ez gm eA fi freezeVs freezeLs freezeL V.mut L.mut cN fx iI dj dQ cZ fI ed dH eB L.bD cQ fy ej fE ep eH wp_seq wp_block dh fo eD dO eE wp_skip wp_exit wp_ret eG eM eP eN eT eU eS dV cM L.bB cX cV cW fm dI storeD dg gZ cq eK cJ nP L.bG L.closed V.closed PV.bare PV.flat
def WV (x:Q6×Bool):fe (tm x)= .b8 [(true,Kw x.1),(false,[.pv (.bool x.2)])]:=by simp[tm,Kw,fe, ↓du,fv]
def Pk (s:Q6)(ws:List Q4):Q6:=ws.foldl (fun s w=>(vH s w).1) s
def Ps {s:Q6}{ws:List Q4}{k:Nat}(h:k<ws.length):Pk s (ws.take (k+1))=(vH (Pk s (ws.take k)) ws[k]).1:=by unfold Pk;rw[ZQ h,Qn];rfl
def S2 {B:Nat}(hB:17<=B){s:Q6}(h:s.Ok B):∀{ws:List Q4},(∀w∈ws,w.Ok B)->(Pk s ws).Ok B:=by
 intro ws;induction ws generalizing s with
 |nil=>exact fun _=>h
 |cons w ws ih=>exact fun hw=>ih (Vh hB h (hw w (by simp))) fun x m=>hw x (by simp[m])
def HF {B:Nat}(ad:17<=B)(hB:B<=1048576){s:Q6}(h:s.Ok B){ws:List Q4}(hw:∀w∈ws,w.Ok B)(hl:ws.length<=maxLen):cf Ph cK 313 [s.v,eW (ws.map Q4.e)]=some (.agg (Kw (Pk s ws))):=by have e1:=jM hB h;have e2:=Oq s;generalize hn:(V.agg [.pv (.str s.aG),nd 4 (s.a1.map Q3.e), .pv (.int .i64 s.aS)])=nv at*;simp only[Kw]at e2⊢;refine ca rfl ?_;simp(maxSteps:=9^9) [uO,e1, ↓e2, ↓ct, ↓cE];refine eX dz Cl.fin ws.length [.f,.f,.f,.f,.t,.t,.f,.f,.f,.f,.t,.t,.t,.f,.f,.f,.f,.f,.f,.f,.f,.f,.f,.f] (fun k=>[(12,ce .i64 k)]) (fun k=>[.box [.pv (.str s.aG), .pv (.lst (s.a1.map Q3.e)), .pv (.int .i64 s.aS)], .box [.pv (.str []), .nil, .pv (.int .i64 0)], .box (Kw (Pk s (ws.take k)))]) rfl (Kn.of [0,1,2] (by decide) (by simp[Pk,Kw, ↓cO]) (by simp)) (fun k hk=> ?_) ?_;have hx:=Q4.e.eq_1 ws[k];have aW:=S2 ad h (ws:=ws.take k) fun w m=>hw w (ZB m);have e3:=tv ad hB aW (hw _ (Zf hk));rw[Q4.e.eq_1]at e3;have e5:=WV (vH (Pk s (ws.take k)) ws[k]);have e4:=TU (s:=Pk s (ws.take k)) (w:=ws[k]);rw[Ps hk];generalize Pk s (ws.take k)=a at*;generalize bp:vH a ws[k]=sx at*;generalize tm sx=pr at*;obtain⟨a',b⟩:=sx;simp only[Kw,Zt,Zy]at e3 e4 e5⊢;cases b;obtain rfl:=e4 rfl;simp(maxSteps:=9^9) [lN,hk,hx,e3, ↓e5,cY hl hk,dw hk, ↓cH, ↓ct, ↓cF, ↓co, ↓df,-fx];exact Kn.of [0,1,2] (by decide) (by simp[↓cO]) (by simp);simp(maxSteps:=9^9) [lN,hk,hx,e3, ↓e5,cY hl hk,dw hk, ↓cH, ↓ct, ↓cF, ↓co, ↓df,-fx];exact Kn.of [0,1,2] (by decide) (by simp[↓cO]) (by simp);rw[Yd];simp only[Kw];simp(maxSteps:=9^9) [lN, ↓ct, ↓cE]
def F6 {B:Nat}(ad:17<=B)(hB:B<=1048576){s:Q6}(h:s.Ok B){ws:List Q4}(hw:∀w∈ws,w.Ok B)(hl:ws.length<=maxLen):cf Ph cK 311 [s.v,eW (ws.map Q4.e)]=some (.agg (Kw (Pk s ws))):=by have e1:=mj hB h;have e2:=Oq s;generalize hn:(V.agg [.pv (.str s.aG),nd 4 (s.a1.map Q3.e), .pv (.int .i64 s.aS)])=nv at*;simp only[Kw]at e2⊢;refine ca rfl ?_;simp(maxSteps:=9^9) [ub,e1, ↓e2, ↓ct, ↓cE];refine eX dz Cl.fin ws.length [.f,.t,.f,.f,.t,.t,.t,.f,.f,.f,.f,.f,.f,.f,.f,.f,.f,.f,.f,.f,.f,.f,.f,.f,.f,.f,.f,.f,.f] (fun k=>[(6,ce .i64 k)]) (fun k=>[.box [.pv (.str s.aG), .pv (.lst (s.a1.map Q3.e)), .pv (.int .i64 s.aS)], .box [.pv (.str []), .nil, .pv (.int .i64 0)], .box (Kw (Pk s (ws.take k)))]) rfl (Kn.of [0,1,2] (by decide) (by simp[Pk,Kw, ↓cO]) (by simp)) (fun k hk=> ?_) ?_;have hx:=Q4.e.eq_1 ws[k];have aW:=S2 ad h (ws:=ws.take k) fun w m=>hw w (ZB m);have e3:=tx ad hB aW (hw _ (Zf hk));rw[Q4.e.eq_1]at e3;have e4:=TU (s:=Pk s (ws.take k)) (w:=ws[k]);rw[Ps hk];generalize Pk s (ws.take k)=a at*;generalize bp:vH a ws[k]=sx at*;obtain⟨a',b⟩:=sx;simp only[Kw,Zt,Zy]at e3 e4⊢;cases b;obtain rfl:=e4 rfl;simp(maxSteps:=9^9) [kY,hk,hx,e3,cY hl hk,dw hk, ↓cH, ↓ct, ↓cF, ↓co, ↓df,-fx];exact Kn.of [0,1,2] (by decide) (by simp[↓cO]) (by simp);simp(maxSteps:=9^9) [kY,hk,hx,e3,cY hl hk,dw hk, ↓cH, ↓ct, ↓cF, ↓co, ↓df,-fx];exact Kn.of [0,1,2] (by decide) (by simp[↓cO]) (by simp);rw[Yd];simp only[Kw];simp(maxSteps:=9^9) [kY, ↓ct, ↓cE]
abbrev afo (x:X8):List L:=[.pv (.str x.aB.aG),nQ (x.aB.a1.map Q3.e), .pv (.int .i64 x.aB.aS), .pv (.int .i64 x.ab), .pv (.int .i64 x.aH.a6.aY), .pv (.int .i64 x.aH.a6.ag), .pv (.lst (x.aH.a6.aA.map Q4.e)), .pv (.int .i64 x.aH.aT), .pv (.int .i64 x.aH.ae)]
def R7 (x:X8):fe (.agg [.pv (.str x.aB.aG),nd 4 (x.aB.a1.map Q3.e), .pv (.int .i64 x.aB.aS), .pv (.int .i64 x.ab), .pv (.int .i64 x.aH.a6.aY), .pv (.int .i64 x.aH.a6.ag), .down 7 (x.aH.a6.aA.map Q4.e), .pv (.int .i64 x.aH.aT), .pv (.int .i64 x.aH.ae)])= .agg (afo x):=by simp[fe, ↓du,fv]
def RP (r:X8)(s:Q2):X8:=⟨Pk r.aB (s.aD.drop r.ab.toNat),(s.aD.length:Nat),⟨(xe r.aH.a6 (j4 s r.aH.a6.aY)).1,r.aH.aT,r.aH.ae⟩⟩
def mz (r:X8)(s:Q2):X8×Int:=bif vx r&&(kC s&& !(dZ (s.aD.length:Nat) r.ab))then(RP r s,(s.aD.length:Int)-r.ab)else(r,0)
abbrev adG (x:X8×Int):V:= .b8 [(true,afo x.1),(false,[.pv (.int .i64 x.2)])]
def acs {B:Nat}{o:Y0}(h:o.Ok B)(q:Int):(xe o q).1.Ok B:=by unfold xe;cases mW o<;>simp only[cond_true,cond_false];exact h;exact⟨h.1,h.2.1,Zc (YD _ _) h.2.2.1,fun x m=>h.2.2.2 x (QL.1 m).1⟩
def DY {r:X8}(h:r.Ok 1048576){s:Q2}(hs:s.Ok 1048576):(mz r s).1.Ok 1048576:=by unfold mz;cases vx r&&(kC s&& !(dZ (s.aD.length:Nat) r.ab))<;>simp only[cond_true,cond_false];exact h;refine⟨S2 (by omega) h.1 (fun w m=>hs.2.2.2 w (Yc m)),?_,acs h.2.2.1 _,h.2.2.2.1,h.2.2.2.2⟩;have:=hs.2.2.1;simp only[RP,og];omega
def A3 {r:X8}(h:r.Ok 1048576){s:Q2}(hs:s.Ok 1048576):cf Ph cK 649 [r.v,s.v]=some (adG (mz r s)):=by
 have e1:=pb (Zi 1048576) h;have e2:=R7 r;have e3:=wh (X8.Ok.mono (show 1048576<=maxLen by unfold maxLen;omega) h);have e4:=sY (Q2.Ok.mono (show 1048576<=maxLen by unfold maxLen;omega) hs);have e6:=yF (s:=s) (Zc hs.2.1.1 (by unfold maxLen;omega)) r.aH.a6.aY;have e7:=wg (Zi 1048576) h.2.2.1 (j4 s r.aH.a6.aY);have bq:=hs.2.2.1;unfold mz;generalize V.agg [.pv (.str r.aB.aG),nd 4 (r.aB.a1.map Q3.e), .pv (.int .i64 r.aB.aS), .pv (.int .i64 r.ab), .pv (.int .i64 r.aH.a6.aY), .pv (.int .i64 r.aH.a6.ag), .down 7 (r.aH.a6.aA.map Q4.e), .pv (.int .i64 r.aH.aT), .pv (.int .i64 r.aH.ae)]=nv at*;cases c1:vx r<;>rw[c1]at e3;simp only[ZX,cond_false];refine ca rfl ?_;simp(maxSteps:=9^9) [gG,e1, ↓e2,e3, ↓cH, ↓cE, ↓ct, ↓cF, ↓co, ↓df, ↓cA];cases c2:kC s<;>rw[c2]at e4;simp only[ZX,ZY,cond_false];refine ca rfl ?_;simp(maxSteps:=9^9) [gG,e1, ↓e2,e3,e4, ↓cH, ↓cE, ↓ct, ↓cF, ↓co, ↓df, ↓cA];cases c3:dZ (s.aD.length:Nat) r.ab;rotate_left;simp only[Yj,Yv,cond_false];refine ca rfl ?_;simp(maxSteps:=9^9) [gG,e1, ↓e2,e3,e4,c3, ↓cH, ↓cE, ↓ct, ↓cF, ↓co, ↓df, ↓cA];have b0:r.ab<=(s.aD.length:Int):=by have:=of_decide_eq_false c3;omega
 have h0:0<=r.ab:=by simp only[vx,Zg,vE]at c1;omega
 have e5:=HF (by omega) (Zi 1048576) h.1 (ws:=s.aD.drop r.ab.toNat) (fun w m=>hs.2.2.2 w (Yc m)) (by rw[YE];unfold maxLen;omega);have t5:∀x:Q4,x.e.length=7:=fun _=>rfl;have t1:((s.aD.map Q4.e).drop r.ab.toNat).take (s.aD.length-r.ab.toNat)=(s.aD.drop r.ab.toNat).map Q4.e:=by rw[<-List.map_drop];exact Zs (by simp)
 have w1:IntKind.i64.wrap ((s.aD.length:Int)-r.ab)=(s.aD.length:Int)-r.ab:=by rw[IntKind.wrap_i64];omega
 simp only[Yj,Q',cond_true,RP];simp only[Kw]at e5;generalize Pk r.aB (s.aD.drop r.ab.toNat)=ap at*;generalize (s.aD.drop r.ab.toNat).map Q4.e=D at*;generalize xe r.aH.a6 (j4 s r.aH.a6.aY)=ak at*;refine ca rfl ?_;simp(maxSteps:=9^9) [gG,e1, ↓e2,e3,e4,c3,h0,b0,t1,t5,e5,e6,e7,w1,eH,oU, ↓cH, ↓cE, ↓ct, ↓cF, ↓co, ↓df, ↓cA]
def Bi {r:X8}(h:r.Ok 1048576){s:Q2}(hs:s.Ok 1048576):cf Ph cK 646 [r.v,s.v]=some (adG (mz r s)):=by
 have e1:=uf (Zi 1048576) h;have e2:=R7 r;have e3:=wq (X8.Ok.mono (show 1048576<=maxLen by unfold maxLen;omega) h);have e4:=tf (Q2.Ok.mono (show 1048576<=maxLen by unfold maxLen;omega) hs);have e6:=yK (s:=s) (Zc hs.2.1.1 (by unfold maxLen;omega)) r.aH.a6.aY;have e7:=wn (Zi 1048576) h.2.2.1 (j4 s r.aH.a6.aY);have bq:=hs.2.2.1;unfold mz;generalize V.agg [.pv (.str r.aB.aG),nd 4 (r.aB.a1.map Q3.e), .pv (.int .i64 r.aB.aS), .pv (.int .i64 r.ab), .pv (.int .i64 r.aH.a6.aY), .pv (.int .i64 r.aH.a6.ag), .down 7 (r.aH.a6.aA.map Q4.e), .pv (.int .i64 r.aH.aT), .pv (.int .i64 r.aH.ae)]=nv at*;cases c1:vx r<;>rw[c1]at e3;simp only[ZX,cond_false];refine ca rfl ?_;simp(maxSteps:=9^9) [gJ,e1, ↓e2,e3, ↓cH, ↓cE, ↓ct, ↓cF, ↓co, ↓df, ↓cA];cases c2:kC s<;>rw[c2]at e4;simp only[ZX,ZY,cond_false];refine ca rfl ?_;simp(maxSteps:=9^9) [gJ,e1, ↓e2,e3,e4, ↓cH, ↓cE, ↓ct, ↓cF, ↓co, ↓df, ↓cA];cases c3:dZ (s.aD.length:Nat) r.ab;rotate_left;simp only[Yj,Yv,cond_false];refine ca rfl ?_;simp(maxSteps:=9^9) [gJ,e1, ↓e2,e3,e4,c3, ↓cH, ↓cE, ↓ct, ↓cF, ↓co, ↓df, ↓cA];have b0:r.ab<=(s.aD.length:Int):=by have:=of_decide_eq_false c3;omega
 have h0:0<=r.ab:=by simp only[vx,Zg,vE]at c1;omega
 have e5:=F6 (by omega) (Zi 1048576) h.1 (ws:=s.aD.drop r.ab.toNat) (fun w m=>hs.2.2.2 w (Yc m)) (by rw[YE];unfold maxLen;omega);have t5:∀x:Q4,x.e.length=7:=fun _=>rfl;have t1:((s.aD.map Q4.e).drop r.ab.toNat).take (s.aD.length-r.ab.toNat)=(s.aD.drop r.ab.toNat).map Q4.e:=by rw[<-List.map_drop];exact Zs (by simp)
 have w1:IntKind.i64.wrap ((s.aD.length:Int)-r.ab)=(s.aD.length:Int)-r.ab:=by rw[IntKind.wrap_i64];omega
 simp only[Yj,Q',cond_true,RP];simp only[Kw]at e5;generalize Pk r.aB (s.aD.drop r.ab.toNat)=ap at*;generalize (s.aD.drop r.ab.toNat).map Q4.e=D at*;generalize xe r.aH.a6 (j4 s r.aH.a6.aY)=ak at*;refine ca rfl ?_;simp(maxSteps:=9^9) [gJ,e1, ↓e2,e3,e4,c3,h0,b0,t1,t5,e5,e6,e7,w1,eH,oU, ↓cH, ↓cE, ↓ct, ↓cF, ↓co, ↓df, ↓cA]
end Gi
