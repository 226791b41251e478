/- Of this proof. -/
import Derived.Test.YtpnolnkjijmfjaaGreatGpH
import Derived.Test.YtpnolnkjijmfjaaGreatGrJ
import Derived.Test.YtpnolnkjijmfjaaGreatGmD
set_option linter.all false
namespace Gi
open Go Go.RowKit
set_option maxHeartbeats 8000000
set_option maxRecDepth 4000
attribute [local simp] start qt dY fa fh gj fg gi gr gq rB rY rE rZ rH r8 rI r9 rJ sa rS sd rU se rV sf rW sh V.cells plain dP ja isInt isStr isBool bin eu i7 ew i9 gl un asList L.view cy V.view viewL dd cu eC dN eh comp cU dS eV dW dD dA dC cF ct df co cE cO cA dx du cH dE dF V.flat L.flat fe fv dK putAt thaw thawL thawT V.ow gn fj fk ez gm eA fi freezeVs freezeLs freezeL V.mut L.mut cN fx iI dj dQ cZ fI ed dH eB L.bD cQ fy ej fE ep eH wp_seq wp_block dh fo eD dO eE wp_skip wp_exit wp_ret eG eM eP eN eT eU eS dV cM L.bB cX cV cW fm dI storeD dg gZ cq eK cJ nP L.bG L.closed V.closed PV.bare PV.flat
def mO (s:List UInt8):cf Ph cK 153 [fZ s]=some (ce .i64 (iV s)):=by
 have hl:CL.length<=maxLen:=by simp[CL,maxLen]
 unfold iV;refine ca rfl ?_;simp +contextual (maxSteps:=9^9) [qU,xK];refine cP dz Cl.fin [.t,.f,.f,.t,.t,.f,.f,.f,.f,.f,.f,.f,.f,.f,.f,.f,.f,.f,.f] (fun k=>[(4,ce .i64 k)]) CL.length (kK (fun u=>s==u) CL) rfl (by simp) (fun k hk hj=> ?_) (fun hj _=> ?_);have hf:=wV hk hj;have hs:(CL.map zS)[k]'(by simpa using hk)=[.str CL[k]]:=by simp[zS]
 have hc:(CL[k]==s)=(s==CL[k]):=Bool.beq_comm;cases hg:(s==CL[k]);rw[hg]at hc;simp(maxSteps:=9^9) [jY,kK,hk,hg,hc,cY hl hk,dw hk,zS];have ah:=hf hg;have ha:kK (fun u=>s==u) CL k=true:=by simp only[kK,hk,Zj,hg]
 rw[hg]at hc;generalize fP (fun u=>s==u) CL=F at ah⊢;generalize kK (fun u=>s==u) CL=A at ha⊢;simp(maxSteps:=9^9) [jY,ha,hk,hg,hc,ah,cY hl hk,dw hk,zS];simp +contextual (maxSteps:=9^9) [jY,wU hj]
def zZ {w:Q5}(h:w.Ok 1048576)(s t:List UInt8)(fate:Int)(hf:(!(iF w)||(dZ (fP (yX s t) w.a2.a0) 0||dZ (iV s) 0))=true):cf Ph cK 628 [w.v,fZ s,fZ t,ce .i64 fate]=some (.b8 [(true,Un w w.a2.a0 w.a5),(false,[.pv (.int .i64 0)])]):=by have a6:w.a2.a0.length<=maxLen:=Zc h.2.2.1.1 (by unfold maxLen;omega);have e1:=kQ (Zi 1048576) h;have e2:=jv a6 s t;have e3:=mO s;have e4:=mX h;have N0:=jg 24 (w.a2.a0.map Q1.e);simp only[Un,Q5.v]at e4⊢;clear h a6;generalize fP (yX s t) w.a2.a0=k at*;generalize iV s=i at*;generalize nd 24 (w.a2.a0.map Q1.e)=n0 at*;generalize pm 24 (w.a2.a0.map Q1.e)=o0 at*;generalize iF w=b1 at*;generalize hk:dZ k 0=b2 at*;generalize hi:dZ i 0=b3 at*;generalize w.aN=b4 at*;cases b1;clear hf hk hi;rcases N0 with⟨-,rfl,rfl⟩|⟨-,rfl,rfl⟩<;>(refine ca rfl ?_;simp(maxSteps:=9^9) [gX,FV,e1,e2,e3,e4]);cases b2;cases b3;simp at hf;clear hf;rcases N0 with⟨-,rfl,rfl⟩|⟨-,rfl,rfl⟩<;>(refine ca rfl ?_;simp(maxSteps:=9^9) [gX,FV,e1,e2,e3,e4,hk,hi]);clear hf hi;rcases N0 with⟨-,rfl,rfl⟩|⟨-,rfl,rfl⟩<;>(refine ca rfl ?_;simp(maxSteps:=9^9) [gX,FV,e1,e2,e3,e4,hk])
def CB {w:Q5}(h:w.Ok 1048576)(hc:iF w=true->∀v∈w.a5,v.aD.length+2<=1048576)(s t:List UInt8)(fate:Int):cf Ph cK 628 [w.v,fZ s,fZ t,ce .i64 fate]=some (.b8 [(true,Un w (AN w s t fate).1 (AN w s t fate).2.1),(false,[.pv (.int .i64 (AN w s t fate).2.2)])]):=by
 rcases xH w s t fate with⟨hf,q⟩|⟨k,hk,i,hi,q1,q2,c1,q⟩;rw[q];exact zZ h s t fate hf;have a6:w.a2.a0.length<=maxLen:=Zc h.2.2.1.1 (by unfold maxLen;omega);have e1:=kQ (Zi 1048576) h;have e2:=jv a6 s t;have e3:=mO s;have e4:=mX h;rw[q];clear q;have lk:dZ (k:Int) 0=false:=iG (by omega);have li:dZ (i:Int) 0=false:=iG (by omega);have hx:=Q1.e.eq_1 w.a2.a0[k];have hv:=Q2.e.eq_1 w.a5[i];have a1:=h.2.2.1.2 _ (Zf hk);have aa:=h.2.2.2.2.2.2.2.2.2 _ (Zf hi);have an:=a1.2.2.2.2.2.1.2.2;have ao:=hc c1 _ (Zf hi);have ne:∀(l:List Q1),0<l.length->nd 24 (l.map Q1.e)= .down 24 (l.map Q1.e)/\ pm 24 (l.map Q1.e)= .own 24 (l.map Q1.e):=fun l hl=>by
  cases l with
  |nil=>simp at hl
  |cons x xs=>exact⟨rfl,rfl⟩
 obtain⟨r,e5,s5⟩:=F4 (by omega) (Zi 1048576) an aa ao w.ak (Dw w fate);rw[q1]at e2;rw[q2]at e3;rw[c1]at e4;have d1:=abT hk (BF w.a2.a0[k].a4.aH w.a5[i] w.ak (Dw w fate)).1;have d2:=abO (l:=w.a5) (i:=i) (BF w.a2.a0[k].a4.aH w.a5[i] w.ak (Dw w fate)).2.1;simp only[Un,(ne w.a2.a0 (by omega)).1,(ne (w.a2.a0.set k (BG w.a2.a0[k] (BF w.a2.a0[k].a4.aH w.a5[i] w.ak (Dw w fate)).1)) (by simp;omega)).2]at e1⊢;rw[d1,d2];clear ne d1 d2 a6;simp only[Q5.v]at e4;simp only[ssC,syC,H3]at s5;generalize BF w.a2.a0[k].a4.aH w.a5[i] w.ak (Dw w fate)=p at*;obtain⟨y,v,n⟩:=p;unfold Dw at e5;cases c2:w.aN<;>rw[c2]at e1 e4 e5<;>simp only[cond_true,cond_false]at e5<;>(refine ca rfl ?_;simp(maxSteps:=9^9) [gX,FV,e1,e2,e3,e4,c2,e5, ↓s5,lk,li,hk,hi,hx,hv, ↓du, ↓cH, ↓cE, ↓ct, ↓cF, ↓co, ↓df, ↓cA, ↓qr])
def Wu {l:List Q1}{k:Nat}(hk:k<l.length){b:Q1}(hb:jz b=true)(h1:b.aP=l[k].aP)(h2:b.av=l[k].av)(h:rz l=true):rz (l.set k b)=true:=by
 simp only[rz,Zg,Zz]at h⊢;refine⟨M8 fun j hj=> ?_,by simpa using h.2⟩;have ad:j<l.length:=by simpa using hj
 have hp:j-1<l.length:=by omega
 have q:=tJ h.1 ad;have key:∀i(hi:i<l.length),((l.set k b)[i]'(by simpa using hi)).aP=l[i].aP/\ ((l.set k b)[i]'(by simpa using hi)).av=l[i].av:=fun i hi=>by rw[List.getElem_set];by_cases e:k=i;subst e;simp only[if_true];exact⟨h1,h2⟩;simp only[if_neg e,and_self]
 have kb:jz l[j]=true->jz ((l.set k b)[j]'hj)=true:=fun g=>by rw[List.getElem_set];by_cases e:k=j;rw[if_pos e];exact hb;rw[if_neg e];exact g
 obtain⟨s1,t1⟩:=key j ad;obtain⟨s2,t2⟩:=key (j-1) hp;have e1:(l.set k b)[j]? =some ((l.set k b)[j]'hj):=Zj hj;have e2:(l.set k b)[j-1]? =some ((l.set k b)[j-1]'(by simpa using hp)):=Zj (by simpa using hp);simp only[Nf,Zj ad,Zj hp,ZR,Ya]at q;simp only[Nf,e1,e2,ze,s1,t1,s2,t2,ZR,Ya];exact⟨kb q.1,by simpa only[ze]using q.2⟩
def zX {w:Q5}(h:w.Ok 1048576)(s t:List UInt8)(hf:(dZ (fP (yX s t) w.a2.a0) 0||(dZ (iV s) 0||(!(iF w)|| !w.aN)))=true):cf Ph cK 626 [w.v,fZ s,fZ t]=some (.b8 [(true,wO w w.a2.a0),(false,[.pv (.int .i64 (-1))])]):=by have a6:w.a2.a0.length<=maxLen:=Zc h.2.2.1.1 (by unfold maxLen;omega);have e1:=kQ (Zi 1048576) h;have e2:=jv a6 s t;have e3:=mO s;have e4:=mX h;have N0:=jg 24 (w.a2.a0.map Q1.e);simp only[wO,Q5.v]at e4⊢;clear h a6;generalize fP (yX s t) w.a2.a0=k at*;generalize iV s=i at*;generalize nd 24 (w.a2.a0.map Q1.e)=n0 at*;generalize pm 24 (w.a2.a0.map Q1.e)=o0 at*;generalize iF w=b1 at*;generalize hk:dZ k 0=b2 at*;generalize hi:dZ i 0=b3 at*;generalize w.aN=b4 at*;cases b1;clear hf hk hi;rcases N0 with⟨-,rfl,rfl⟩|⟨-,rfl,rfl⟩<;>(refine ca rfl ?_;simp(maxSteps:=9^9) [fD,e1,e2,e3,e4]);cases b2;rotate_left;clear hf hi;rcases N0 with⟨-,rfl,rfl⟩|⟨-,rfl,rfl⟩<;>(refine ca rfl ?_;simp(maxSteps:=9^9) [fD,e1,e2,e3,e4,hk]);cases b3;rotate_left;clear hf;rcases N0 with⟨-,rfl,rfl⟩|⟨-,rfl,rfl⟩<;>(refine ca rfl ?_;simp(maxSteps:=9^9) [fD,e1,e2,e3,e4,hk,hi]);cases b4;clear hf;rcases N0 with⟨-,rfl,rfl⟩|⟨-,rfl,rfl⟩<;>(refine ca rfl ?_;simp(maxSteps:=9^9) [fD,e1,e2,e3,e4,hk,hi]);simp at hf
def abQ (x:Q1)(n:Bool):fe (.b8 [(true,bkO x),(false,[.pv (.bool n)])])= .b8 [(true,bkS x),(false,[.pv (.bool n)])]:=by simp[fe, ↓dx,fv]
def vI {w:Q5}(h:w.Ok 1048576)(s t:List UInt8):cf Ph cK 626 [w.v,fZ s,fZ t]=some (.b8 [(true,wO w (K5 w s t).1),(false,[.pv (.int .i64 (K5 w s t).2)])]):=by
 have a6:w.a2.a0.length<=maxLen:=Zc h.2.2.1.1 (by unfold maxLen;omega);have e2:=jv a6 s t;have e3:=mO s;have e4:=mX h;rcases xE w s t with⟨hf,q⟩|⟨k,hk,i,hi,q1,q2,c1,c2,hb,q⟩;rw[q];exact zX h s t hf;rw[q];clear q;have a7:w.a2.a0[k].aP=s/\ w.a2.a0[k].av=t:=by simpa[yX]using hb
 have lk:dZ (k:Int) 0=false:=iG (by omega);have li:dZ (i:Int) 0=false:=iG (by omega);have hx:=Q1.e.eq_1 w.a2.a0[k];have hv:=Q2.e.eq_1 w.a5[i];have a1:=h.2.2.1.2 _ (Zf hk);have aa:=h.2.2.2.2.2.2.2.2.2 _ (Zf hi);have e5:=Bi a1.2.2.2.2.2.1 aa;have ab:=DY a1.2.2.2.2.2.1 aa;have e6:=yx a1 ab;generalize mz w.a2.a0[k].a4 w.a5[i]=p at*;have l0:(!(dZ (k:Int) 0))=true:=by rw[lk];rfl
 have ne:∀(l:List Q1),0<l.length->pm 24 (l.map Q1.e)= .own 24 (l.map Q1.e):=fun l hl=>by
  cases l with
  |nil=>simp at hl
  |cons x xs=>rfl
 cases r2:(wZ w.a2.a0[k] p.1).2;rw[r2]at e6;simp only[cond_false]at e6;have e7:=Aa h a1 hk (by rw[a7.1,a7.2];exact q1) false;have e8:=abQ w.a2.a0[k] false;simp only[ZX,cond_false,wO,ne _ (show 0<w.a2.a0.length by omega)]at e7⊢;rw[q1]at e2;rw[q2]at e3;rw[c1]at e4;clear hb a7 r2 ne;simp only[Q5.v,c2]at e4 e7;simp only[bkO,bkS]at e6 e8;generalize V.b8 [(true,_),(false,[L.pv (.bool false)])]=bv at e6 e8;refine ca rfl ?_;simp(maxSteps:=9^9) [fD,e2,e3,e4,c2,e5,e6, ↓e8,e7,lk,li,hk,hi,hx,hv, ↓cH, ↓cE, ↓ct, ↓cF, ↓co, ↓df, ↓cA, ↓qr];rw[r2]at e6;have a8:(wZ w.a2.a0[k] p.1).1=je w.a2.a0[k] p.1/\ jz (je w.a2.a0[k] p.1)=true:=by unfold wZ chX at r2⊢;cases c:jz w.a2.a0[k]&&jz (je w.a2.a0[k] p.1)<;>rw[c]at r2;simp at r2;simp only[Zg]at c;exact⟨rfl,c.2⟩
 have ai:=Wu hk (b:=je w.a2.a0[k] p.1) a8.2 rfl rfl (ta c1).2.2;have e7:=Aa h (K3 a1 ab) hk (show fP (yX (je w.a2.a0[k] p.1).aP (je w.a2.a0[k] p.1).av) w.a2.a0=(k:Int) by show fP (yX w.a2.a0[k].aP w.a2.a0[k].av) w.a2.a0=(k:Int);rw[a7.1,a7.2];exact q1) true;have aj:LZ w.a2.a0 k (je w.a2.a0[k] p.1)=(w.a2.a0.set k (je w.a2.a0[k] p.1),true):=by unfold LZ;rw[(ta c1).2.2,ai];rfl
 rw[aj]at e7;rw[a8.1];have aq:=Q1.e.eq_1 (je w.a2.a0[k] p.1);simp only[cond_true]at e6;simp only[ZH,cond_true,wO,ne _ (show 0<(w.a2.a0.set k (je w.a2.a0[k] p.1)).length by simp;omega)]at e7⊢;rw[q1]at e2;rw[q2]at e3;rw[c1]at e4;clear hb a7 r2 ne a8 ai aj;generalize je w.a2.a0[k] p.1=b' at*;generalize (w.a2.a0.set k b').map Q1.e=L1 at*;simp only[Q5.v,c2]at e4 e7;simp only[aq,Zt,Zy]at e6;refine ca rfl ?_;simp(maxSteps:=9^9) [fD,e2,e3,e4,c2,e5,e6,e7,lk,li,hk,hi,hx,hv, ↓cH, ↓cE, ↓ct, ↓cF, ↓co, ↓df, ↓cA, ↓qr]
def aex (w:Q5)(s t:List UInt8)(f:Int):(AN w s t f).1.length=w.a2.a0.length/\ (AN w s t f).2.1.length=w.a5.length:=by rcases xH w s t f with⟨_,e⟩|⟨k,hk,i,hi,_,_,_,e⟩<;>rw[e]<;>simp
def Nr (s t:List UInt8)(u:Q5):(AN (JW u) s t 0).1.length=u.a2.a0.length/\ (AN (JW u) s t 0).2.1.length=u.a5.length:=by obtain⟨n,e,_⟩:=UQ u;rw[e];exact aex _ s t 0
def zk (s t:List UInt8)(w:Q5):∀k,(yE s t w k).a2.a0.length=w.a2.a0.length/\ (yE s t w k).a5.length=w.a5.length
 |0=>⟨rfl,rfl⟩
 |k+1=>by have h1:=Nr s t (yE s t w k);have h2:=zk s t w k;exact⟨h1.1.trans h2.1,h1.2.trans h2.2⟩
def Kb (w:Q5)(s t:List UInt8):(K5 w s t).1.length=w.a2.a0.length:=by rcases xE w s t with⟨_,e⟩|⟨k,hk,i,hi,_,_,_,_,_,e⟩<;>rw[e];cases(wZ w.a2.a0[k] (mz w.a2.a0[k].a4 w.a5[i]).1).2<;>simp
def JX (u:Q5):(iF (rt u (IntKind.i64.wrap (u.ak+64)))=true/\ JW u=rt u (IntKind.i64.wrap (u.ak+64))) \/(iF (rt u (IntKind.i64.wrap (u.ak+64)))=false/\ JW u=u):=by unfold JW;cases iF (rt u (IntKind.i64.wrap (u.ak+64)));exact .inr ⟨rfl,rfl⟩;exact .inl ⟨rfl,rfl⟩
def Ia {α:Type}{e:α->List PV}{l m:List α}(h:l.length=m.length)(q:m.map e=[]):l.map e=[]:=by
 have:m=[]:=by simpa using q
 rw[this]at h;rw[Yg h];rfl
def N6 {α:Type}{e:α->List PV}{l m:List α}(h:l.length=m.length)(q:m.map e≠[])(z:Nat):nd z (l.map e)= .down z (l.map e)/\ pm z (l.map e)= .own z (l.map e):=by
 cases l with
 |nil=>exact absurd (by rw[Yg h.symm];rfl) q
 |cons x xs=>exact⟨rfl,rfl⟩
def Bg {w:Q5}(h:w.Ok 1048576){s t:List UInt8}(hd:∀k,k<=20->DI w k (yE s t w k))(hz:sz (.lst (w.a5.map Q2.e))<=1900000):cf Ph cK 630 [w.v,fZ s,fZ t]=some (.agg (Un (Ux w s t) (Ux w s t).a2.a0 (Ux w s t).a5)):=by
 have e1:=kQ (Zi 1048576) h;have step:∀k,k<20->∀u,u=yE s t w k->cf Ph cK 373 [(rt u (IntKind.i64.wrap (u.ak+64))).v]=some (cL (iF (rt u (IntKind.i64.wrap (u.ak+64)))))/\ cf Ph cK 628 [(JW u).v,fZ s,fZ t,ce .i64 0]=some (.b8 [(true,Un (JW u) (AN (JW u) s t 0).1 (AN (JW u) s t 0).2.1),(false,[.pv (.int .i64 (AN (JW u) s t 0).2.2)])]):=fun k hk u hu=>by subst hu;have d:=hd k (by omega);refine⟨mX (Ek d.ok (Pi _)),?_⟩;obtain⟨n,e,hn⟩:=UQ (yE s t w k);rw[e];exact CB (Ek d.ok (hn d.ok.1)) (d.cu (by omega) hz n) s t 0
 have e5:=vI (hd 20 (Zi _)).ok s t;refine ca rfl ?_;rcases jg 24 (w.a2.a0.map Q1.e)with⟨q3,q1,q2⟩|⟨q3,q1,q2⟩<;>rw[q1]at e1<;>simp(maxSteps:=9^9) [qc,e1];refine eX dz Cl.fin 20 [.f,.t,.t,.t,.f,.f,.t,.t,.t,.f,.f,.f,.f,.f,.f,.f,.f,.f,.f,.f,.f,.f,.f,.f,.f,.f,.f,.f,.f,.f,.f,.f,.f,.f,.f,.f,.f,.f,.f,.f,.f,.f,.f,.f] (fun k=>[(8,ce .i64 k)]) (fun k=>(fun u:Q5=>([.box (w.e.map .pv), .box [.pv (.int .i64 0), .pv (.bool false), .pv (.int .i64 0), .nil, .nil, .pv (.int .i64 0), .nil, .nil, .nil, .nil], .arr 11 (u.aL.map X6.e), .arr 4 (u.aJ.aJ.map X5.e), .arr 3 (u.aO.aX.map X9.e), .arr 4 (u.aK.map X3.e), .arr 5 (u.a5.map Q2.e), .box [.pv (.int .i64 u.ak), .pv (.bool u.aN), .pv (.int .i64 u.aQ), .nil, .arr 2, .pv (.int .i64 u.aI), .arr 3, .arr 4, .arr 5, .arr 6]]:List Q0)) (yE s t w k)) rfl (by simp[yE,Q5.e]) (fun k hk=> ?_) ?_;obtain⟨e2,e3⟩:=step k hk _ rfl;obtain⟨l1,l2⟩:=Nr s t (yE s t w k);obtain⟨l3,l4⟩:=zk s t w k;have hr:=(hd k (by omega)).rest.2.2.2.2.2.2;have ae:dZ (k:Int) 20=true:=jl (by omega);have af:IntKind.i64.wrap ((k:Int)+1)=(k:Int)+1:=by rw[IntKind.wrap_i64];omega
 have f3:pm 24 ((AN (JW (yE s t w k)) s t 0).1.map Q1.e)= .nil:=by rw[Ia (l1.trans l3) q3];rfl
 have g3:=Ia (e:=Q1.e) l3 q3;simp only[yE,dsX];generalize yE s t w k=u at*;rcases JX u with⟨c,e⟩|⟨c,e⟩<;>rw[e]at e3 f3⊢ <;>rw[c]at e2<;>generalize AN _ s t 0=p at e3 f3⊢ <;>obtain⟨p1,p2,p3⟩:=p<;>simp only at f3<;>simp only[Un,f3,g3,rt,Pe,Q5.v]at e2 e3⊢ <;>(simp(maxSteps:=9^9) [iB,e2,e3,ae,af,-fx];exact Kn.of [0,1,9,10,11,12,13,7] (by decide) (by simp[Q5.e]) (by simp));have ag:dZ (20:Int) 20=false:=rfl;obtain⟨l3,l4⟩:=zk s t w 20;have hr:=(hd 20 (Zi _)).rest.2.2.2.2.2.2;simp only[Ux,Pe,rt];have f4:pm 24 ((K5 (yE s t w 20) s t).1.map Q1.e)= .nil:=by rw[Ia ((Kb _ s t).trans l3) q3];rfl
 have g3:=Ia (e:=Q1.e) l3 q3;generalize yE s t w 20=u at*;generalize K5 u s t=p at*;obtain⟨p1,p2⟩:=p;simp only[wO,Q5.v,f4,g3]at e5⊢;simp(maxSteps:=9^9) [iB,e5,ag,Q5.e,f4];refine eX dz Cl.fin 20 [.f,.t,.t,.t,.f,.f,.t,.t,.t,.f,.f,.f,.f,.f,.f,.f,.f,.f,.f,.f,.f,.f,.f,.f,.f,.f,.f,.f,.f,.f,.f,.f,.f,.f,.f,.f,.f,.f,.f,.f,.f,.f,.f,.f] (fun k=>[(8,ce .i64 k)]) (fun k=>(fun u:Q5=>([.box (w.e.map .pv), .box [.pv (.int .i64 0), .pv (.bool false), .pv (.int .i64 0), .nil, .nil, .pv (.int .i64 0), .nil, .nil, .nil, .nil], .arr 24 (u.a2.a0.map Q1.e), .arr 11 (u.aL.map X6.e), .arr 4 (u.aJ.aJ.map X5.e), .arr 3 (u.aO.aX.map X9.e), .arr 4 (u.aK.map X3.e), .arr 5 (u.a5.map Q2.e), .box [.pv (.int .i64 u.ak), .pv (.bool u.aN), .pv (.int .i64 u.aQ), .arr 2, .arr 3, .pv (.int .i64 u.aI), .arr 4, .arr 5, .arr 6, .arr 7]]:List Q0)) (yE s t w k)) rfl (by simp[yE,Q5.e]) (fun k hk=> ?_) ?_;obtain⟨e2,e3⟩:=step k hk _ rfl;obtain⟨l1,l2⟩:=Nr s t (yE s t w k);obtain⟨l3,l4⟩:=zk s t w k;have hr:=(hd k (by omega)).rest.2.2.2.2.2.2;have ae:dZ (k:Int) 20=true:=jl (by omega);have af:IntKind.i64.wrap ((k:Int)+1)=(k:Int)+1:=by rw[IntKind.wrap_i64];omega
 have f3:=(N6 (e:=Q1.e) (l1.trans l3) q3 24).2;simp only[yE,dsX];generalize yE s t w k=u at*;rcases JX u with⟨c,e⟩|⟨c,e⟩<;>rw[e]at e3 f3⊢ <;>rw[c]at e2<;>generalize AN _ s t 0=p at e3 f3⊢ <;>obtain⟨p1,p2,p3⟩:=p<;>simp only at f3<;>simp only[Un,f3,rt,Pe,Q5.v]at e2 e3⊢ <;>(simp(maxSteps:=9^9) [iB,e2,e3,ae,af,-fx];exact Kn.of [0,1,10,11,12,13,14,15,8] (by decide) (by simp[Q5.e]) (by simp));have ag:dZ (20:Int) 20=false:=rfl;obtain⟨l3,l4⟩:=zk s t w 20;have hr:=(hd 20 (Zi _)).rest.2.2.2.2.2.2;simp only[Ux,Pe,rt];have f4:=(N6 (e:=Q1.e) ((Kb _ s t).trans l3) q3 24).2;generalize yE s t w 20=u at*;generalize K5 u s t=p at*;obtain⟨p1,p2⟩:=p;simp only[wO,Q5.v,f4]at e5⊢;simp(maxSteps:=9^9) [iB,e5,ag,Q5.e,f4]
end Gi
namespace Gi
open Go Go.RowKit
set_option maxHeartbeats 1000000
set_option maxRecDepth 4000
def J7 (w:Q5):Q5:=⟨w.ak,true,w.aQ,w.a2,w.aL,w.aI,w.aJ,w.aO,w.aK,w.a5⟩
def zT (w:Q5):Nat->Q5
 |0=>J7 w
 |k+1=>match w.a2.a0[k]? with
  |some b=>Ux (zT w k) b.aP b.av
  |none=>zT w k
def pzX (u:Q5)(s t:List UInt8):Q5:=Pe u (K5 u s t).1 u.a5
def xF (w:Q5):Nat->Q5
 |0=>zT w w.a2.a0.length
 |k+1=>match w.a2.a0[k]? with
  |some b=>pzX (xF w k) b.aP b.av
  |none=>xF w k
def adD {w:Q5}{s t:List UInt8}(hk:w.Ok 1048576):(K5 w s t).1.length<=1048576/\ ∀x∈(K5 w s t).1,x.Ok 1048576:=by
 have hb:=hk.2.2.1;rcases xE w s t with⟨_,e⟩|⟨k,hlt,i,hi,_,_,_,_,_,e⟩;rw[e];exact hb;rw[e];have a1:=hb.2 _ (Zf hlt);have ab:=DY a1.2.2.2.2.2.1 (hk.2.2.2.2.2.2.2.2.2 _ (Zf hi));generalize (mz w.a2.a0[k].a4 w.a5[i]).1=r at*;cases r2:(wZ w.a2.a0[k] r).2;exact hb;simp only[cond_true];have a8:(wZ w.a2.a0[k] r).1=je w.a2.a0[k] r:=by unfold wZ chX at r2⊢;cases c:jz w.a2.a0[k]&&jz (je w.a2.a0[k] r)<;>rw[c]at r2;simp at r2;rfl
 rw[a8];refine⟨by rw[ZC];exact hb.1,fun x m=> ?_⟩;rcases ZF m with m|rfl;exact hb.2 x m;exact⟨a1.1,a1.2.1,a1.2.2.1,a1.2.2.2.1,a1.2.2.2.2.1,ab,a1.2.2.2.2.2.2⟩
def le3 {A B C a n:Nat}(h1:A<=B+n)(h2:B<=C+a):A<=C+(a+n):=by omega
structure EI (w0:Q5) (a b:Nat) (u:Q5):Prop where
 ok:u.Ok 1048576
 hb:mY (.lst eR) (.lst (u.a2.a0.map Q1.e))
 hs:mY (.lst fL) (.lst (u.a5.map Q2.e))
 zb:sz (.lst (u.a2.a0.map Q1.e))<=sz (.lst (w0.a2.a0.map Q1.e))+a
 zs:sz (.lst (u.a5.map Q2.e))<=sz (.lst (w0.a5.map Q2.e))+b
 lb:u.a2.a0.length=w0.a2.a0.length
 ls:u.a5.length=w0.a5.length
 rest:u.ak=w0.ak/\ u.aN=true/\ u.aQ=w0.aQ/\ u.aL=w0.aL/\ u.aI=w0.aI/\ u.aJ=w0.aJ/\ u.aO=w0.aO/\ u.aK=w0.aK
def EI.pull {w0 u:Q5}{a b:Nat}(d:EI w0 a b u)(s t:List UInt8):EI w0 (a+4096) b (pzX u s t):=by have sp:=abA (s:=s) (t:=t) d.ok d.hb;have po:=adD (s:=s) (t:=t) d.ok;have pl:=Kb u s t;unfold pzX;generalize (K5 u s t).1=p at*;have g:=d.ok;exact{ok:=⟨g.1,g.2.1,po,g.2.2.2⟩,hb:=sp.1,hs:=d.hs,zb:=le3 sp.2 d.zb,zs:=d.zs,lb:=pl.trans d.lb,ls:=d.ls,rest:=d.rest}
def adw (u:Q5)(s t:List UInt8):Ux u s t=rt (pzX (yE s t u 20) s t) u.ak:=rfl
def EI.drain {w0 u:Q5}{a b:Nat}(d:EI w0 a b u)(hz:sz (.lst (w0.a5.map Q2.e))+b<=1900000)(s t:List UInt8):EI w0 (a+4096) (b+100000) (Ux u s t):=by have di:=DI.all d.ok d.hb d.hs (Zc d.zs hz) s t 20 (Zi _);have l:=zk s t u 20;rw[adw];generalize yE s t u 20=v at*;obtain⟨r1,r2,r3,r4,r5,r6,r7⟩:=di.rest;obtain⟨q0,q1,q2,q3,q4,q5,q6,q7⟩:=d.rest;have sp:=abA (s:=s) (t:=t) di.ok di.hb;have po:=adD (s:=s) (t:=t) di.ok;have pl:=Kb v s t;unfold pzX;generalize (K5 v s t).1=p at*;have g:=di.ok;exact{ok:=⟨d.ok.1,g.2.1,po,g.2.2.2⟩,hb:=sp.1,hs:=di.hs,zb:=le3 sp.2 (Zc di.zb d.zb),zs:=le3 di.zs d.zs,lb:=pl.trans (l.1.trans d.lb),ls:=l.2.trans d.ls,rest:=⟨q0,r1.trans q1,r2.trans q2,r3.trans q3,r4.trans q4,r5.trans q5,r6.trans q6,r7.trans q7⟩}
def N3 {w:Q5}(h:iF w=true):w.a2.a0.length<=9:=by simp only[iF,Zg]at h;have h3:=h.2.2.1;simp only[rz,Zg,Zz]at h3;have:=of_decide_eq_false h3.2;omega
def ael {u:Q5}(h:9<u.a2.a0.length)(n:Int):iF (rt u n)=false:=by cases c:iF (rt u n);rfl;exact absurd (N3 c) (by show¬u.a2.a0.length<=9;omega)
def U8 {u:Q5}(h:9<u.a2.a0.length)(s t:List UInt8):pzX u s t=u:=by unfold pzX;rcases xE u s t with⟨_,e⟩|⟨_,_,_,_,_,_,c,_⟩;rw[e];rfl;exact absurd (N3 c) (by omega)
def acB {u:Q5}(h:9<u.a2.a0.length)(s t:List UInt8):dsX s t u=u:=by
 have e:JW u=u:=by unfold JW;rw[ael h];rfl
 unfold dsX;rw[e];rcases xH u s t 0 with⟨_,e⟩|⟨_,_,_,_,_,_,c,_⟩;rw[e];rfl;exact absurd (N3 c) (by omega)
def Uy {u:Q5}(h:9<u.a2.a0.length)(s t:List UInt8):∀k,yE s t u k=u
 |0=>rfl
 |k+1=>by rw[yE,Uy h s t k,acB h]
def acx {u:Q5}(h:9<u.a2.a0.length)(s t:List UInt8):Ux u s t=u:=by rw[adw,Uy h,U8 h];rfl
def On {w:Q5}(h:9<w.a2.a0.length):∀k,zT w k=J7 w
 |0=>rfl
 |k+1=>by unfold zT;rw[On h k];split;exact acx (u:=J7 w) h _ _;rfl
def U6 {w:Q5}(h:9<w.a2.a0.length):∀k,xF w k=J7 w
 |0=>On h _
 |k+1=>by unfold xF;rw[U6 h k];split;exact U8 (u:=J7 w) h _ _;rfl
def EI.on {w:Q5}(h:w.Ok 1048576)(hb:mY (.lst eR) (.lst (w.a2.a0.map Q1.e)))(hs:mY (.lst fL) (.lst (w.a5.map Q2.e))):EI w 0 0 (J7 w):=
 {ok:=h,hb:=hb,hs:=hs,zb:=Zi _,zs:=Zi _,lb:=rfl,ls:=rfl,rest:=⟨rfl,rfl,rfl,rfl,rfl,rfl,rfl,rfl⟩}
def seI {w:Q5}(h:w.Ok 1048576)(hb:mY (.lst eR) (.lst (w.a2.a0.map Q1.e)))(hs:mY (.lst fL) (.lst (w.a5.map Q2.e)))(hz:sz (.lst (w.a5.map Q2.e))<=1048576)(h9:w.a2.a0.length<=9):∀k,k<=w.a2.a0.length->EI w (4096*k) (100000*k) (zT w k)
 |0,_=>EI.on h hb hs
 |k+1,hk=>by have d:=seI h hb hs hz h9 k (by omega);unfold zT;rw[Zj (by omega)];rw[show 4096*(k+1)=4096*k+4096 by omega,show 100000*(k+1)=100000*k+100000 by omega];refine d.drain ?_ _ _;generalize sz (.lst (w.a5.map Q2.e))=A at hz⊢;omega
def puI {w:Q5}(h:w.Ok 1048576)(hb:mY (.lst eR) (.lst (w.a2.a0.map Q1.e)))(hs:mY (.lst fL) (.lst (w.a5.map Q2.e)))(hz:sz (.lst (w.a5.map Q2.e))<=1048576)(h9:w.a2.a0.length<=9):∀k,k<=w.a2.a0.length->EI w (4096*w.a2.a0.length+4096*k) (100000*w.a2.a0.length) (xF w k)
 |0,_=>seI h hb hs hz h9 _ (Zi _)
 |k+1,hk=>by have d:=puI h hb hs hz h9 k (by omega);unfold xF;rw[Zj (by omega)];rw[show 4096*w.a2.a0.length+4096*(k+1)=4096*w.a2.a0.length+4096*k+4096 by omega];exact d.pull _ _
def Om {w:Q5}(h:w.Ok 1048576)(hb:mY (.lst eR) (.lst (w.a2.a0.map Q1.e)))(hs:mY (.lst fL) (.lst (w.a5.map Q2.e)))(hz:sz (.lst (w.a5.map Q2.e))<=1048576)(k:Nat)(hk:k<=w.a2.a0.length):∃a b,EI w a b (zT w k)/\ (k<w.a2.a0.length->b<=800000):=by rcases Qp 9 w.a2.a0.length with h9|h9;rw[On h9];exact⟨0,0,EI.on h hb hs,fun _=>by omega⟩;exact⟨_,_,seI h hb hs hz h9 k hk,fun _=>by omega⟩
def Cr {w:Q5}(h:w.Ok 1048576)(hb:mY (.lst eR) (.lst (w.a2.a0.map Q1.e)))(hs:mY (.lst fL) (.lst (w.a5.map Q2.e)))(hz:sz (.lst (w.a5.map Q2.e))<=1048576)(k:Nat)(hk:k<=w.a2.a0.length):∃a b,EI w a b (xF w k)/\ a<=73728/\ b<=900000:=by rcases Qp 9 w.a2.a0.length with h9|h9;rw[U6 h9];exact⟨0,0,EI.on h hb hs,by omega,by omega⟩;exact⟨_,_,puI h hb hs hz h9 k hk,by omega,by omega⟩
end Gi
namespace Gi
open Go Go.RowKit
set_option maxHeartbeats 8000000
set_option maxRecDepth 4000
attribute [local simp] start qt dY fa fh gj fg gi gr gq rB rY rE rZ rH r8 rI r9 rJ sa rS sd rU se rV sf rW sh V.cells plain dP ja isInt isStr isBool bin eu i7 ew i9 gl un asList L.view cy V.view viewL dd cu eC dN eh comp cU dS eV dW dD dA dC cF ct df co cE cO cA dx du cH dE dF V.flat L.flat fe fv dK putAt thaw thawL thawT V.ow gn fj fk ez gm eA fi freezeVs freezeLs freezeL V.mut L.mut cN fx iI dj dQ cZ fI ed dH eB L.bD cQ fy ej fE ep eH wp_seq wp_block dh fo eD dO eE wp_skip wp_exit wp_ret eG eM eP eN eT eU eS dV cM L.bB cX cV cW fm dI storeD dg gZ cq eK cJ nP L.bG L.closed V.closed PV.bare PV.flat
def Vd {w:Q5}{k:Nat}(hk:k<w.a2.a0.length):zT w (k+1)=Ux (zT w k) w.a2.a0[k].aP w.a2.a0[k].av:=by rw[zT,Zj hk]
def U7 {w:Q5}{k:Nat}(hk:k<w.a2.a0.length):xF w (k+1)=pzX (xF w k) w.a2.a0[k].aP w.a2.a0[k].av:=by rw[xF,Zj hk]
abbrev wDT (w:Q5):List L:=[.pv (.int .i64 w.ak), .pv (.bool w.aN), .pv (.int .i64 w.aQ),nQ (w.a2.a0.map Q1.e), .pv (.lst (w.aL.map X6.e)), .pv (.int .i64 w.aI), .pv (.lst (w.aJ.aJ.map X5.e)), .pv (.lst (w.aO.aX.map X9.e)), .pv (.lst (w.aK.map X3.e)), .pv (.lst (w.a5.map Q2.e))]
def ad6 {α:Type}{e:α->List PV}{l m:List α}(h:l.length=m.length)(q:m.map e≠[]):nQ (l.map e)= .pv (.lst (l.map e)):=by
 cases l with
 |nil=>exact absurd (by rw[Yg h.symm];rfl) q
 |cons x xs=>rfl
def D8 {w:Q5}(h:w.Ok 1048576):cf Ph cK 423 [w.v,cL true]=some (.agg (Un (J7 w) w.a2.a0 w.a5)):=by have e1:=kQ (Zi 1048576) h;have N0:=jg 24 (w.a2.a0.map Q1.e);simp only[Un,J7,Q5.v];rcases N0 with⟨-,q1,q2⟩|⟨-,q1,q2⟩<;>rw[q1]at e1<;>rw[q2]<;>(refine ca rfl ?_;simp(maxSteps:=9^9) [sS,e1,Q5.e])
def Bj {w:Q5}(h:w.Ok 1048576)(hb:mY (.lst eR) (.lst (w.a2.a0.map Q1.e)))(hs:mY (.lst fL) (.lst (w.a5.map Q2.e)))(hz:sz (.lst (w.a5.map Q2.e))<=1048576):cf Ph cK 632 [w.v]=some (.agg (wDT (xF w w.a2.a0.length))):=by
 have a6:w.a2.a0.length<=maxLen:=Zc h.2.2.1.1 (by unfold maxLen;omega);have e1:=D8 h;have ar:∀k,(hk:k<w.a2.a0.length)->cf Ph cK 630 [(zT w k).v,fZ w.a2.a0[k].aP,fZ w.a2.a0[k].av]=some (.agg (Un (zT w (k+1)) (zT w (k+1)).a2.a0 (zT w (k+1)).a5))/\ (zT w (k+1)).a2.a0.length=w.a2.a0.length:=fun k hk=>by
  obtain⟨a,b,d,d2⟩:=Om h hb hs hz k (Yy hk);obtain⟨_,_,d3,_⟩:=Om h hb hs hz (k+1) hk;have aw:=d2 hk;have zs:sz (.lst ((zT w k).a5.map Q2.e))<=1900000:=by have:=d.zs;generalize sz (.lst ((zT w k).a5.map Q2.e))=A at*;generalize sz (.lst (w.a5.map Q2.e))=B at*;omega
  exact⟨by rw[Vd hk];exact Bg d.ok (DI.all d.ok d.hb d.hs zs _ _) zs,d3.lb⟩
 have au:∀k,(hk:k<w.a2.a0.length)->cf Ph cK 626 [(xF w k).v,fZ w.a2.a0[k].aP,fZ w.a2.a0[k].av]=some (.b8 [(true,Un (xF w (k+1)) (xF w (k+1)).a2.a0 (xF w (k+1)).a5),(false,[.pv (.int .i64 (K5 (xF w k) w.a2.a0[k].aP w.a2.a0[k].av).2)])])/\ (xF w (k+1)).a2.a0.length=w.a2.a0.length:=fun k hk=>by obtain⟨a,b,d,_⟩:=Cr h hb hs hz k (Yy hk);obtain⟨_,_,d3,_⟩:=Cr h hb hs hz (k+1) hk;exact⟨by rw[U7 hk];exact vI d.ok _ _,d3.lb⟩
 have pn:(xF w w.a2.a0.length).a2.a0.length=w.a2.a0.length:=by obtain⟨_,_,d,_⟩:=Cr h hb hs hz _ (Zi _);exact d.lb
 refine ca rfl ?_;rcases jg 24 (w.a2.a0.map Q1.e)with⟨q3,q1,q2⟩|⟨q3,q1,q2⟩<;>simp only[Un,J7,q2]at e1<;>simp(maxSteps:=9^9) [qe,e1];have hn:w.a2.a0=[]:=by simpa using q3
 have al:dZ 0 0=false:=rfl;have hl:w.a2.a0.length=0:=by rw[hn];rfl
 have hU:xF w w.a2.a0.length=J7 w:=by rw[hl];show zT w w.a2.a0.length=J7 w;rw[hl];rfl
 have f4:nQ ((J7 w).a2.a0.map Q1.e)= .nil:=by show nQ (w.a2.a0.map Q1.e)= .nil;rw[q3];rfl
 simp only[hU,f4,wDT];refine eX dz Cl.fin 0 [.f,.t,.t,.t,.t,.f,.f,.f,.f,.f,.f,.f,.f,.f,.f,.f,.f,.f,.f,.f,.f,.f,.f,.f,.f,.f,.f,.f,.f,.f,.f,.f,.f,.f,.f,.f,.f,.f,.f,.f,.f,.f,.f,.f,.f,.f,.f,.f,.f,.f,.f,.f,.f,.f,.f,.f,.f,.f,.f,.f,.f,.f,.f] (fun k=>[(4,ce .i64 k)]) (fun _=>(fun u:Q5=>([.box (w.e.map .pv), .box [.pv (.int .i64 0), .pv (.bool false), .pv (.int .i64 0), .nil, .nil, .pv (.int .i64 0), .nil, .nil, .nil, .nil], .box [.pv (.int .i64 u.ak), .pv (.bool u.aN), .pv (.int .i64 u.aQ), .nil, .pv (.lst (u.aL.map X6.e)), .pv (.int .i64 u.aI), .pv (.lst (u.aJ.aJ.map X5.e)), .pv (.lst (u.aO.aX.map X9.e)), .pv (.lst (u.aK.map X3.e)), .pv (.lst (u.a5.map Q2.e))]]:List Q0)) (J7 w)) rfl (by simp[Q5.e,J7,hn]) (fun k hk=>absurd hk (Nat.not_lt_zero k)) ?_;simp(maxSteps:=9^9) [iD,hn,al,Q5.e,f4,J7];refine eX dz Cl.fin 0 [.f,.t,.t,.t,.f,.t,.f,.f,.f,.f,.f,.f,.f,.f,.f,.f,.f,.f,.f,.f,.f,.f,.f,.f,.f,.f,.f,.f,.f,.f,.f,.f,.f,.f,.f,.f,.f,.f,.f,.f,.f,.f,.f,.f,.f,.f,.f,.f,.f,.f,.f,.f,.f,.f,.f,.f,.f,.f,.f,.f,.f,.f,.f] (fun k=>[(5,ce .i64 k)]) (fun _=>(fun u:Q5=>([.box (w.e.map .pv), .box [.pv (.int .i64 0), .pv (.bool false), .pv (.int .i64 0), .nil, .nil, .pv (.int .i64 0), .nil, .nil, .nil, .nil], .box [.pv (.int .i64 u.ak), .pv (.bool u.aN), .pv (.int .i64 u.aQ), .nil, .pv (.lst (u.aL.map X6.e)), .pv (.int .i64 u.aI), .pv (.lst (u.aJ.aJ.map X5.e)), .pv (.lst (u.aO.aX.map X9.e)), .pv (.lst (u.aK.map X3.e)), .pv (.lst (u.a5.map Q2.e))]]:List Q0)) (J7 w)) rfl (by simp[Q5.e,J7,hn]) (fun k hk=>absurd hk (Nat.not_lt_zero k)) ?_;simp(maxSteps:=9^9) [jF,hn,al,Q5.e,f4,J7];refine eX dz Cl.fin w.a2.a0.length [.f,.t,.t,.t,.t,.f,.f,.f,.f,.f,.f,.f,.f,.f,.f,.f,.f,.f,.f,.f,.f,.f,.f,.f,.f,.f,.f,.f,.f,.f,.f,.f,.f,.f,.f,.f,.f,.f,.f,.f,.f,.f,.f,.f,.f,.f,.f,.f,.f,.f,.f,.f,.f,.f,.f,.f,.f,.f,.f,.f,.f,.f,.f] (fun k=>[(4,ce .i64 k)]) (fun k=>(fun u:Q5=>([.box (w.e.map .pv), .box [.pv (.int .i64 0), .pv (.bool false), .pv (.int .i64 0), .nil, .nil, .pv (.int .i64 0), .nil, .nil, .nil, .nil], .box [.pv (.int .i64 u.ak), .pv (.bool u.aN), .pv (.int .i64 u.aQ), .pv (.lst (u.a2.a0.map Q1.e)), .pv (.lst (u.aL.map X6.e)), .pv (.int .i64 u.aI), .pv (.lst (u.aJ.aJ.map X5.e)), .pv (.lst (u.aO.aX.map X9.e)), .pv (.lst (u.aK.map X3.e)), .pv (.lst (u.a5.map Q2.e))]]:List Q0)) (zT w k)) rfl (by simp[zT,J7,Q5.e]) (fun k hk=> ?_) ?_;obtain⟨e3,l2⟩:=ar k hk;have f3:=(N6 (e:=Q1.e) l2 q3 24).2;have hx:=Q1.e.eq_1 w.a2.a0[k];generalize zT w (k+1)=u2 at*;generalize zT w k=u at*;simp only[Un,wO,f3,Q5.v]at e3⊢;simp(maxSteps:=9^9) [iD,e3,hk,hx,cY a6 hk,dw hk,Q5.e,-fx];exact Kn.of [0,1,2] (by decide) (by simp[Q5.e]) (by simp);have lE:dZ (w.a2.a0.length:Nat) (w.a2.a0.length:Nat)=false:=iG (Int.le_refl _);simp(maxSteps:=9^9) [iD,lE,Q5.e];refine eX dz Cl.fin w.a2.a0.length [.f,.t,.t,.t,.f,.t,.f,.f,.f,.f,.f,.f,.f,.f,.f,.f,.f,.f,.f,.f,.f,.f,.f,.f,.f,.f,.f,.f,.f,.f,.f,.f,.f,.f,.f,.f,.f,.f,.f,.f,.f,.f,.f,.f,.f,.f,.f,.f,.f,.f,.f,.f,.f,.f,.f,.f,.f,.f,.f,.f,.f,.f,.f] (fun k=>[(5,ce .i64 k)]) (fun k=>(fun u:Q5=>([.box (w.e.map .pv), .box [.pv (.int .i64 0), .pv (.bool false), .pv (.int .i64 0), .nil, .nil, .pv (.int .i64 0), .nil, .nil, .nil, .nil], .box [.pv (.int .i64 u.ak), .pv (.bool u.aN), .pv (.int .i64 u.aQ), .pv (.lst (u.a2.a0.map Q1.e)), .pv (.lst (u.aL.map X6.e)), .pv (.int .i64 u.aI), .pv (.lst (u.aJ.aJ.map X5.e)), .pv (.lst (u.aO.aX.map X9.e)), .pv (.lst (u.aK.map X3.e)), .pv (.lst (u.a5.map Q2.e))]]:List Q0)) (xF w k)) rfl (by simp[xF,Q5.e]) (fun k hk=> ?_) ?_;obtain⟨e3,l2⟩:=au k hk;have f3:=(N6 (e:=Q1.e) l2 q3 24).2;have hx:=Q1.e.eq_1 w.a2.a0[k];generalize xF w (k+1)=u2 at*;generalize xF w k=u at*;simp only[Un,wO,f3,Q5.v]at e3⊢;simp(maxSteps:=9^9) [jF,e3,hk,hx,cY a6 hk,dw hk,Q5.e,-fx];exact Kn.of [0,1,2] (by decide) (by simp[Q5.e]) (by simp);have f4:=ad6 (e:=Q1.e) pn q3;generalize xF w w.a2.a0.length=u at*;simp only[wDT,f4];simp(maxSteps:=9^9) [jF,lE,Q5.e,f4]
end Gi
