/- A part. -/
import Derived.Test.YtndiampmpmbfoaaGreatGkf
set_option linter.all false
namespace Gi
open Go Go.RowKit
set_option maxHeartbeats 8000000
set_option maxRecDepth 4000
attribute [local simp] start qh bG cz dk eR dj eQ eW eV se sx sf sy sh sA si sB sj sC sk sD so sE sp sF su sG V.cells plain bA gv isInt isStr isBool bin cu iq cy ir eS un asList L.view al V.view viewL aZ am cD bM bS comp aO bJ cT bW bw bu bv aS aE bT aw aR aW aK br bq ba bz bB V.flat L.flat da df bD putAt thaw thawL thawT V.ow eU dx dy cB eT cC dw freezeVs freezeLs freezeL V.mut L.mut aJ eF gQ be bC aN dC bQ bj bX L.bD aY dq ca dD bU cf wp_seq wp_block bm dA cE bN cF wp_skip wp_exit wp_ret co cH cL cK cP cQ cO bV aM L.bC aV aT aU dz bt storeD bf fm ai ct aA nq L.bG L.closed V.closed PV.bare PV.flat
def Vb (x:Y1):Bool:=kD x.aX&&dX x.aq.fs
def ub :List Y1->Bool
 |[]=>true
 |[_]=>true
 |a::b::t=>decide (tt a.aX b.aX<0)&&ub (b::t)
def GM :Option Y1->Option Y1->Bool
 |some a,some b=>decide (tt a.aX b.aX<0)
 |_,_=>true
def JC :∀{xs:List Y1},ub xs=true↔∀j(h:j+1<xs.length),tt xs[j].aX xs[j+1].aX<0
 |[]=>by simp[ub]
 |[_]=>by simp[ub]
 |a::b::t=>by
  have ih:=JC (xs:=b::t)
  simp only[ub,Zh,decide_eq_true_eq,ih]
  constructor
  ·intro⟨h1,h2⟩ j hj
   cases j with
   |zero=>simpa using h1
   |succ j=>have:=h2 j (by simpa using hj);simpa using this
  ·intro h
   refine⟨by have:=h 0 (by simp);simpa using this,fun j hj=> ?_⟩
   have:=h (j+1) (by simpa using hj)
   simpa using this
def uu (xs:List Y1):Bool:= !(gH xs.length (HS xs))
def GG (xs:List Y1):uu xs=(xs.all Vb&&ub xs):=by
 rw[Bool.eq_iff_iff]
 unfold uu
 simp only[ZJ,Zh,JC,Zt]
 have ar:∀k(hk:k<xs.length),HS xs k=(!(kD xs[k].aX)||(!(dX xs[k].aq.fs)||(bO 0 k&& !(bO (tt (xs[k-1]'(by omega)).aX xs[k].aX) 0)))):=fun k hk=>by simp[HS,hk,show k-1<xs.length by omega]
 constructor
 ·intro h
  refine⟨fun x hx=> ?_,fun j hj=> ?_⟩
  ·obtain⟨k,hk,rfl⟩:=I'.1 hx
   have:=uc h hk
   rw[ar k hk]at this
   simp only[K',Za2]at this
   simp[Vb,this.1,this.2.1]
  ·have:=uc h hj
   rw[ar _ hj]at this
   simp only[K',Bool.and_eq_false_iff,Za2,Nat.add_sub_cancel]at this
   rcases this.2.2 with q|q
   ·rw[gB (by omega)]at q;cases q
   ·exact of_decide_eq_true q
 ·intro⟨h1,h2⟩
  refine N9 fun k hk=> ?_
  rw[ar k hk]
  have h3:=h1 _ (Zf hk)
  simp only[Vb,Zh]at h3
  rw[h3.1,h3.2]
  cases k with
  |zero=>rw[ii (by simp)];rfl
  |succ j=>
   have:=h2 j hk
   simp only[Nat.add_sub_cancel,gB this];simp
def zj :∀(l m:List Y1),ub (l++m)=(ub l&&(ub m&&GM l.getLast? m.head?))
 |[],m=>by cases m<;>simp[ub,GM]
 |[a],[]=>by simp[ub,GM]
 |[a],b::m=>by simp[ub,GM,Bool.and_comm]
 |a::b::t,m=>by
  have ih:=zj (b::t) m
  simp only[Zg]at ih⊢
  simp only[ub,ih,Bool.and_assoc]
  have:(a::b::t).getLast? =(b::t).getLast?:=by simp[List.getLast?_cons_cons]
  rw[this]
def QN (x:Y1)(m:List Y1):ub (x::m)=(ub m&&GM (some x) m.head?):=by
 have:=zj [x] m
 simpa[ub]using this
def xq (xs:List Y1)(k:YL):Nat:=xs.findIdx fun x=> !(decide (tt x.aX k<0))
def AD (xs:List Y1)(k:YL):xq xs k<=xs.length:=List.findIdx_le_length
def KG {xs:List Y1}{k:YL}{j:Nat}(h:j<xq xs k)(hj:j<xs.length):tt xs[j].aX k<0:=by
 have:=List.not_of_lt_findIdx h
 simpa using this
def KE {xs:List Y1}{k:YL}(h:xq xs k<xs.length):¬tt xs[xq xs k].aX k<0:=by
 have:=List.findIdx_getElem (w:=h)
 unfold xq
 simpa using this
def Q6 {a b:List UInt8}(h:Lib.compareBytes a b=0):a=b:=by
 rw[iH]at h
 have ht:=qY a b
 cases q:Op.bytesLess a b<;>cases q2:Op.bytesLess b a<;>simp[q,q2]at h ht⊢
 exact ht
def Q7 {a b:YL}(ha:kD a=true)(hb:kD b=true)(a7:a≠b)(h:¬tt a b<0):tt b a<0:=by
 have h1:=Ta a b
 have hz:tt a b≠0:=fun e=>by
  obtain⟨ak,an,ax⟩:=a
  obtain⟨bk,bn,bx⟩:=b
  simp only[ne_eq,YL.mk.injEq]at a7
  have hc:= @Q6 ax bx
  simp only[tt,ha,hb]at e
  grind [VP,bO]
 omega
def Ku {k:YL}{x:Y1}:Ci k x=true↔x.aX=k:=by
 obtain⟨⟨a,b,c⟩,r⟩:=x
 obtain⟨d,e,f⟩:=k
 simp[Ci]
def PY {α:Type}{p:α->Bool}{xs:List α}(h:dQ p xs= -1):∀x∈xs,p x=false:=fun x hx=>by
 unfold dQ at h
 cases q:xs.findIdx? p with
 |none=>rw[Zb1]at q;exact q x hx
 |some i=>rw[q]at h;simp only at h;omega
def xB (s:Y7)(k:YL):Int:=if k.aS=1/\ s.aT<k.n/\ k.n<=1000000 then k.n else s.aT
def p6 (s:Y7)(k:YL)(r:Z4):List Y1:=s.a0.take (xq s.a0 k)++(⟨k,r⟩::s.a0.drop (xq s.a0 k))
def xt (s:Y7)(k:YL)(r:Z4):Y7×Bool:=
 cond (dW s&&(kD k&&dX r.fs))
  (if 0<=dQ (Ci k) s.a0 then(⟨s.aE,s.a0.set (dQ (Ci k) s.a0).toNat ⟨k,r⟩,s.aT⟩,true)
   else if 16<=s.a0.length then(s,false)else(⟨s.aE,p6 s k r,xB s k⟩,true))
  (s,false)
def SV {xs:List Y1}{j:Nat}{x:Y1}(hj:j<xs.length)(hk:xs[j].aX=x.aX)(h:ub xs=true):ub (xs.set j x)=true:=by
 have ab:∀i(hi:i<xs.length),((xs.set j x)[i]'(by simpa using hi)).aX=xs[i].aX:=fun i hi=>by
  rw[List.getElem_set]
  split
  ·rename_i e;subst e;exact hk.symm
  ·rfl
 rw[JC]at h⊢
 intro i hi
 have aH:i+1<xs.length:=by simpa using hi
 rw[ab i (by omega),ab (i+1) aH]
 exact h i aH
def Dc {s:Y7}{k:YL}{r:Z4}{j:Nat}(hs:dW s=true)(hj:j<s.a0.length)(hk:s.a0[j].aX=k):dW ⟨s.aE,s.a0.set j ⟨k,r⟩,s.aT⟩=dX r.fs:=by
 unfold dW at hs⊢
 simp only[Zh]at hs
 obtain⟨h1,h2,h3,h4⟩:=hs
 simp only[h2,h3,h4,ZK,ZU,C',Za6]
 change uu _=true at h1
 have e:(!gH s.a0.length (HS (s.a0.set j ⟨k,r⟩)))=uu (s.a0.set j ⟨k,r⟩):=by unfold uu;rw[ZK]
 rw[e]
 rw[GG]at h1⊢
 simp only[Zh]at h1
 rw[SV hj hk h1.2,C']
 cases hr:dX r.fs with
 |true=>
  rw[Zt]
  intro x hx
  rcases Q' hx with hx|rfl
  ·exact Zt.1 h1.1 x hx
  ·have:=Zt.1 h1.1 _ (Zf hj)
   simp only[Vb,hk,Zh]at this
   simp[Vb,hr,this.1]
 |false=>
  rw[List.all_eq_false]
  refine⟨⟨k,r⟩,I'.2 ⟨j,by simpa using hj,by simp⟩,by simp[Vb,hr]⟩
def Db {s:Y7}{k:YL}{r:Z4}(hs:dW s=true)(hk:kD k=true)(hf:dQ (Ci k) s.a0= -1):dW ⟨s.aE,p6 s k r,xB s k⟩=(dX r.fs&&decide (s.a0.length+1<=16)):=by
 unfold dW at hs⊢
 simp only[Zh]at hs
 obtain⟨h1,h2,h3,h4⟩:=hs
 change uu _=true at h1
 change (uu _&&_)=_
 rw[GG]at h1⊢
 simp only[Zh,rg,bO,decide_eq_true_eq,ZJ,decide_eq_false_iff_not]at h1 h4
 have hp:=AD s.a0 k
 have hlen:(p6 s k r).length=s.a0.length+1:=by unfold p6;simp;omega
 have ha:rg (xB s k) 0 1000000=true:=by
  unfold xB rg bO
  split<;>simp<;>omega
 have hl:(!(bO 16 ((p6 s k r).length:Nat)))=decide (s.a0.length+1<=16):=by rw[hlen,Bool.eq_iff_iff];simp[bO];omega
 simp only[h2,ha,hl,C',Za6]
 congr 1
 have au:ub (p6 s k r)=true:=by
  unfold p6
  rw[zj,QN]
  have ad:=zj (s.a0.take (xq s.a0 k)) (s.a0.drop (xq s.a0 k))
  rw[List.take_append_drop,h1.2]at ad
  simp only[Bool.true_eq,Zh]at ad
  rw[ad.1,ad.2.1]
  simp only[Za6,List.head?_cons,Zh]
  constructor
  ·cases hq:(s.a0.drop (xq s.a0 k)).head? with
   |none=>rfl
   |some y=>
    rw[List.head?_drop]at hq
    obtain⟨a2,rfl⟩:=Zb.1 hq
    have hy:=Zt.1 h1.1 _ (Zf a2)
    simp only[Vb,Zh]at hy
    have:=Q7 hy.1 hk (fun e=>by have:=PY hf _ (Zf a2);rw[Ku.2 e]at this;cases this) (KE a2)
    simp[GM,this]
  ·cases hq:(s.a0.take (xq s.a0 k)).getLast? with
   |none=>rfl
   |some y=>
    rw[List.getLast?_eq_getElem?]at hq
    obtain⟨a2,rfl⟩:=Zb.1 hq
    simp only[ZM]at a2⊢
    rw[List.getElem_take]
    have:=KG (xs:=s.a0) (k:=k) (j:=min (xq s.a0 k) s.a0.length-1) (by omega) (by omega)
    simp[GM,this]
 rw[au,C']
 cases hr:dX r.fs with
 |true=>
  rw[Zt]
  intro x hx
  unfold p6 at hx
  rw[H',ZL]at hx
  rcases hx with hx|rfl|hx
  ·exact Zt.1 h1.1 x (ZI hx)
  ·simp[Vb,hr,hk]
  ·exact Zt.1 h1.1 x (Za0 hx)
 |false=>
  rw[List.all_eq_false]
  exact⟨⟨k,r⟩,by unfold p6;simp,by simp[Vb,hr]⟩
def uB {j:Nat}:bO (j:Int) 0=false:=ii (by omega)
def LP (s:Y7)(k:YL):xB s k=cond (k.aS==1&&(bO s.aT k.n&& !(bO 1000000 k.n))) k.n s.aT:=by
 have e3:decide (1000000<k.n)= !(decide (k.n<=1000000)):=by rw[Bool.eq_iff_iff];simp
 have e4:(k.aS==1)=decide (k.aS=1):=by rw[Bool.eq_iff_iff];simp
 unfold xB bO
 rw[e3,e4]
 by_cases h1:k.aS=1<;>by_cases h2:s.aT<k.n<;>by_cases h3:k.n<=1000000<;>simp[h1,h2,h3]
abbrev uE (x:Y7×Bool):V:= .b9 [(true,[.pv (.str x.1.aE),nd 4 (x.1.a0.map Y1.e), .pv (.int .i64 x.1.aT)]),(false,[.pv (.bool x.2)])]
abbrev KJ (x:Y7×Bool):V:= .b9 [(true,[.pv (.str x.1.aE),Ct 4 (x.1.a0.map Y1.e), .pv (.int .i64 x.1.aT)]),(false,[.pv (.bool x.2)])]
def ML (s:Y7)(k:YL)(r:Z4):(p6 s k r).map Y1.e=(s.a0.map Y1.e).take (xq s.a0 k)++([.int .i64 k.aS, .int .i64 k.n, .str k.aa, .lst (r.fs.map Y8.e)]::(s.a0.map Y1.e).drop (xq s.a0 k)):=by simp[p6,Y1.e]
def Kt {B:Nat}{s:Y7}(h:s.Ok B){k:YL}(hk:k.Ok B){r:Z4}(hr:r.Ok B):(p6 s k r).length<=B+1/\ ∀x∈p6 s k r,x.Ok (B+1):=by
 obtain⟨_,⟨h1,h2⟩,_⟩:=h
 have:=AD s.a0 k
 refine⟨by simp[p6];omega,fun x hx=>Y1.Ok.mono (A:=B) (by omega) ?_⟩
 unfold p6 at hx
 rw[H',ZL]at hx
 rcases hx with hx|rfl|hx
 ·exact h2 x (ZI hx)
 ·exact⟨hk,hr⟩
 ·exact h2 x (Za0 hx)
def KP {B:Nat}{s:Y7}(h:s.Ok B){k:YL}(hk:k.Ok B){r:Z4}(hr:r.Ok B)(j:Nat):(s.a0.set j ⟨k,r⟩).length<=B/\ ∀x∈s.a0.set j ⟨k,r⟩,x.Ok B:=by
 obtain⟨_,⟨h1,h2⟩,_⟩:=h
 refine⟨by simpa using h1,fun x hx=> ?_⟩
 rcases Q' hx with hx|rfl
 ·exact h2 x hx
 ·exact⟨hk,hr⟩
def LQ {s:Y7}{k:YL}(h1:me s.aT)(h2:me k.n):me (xB s k):=by unfold xB;split<;>assumption
def Ec {B:Nat}(hB:B<=1048576){s:Y7}(h:s.Ok B){k:YL}(hk:k.Ok B){r:Z4}(hr:r.Ok B):ag Ph aC 342 [s.v,k.v,r.v]=some (uE (xt s k r)):=by
 have hM:B+1<=maxLen:=by unfold maxLen;omega
 have hl:s.a0.length<=1048576:=Zc h.2.1.1 hB
 have e1:=iL hB h
 have e2:=iA (Y7.Ok.mono (by omega) h)
 have e3:=mc (YL.Ok.mono (by omega) hk)
 have e4:=tC (s:=s) (by unfold maxLen;omega) k
 have e5:=na hB hr
 have O:=kF 4 (s.a0.map Y1.e)
 unfold xt
 refine ae rfl ?_
 cases c1:dW s<;>rw[c1]at e2
 ·rcases O with⟨_,q2,q1⟩|⟨_,q2,q1⟩<;>rw[q2]at e1<;>simp(maxSteps:=9^9) [ig,e1,e2,q2]
 cases c2:kD k<;>rw[c2]at e3
 ·rcases O with⟨_,q2,q1⟩|⟨_,q2,q1⟩<;>rw[q2]at e1<;>simp(maxSteps:=9^9) [ig,e1,e2,e3,q2]
 rcases wO (Ci k) s.a0 with hf|⟨j,hj,hf,hq⟩<;>rw[hf]at e4⊢
 ·have e6:∀a,a=xB s k->ag Ph aC 354 [Y7.v ⟨s.aE,p6 s k r,a⟩]=some (az (dX r.fs&&decide (s.a0.length+1<=16))):=fun a ha=>by
   subst ha
   rw[<-Db (r:=r) c1 c2 hf]
   exact iA (s:=⟨s.aE,p6 s k r,xB s k⟩) ⟨Zc h.1 (by omega),⟨Zc (Kt h hk hr).1 (by omega),fun x hx=>Y1.Ok.mono (by omega) ((Kt h hk hr).2 x hx)⟩,LQ h.2.2 hk.2.1⟩
  have hA:=LP s k
  obtain⟨g1,h1⟩:∃g,(k.aS==1)=g:=⟨_,rfl⟩
  rw[h1]at hA
  have hL:(16<=s.a0.length)=(decide (s.a0.length+1<=16)=false):=by simp;omega
  have a1:=ML s k r
  have hp:=AD s.a0 k
  have b1:= @KG s.a0 k
  have b2:= @KE s.a0 k
  have m1:=ez (m:=s.a0.length+1) (z:=56) (by omega) (by omega)
  have O2:=kF 4 ((p6 s k r).map Y1.e)
  rcases O2 with⟨q,_⟩|⟨_,q3,_⟩
  ·rw[a1]at q;simp at q
  simp only[hL]
  generalize p6 s k r=F at e6 a1 q3⊢
  generalize xq s.a0 k=p at a1 hp b1 b2
  generalize decide (s.a0.length+1<=16)=d at e6 hL⊢
  have l0:bO (-1) 0=true:=rfl
  have av:bO 0 0=false:=rfl
  rcases O with⟨q0,q2,q1⟩|⟨q0,q2,q1⟩<;>rw[q2]at e1
  ·have a5:s.a0=[]:=by simpa using q0
   rw[a5]at a1 hp
   have ay:p=0:=by simpa using hp
   subst ay
   simp only[Zz,List.take_nil,List.drop_nil,Zi]at a1
   simp(maxSteps:=9^9) [ig,e1,e2,e3,e4,l0]
   rw[t8]
   have aI:=e1
   rw[a5,Zz]at aI
   have b8:nd 4 []= .nil:=rfl
   have hF:F.length=1:=by have:=congrArg List.length a1;simpa using this
   cases c4:dX r.fs<;>rw[c4]at e6<;>cases d<;>simp +contextual (maxSteps:=9^9) [gW,e1,aI,b8,e2,e3,e4,e5,a5,av,q2,hF,<-a1,e6,hA,h1,q3]
  ·simp(maxSteps:=9^9) [ig,e1,e2,e3,e4,l0]
   refine aB bh Cl.fin [.f,.f,.f,.t,.t,.t,.t,.f,.t,.f,.t,.f,.f,.f,.f,.f,.f,.f,.f,.f,.f,.f,.f,.f,.f,.f,.f,.f,.f,.f,.f,.f,.f,.f,.f,.f,.f,.f,.f,.f,.f,.f,.f,.f,.f,.f,.f,.f,.f,.f,.f,.f,.f,.f,.f,.f,.f,.f,.f,.f,.f,.f,.f,.f,.f,.f,.f,.f,.f,.f,.f,.f,.f,.f,.f,.f,.f,.f,.f,.f,.f,.f,.f,.f,.f,.f,.f] (fun k=>[(10,aa .i64 k)]) p (fun _=>false) rfl (by simp) (fun j hj _=> ?_) (fun _ _=> ?_)
   ·have a6:j<s.a0.length:=by omega
    have l1:=gB (b1 hj a6)
    have e7:=ja (YL.Ok.mono (by omega) (h.2.1.2 _ (Zf a6)).1) (YL.Ok.mono (by omega) hk)
    simp +contextual (maxSteps:=9^9) [gW,a6,l1,e7,aL (n:=s.a0.length) (by unfold maxLen;omega) a6,bd a6,Y1.e.eq_1 s.a0[j]]
   ·by_cases a2:p<s.a0.length
    ·have l1:=ii (Int.not_lt.1 (b2 a2))
     have hx:=Y1.e.eq_1 s.a0[p]
     have e7:=ja (YL.Ok.mono (by omega) (h.2.1.2 _ (Zf a2)).1) (YL.Ok.mono (by omega) hk)
     cases c4:dX r.fs<;>rw[c4]at e6<;>cases d<;>simp +contextual (maxSteps:=9^9) [gW,a2,hx,l1,e7,hp,m1,bd a2,e1,e2,e3,e4,e5,q2,<-a1,e6,hA,h1,q3]
    ·obtain rfl:p=s.a0.length:=by omega
     have af:(s.a0.map Y1.e).take s.a0.length++[[.int .i64 k.aS, .int .i64 k.n, .str k.aa, .lst (r.fs.map Y8.e)]]=F.map Y1.e:=by rw[a1];simp
     have hd:(s.a0.map Y1.e).drop s.a0.length=[]:=Za5 (by simp)
     cases c4:dX r.fs<;>rw[c4]at e6<;>cases d<;>simp +contextual (maxSteps:=9^9) [gW,m1,e1,e2,e3,e4,e5,q2,hd, ↓af,e6,hA,h1,q3]
 ·have ah:=Ku.1 hq
  have hx:=Y1.e.eq_1 s.a0[j]
  have hm:(s.a0.map Y1.e).set j [.int .i64 s.a0[j].aX.aS, .int .i64 s.a0[j].aX.n, .str s.a0[j].aX.aa, .lst (r.fs.map Y8.e)]=(s.a0.set j ⟨k,r⟩).map Y1.e:=by rw[Zd4,ah];rfl
  have e6:=iA (s:=⟨s.aE,s.a0.set j ⟨k,r⟩,s.aT⟩) ⟨Zc h.1 (by omega),⟨Zc (KP h hk hr j).1 (by omega),fun x hx=>Y1.Ok.mono (by omega) ((KP h hk hr j).2 x hx)⟩,h.2.2⟩
  rw[Dc c1 hj ah]at e6
  have a7:s.a0.map Y1.e≠[]:=by intro e;have:=congrArg List.length e;simp only[Zr,Zx]at this;omega
  have O2:=kF 4 ((s.a0.set j ⟨k,r⟩).map Y1.e)
  rw[<-hm]at O2
  rcases O with⟨q,_⟩|⟨_,q2,q1⟩
  ·exact absurd q a7
  rcases O2 with⟨q,_⟩|⟨_,q3,_⟩
  ·exact absurd (by simpa using q) a7
  rw[hm]at q3
  rw[q2]at e1
  simp only[Int.toNat_natCast]
  generalize s.a0.set j ⟨k,r⟩=F at hm e6 q3⊢
  cases c3:dX r.fs<;>rw[c3]at e6<;>simp(maxSteps:=9^9) [ig,e1,e2,e3,e4,e5,e6,q2,q3,hm,hx,hj,uB]
def Ej {B:Nat}(hB:B<=1048576){s:Y7}(h:s.Ok B){k:YL}(hk:k.Ok B){r:Z4}(hr:r.Ok B):ag Ph aC 339 [s.v,k.v,r.v]=some (KJ (xt s k r)):=by
 have hM:B+1<=maxLen:=by unfold maxLen;omega
 have hl:s.a0.length<=1048576:=Zc h.2.1.1 hB
 have e1:=k9 hB h
 have e2:=mI (Y7.Ok.mono (by omega) h)
 have e3:=mi (YL.Ok.mono (by omega) hk)
 have e4:=tQ (s:=s) (by unfold maxLen;omega) k
 have e5:=rm hB hr
 have e8:=jv (Z4.Ok.mono (show B<=maxLen by omega) hr)
 have O:=kF 4 (s.a0.map Y1.e)
 unfold xt
 refine ae rfl ?_
 cases c1:dW s<;>rw[c1]at e2
 ·rcases O with⟨_,q1,q2⟩|⟨_,q1,q2⟩<;>rw[q1]at e1<;>simp(maxSteps:=9^9) [fD,e1,e2,q2]
 cases c2:kD k<;>rw[c2]at e3
 ·rcases O with⟨_,q1,q2⟩|⟨_,q1,q2⟩<;>rw[q1]at e1<;>simp(maxSteps:=9^9) [fD,e1,e2,e3,q2]
 cases c3:dX r.fs<;>rw[c3]at e8
 ·rcases O with⟨_,q1,q2⟩|⟨_,q1,q2⟩<;>rw[q1]at e1<;>simp(maxSteps:=9^9) [fD,e1,e2,e3,e8,q2]
 have l0:bO (-1) 0=true:=rfl
 rcases wO (Ci k) s.a0 with hf|⟨j,hj,hf,hq⟩<;>rw[hf]at e4⊢
 ·by_cases aP:16<=s.a0.length
  ·have aj:bO (s.a0.length:Int) 16=false:=ii (by omega)
   rcases O with⟨q,q1,q2⟩|⟨_,q1,q2⟩
   ·have:=congrArg List.length q;simp only[Zr,Zx]at this;omega
   rw[q1]at e1
   simp(maxSteps:=9^9) [fD,e1,e2,e3,e4,e8,l0,aj,aP,q2]
  have aj:bO (s.a0.length:Int) 16=true:=gB (by omega)
  rw[if_neg (by decide),if_neg aP]
  have hA:=LP s k
  obtain⟨g1,h1⟩:∃g,(k.aS==1)=g:=⟨_,rfl⟩
  rw[h1]at hA
  have aQ:bO s.aT 0=false/\ bO 1000000 s.aT=false:=by
   simp only[dW,rg,Zh,ZJ]at c1
   exact c1.2.2.2
  have aD:IntKind.i64.wrap (s.aT+1)=s.aT+1:=by
   have q1:=of_decide_eq_false aQ.1
   have q2:=of_decide_eq_false aQ.2
   rw[IntKind.wrap_i64];omega
  have bb:bO k.n (s.aT+1)= !(bO s.aT k.n):=by unfold bO;rw[Bool.eq_iff_iff];simp;omega
  have e9:=bR k.n (s.aT+1) 1000000
  rw[rg,bb]at e9
  have a1:=ML s k r
  have hp:=AD s.a0 k
  have b1:= @KG s.a0 k
  have b2:= @KE s.a0 k
  have O2:=kF 4 ((p6 s k r).map Y1.e)
  rcases O2 with⟨q,_⟩|⟨_,_,q3⟩
  ·rw[a1]at q;simp at q
  generalize p6 s k r=F at a1 q3⊢
  generalize xq s.a0 k=p at a1 hp b1 b2
  have m1:=ez (m:=s.a0.length+1) (z:=56) (by omega) (by omega)
  have m2:=ez (m:=p) (z:=56) (by omega) (by omega)
  have m3:=ez (m:=p+1) (z:=56) (by omega) (by omega)
  have w2:((s.a0.map Y1.e).take p).all (fun e=>e.length==4)=true:=by rw[<-List.map_take];exact cW (e:=Y1.e) (z:=4) (fun _=>rfl) _
  have w3:((s.a0.map Y1.e).drop p).all (fun e=>e.length==4)=true:=by rw[<-List.map_drop];exact cW (e:=Y1.e) (z:=4) (fun _=>rfl) _
  have t1:List.take (s.a0.length-p) ((s.a0.map Y1.e).drop p)=(s.a0.map Y1.e).drop p:=Zs (by simp)
  have t2:p+1+(s.a0.length-p)=s.a0.length+1:=by omega
  have w4:=cW (e:=Y1.e) (z:=4) (fun _=>rfl) s.a0
  rcases O with⟨q0,q1,q2⟩|⟨q0,q1,q2⟩<;>rw[q1]at e1
  ·have a5:s.a0=[]:=by simpa using q0
   rw[a5]at a1 hp
   have ay:p=0:=by simpa using hp
   subst ay
   simp only[Zz,List.take_nil,List.drop_nil,Zi]at a1
   simp(maxSteps:=9^9) [fD,e1,e2,e3,e4,e8,l0,aj]
   rw[t8]
   have av:bO 0 0=false:=rfl
   have hF:F.length=1:=by have:=congrArg List.length a1;simpa using this
   have wF:∀x:Y1,x.e.length=4:=fun _=>rfl
   simp +contextual (maxSteps:=9^9) [gY,e5,a5,av,hF,wF,<-a1,hA,h1,q3,aD,e9]<;>(cases g1<;>cases bO s.aT k.n<;>cases bO 1000000 k.n<;>simp)
  ·simp(maxSteps:=9^9) [fD,e1,e2,e3,e4,e8,l0,aj]
   refine aB bh Cl.fin [.f,.f,.f,.t,.t,.t,.t,.f,.t,.f,.t,.f,.f,.f,.f,.f,.f,.f,.f,.f,.f,.f,.f,.f,.f,.f,.f,.f,.f,.f,.f,.f,.f,.f,.f,.f,.f,.f,.f,.f,.f,.f,.f,.f,.f,.f,.f,.f,.f,.f,.f,.f,.f,.f,.f,.f,.f,.f,.f,.f,.f,.f,.f,.f,.f,.f,.f,.f,.f,.f,.f,.f,.f,.f,.f,.f,.f,.f,.f,.f,.f,.f,.f,.f,.f,.f,.f,.f,.f,.f,.f,.f,.f,.f,.f,.f,.f,.f,.f,.f] (fun k=>[(10,aa .i64 k)]) p (fun _=>false) rfl (by simp) (fun j hj _=> ?_) (fun _ _=> ?_)
   ·have a6:j<s.a0.length:=by omega
    have l1:=gB (b1 hj a6)
    have e7:=jb (YL.Ok.mono (show B<=maxLen by omega) (h.2.1.2 _ (Zf a6)).1) (YL.Ok.mono (by omega) hk)
    simp +contextual (maxSteps:=9^9) [gY,a6,l1,e7,aL (n:=s.a0.length) (by unfold maxLen;omega) a6,bd a6,Y1.e.eq_1 s.a0[j]]
   ·by_cases a2:p<s.a0.length
    ·have l1:=ii (Int.not_lt.1 (b2 a2))
     have hx:=Y1.e.eq_1 s.a0[p]
     have e7:=jb (YL.Ok.mono (show B<=maxLen by omega) (h.2.1.2 _ (Zf a2)).1) (YL.Ok.mono (by omega) hk)
     simp +contextual (maxSteps:=9^9) [gY,a2,hx,l1,e7,hp,m1,m2,m3,w2,w3,w4,t1,t2,bd a2,e5,<-a1,hA,h1,q3,aD,e9]<;>(cases g1<;>cases bO s.aT k.n<;>cases bO 1000000 k.n<;>simp)
    ·obtain rfl:p=s.a0.length:=by omega
     have af:(s.a0.map Y1.e).take s.a0.length++[[.int .i64 k.aS, .int .i64 k.n, .str k.aa, .lst (r.fs.map Y8.e)]]=F.map Y1.e:=by rw[a1];simp
     have hd:(s.a0.map Y1.e).drop s.a0.length=[]:=Za5 (by simp)
     have hF:F.length=s.a0.length+1:=by have:=congrArg List.length af;simpa using this.symm
     simp +contextual (maxSteps:=9^9) [gY,m1,m2,m3,w2,w3,w4,e5,hd, ↓af,hF,hA,h1,q3,aD,e9]<;>(cases g1<;>cases bO s.aT k.n<;>cases bO 1000000 k.n<;>simp)
 ·have ah:=Ku.1 hq
  have hx:=Y1.e.eq_1 s.a0[j]
  have hm:(s.a0.map Y1.e).set j [.int .i64 s.a0[j].aX.aS, .int .i64 s.a0[j].aX.n, .str s.a0[j].aX.aa, .lst (r.fs.map Y8.e)]=(s.a0.set j ⟨k,r⟩).map Y1.e:=by rw[Zd4,ah];rfl
  have a7:s.a0.map Y1.e≠[]:=by intro e;have:=congrArg List.length e;simp only[Zr,Zx]at this;omega
  have O2:=kF 4 ((s.a0.set j ⟨k,r⟩).map Y1.e)
  rw[<-hm]at O2
  rcases O with⟨q,_⟩|⟨_,q1,q2⟩
  ·exact absurd q a7
  rcases O2 with⟨q,_⟩|⟨_,_,q3⟩
  ·exact absurd (by simpa using q) a7
  rw[hm]at q3
  rw[q1]at e1
  simp only[Int.toNat_natCast]
  generalize s.a0.set j ⟨k,r⟩=F at hm q3⊢
  simp(maxSteps:=9^9) [fD,e1,e2,e3,e4,e5,e8,q2,q3,hm,hx,hj,uB]
def gN (f:List UInt8)(x:Y1):Int×Bool:=rJ x.aq.fs f
def xL (f:List UInt8)(a b:Y1):Bool:=bO (gN f a).1 (gN f b).1||((gN f a).1==(gN f b).1&&bO (tt a.aX b.aX) 0)
def Re (f:List UInt8)(x:Y1)(out:List Y1):Nat->Nat
 |0=>0
 |n+1=>match out[n]? with
  |none=>n+1
  |some y=>cond (xL f x y) (Re f x out n) (n+1)
def JV {f:List UInt8}{x:Y1}{out:List Y1}:∀n,Re f x out n<=n
 |0=>Zn _
 |n+1=>by
  unfold Re
  cases out[n]? with
  |none=>exact Zn _
  |some y=>
   cases h:xL f x y with
   |true=>simp only[h,cond_true];exact Nat.le_succ_of_le (JV n)
   |false=>simp only[h,cond_false];exact Zn _
def Fg {f:List UInt8}{x:Y1}{out:List Y1}:∀n,n<=out.length->∀p,Re f x out n<=p->∀(hp:p<n)(ho:p<out.length),xL f x out[p]=true
 |0,_,p,_,hp,_=>by omega
 |n+1,hn,p,h,hp,ho=>by
  unfold Re at h
  have ao:n<out.length:=by omega
  rw[Zm ao]at h
  simp only at h
  cases q:xL f x out[n]with
  |true=>
   rw[q,cond_true]at h
   by_cases e:p=n
   ·subst e;exact q
   ·exact Fg n (by omega) p h (by omega) ho
  |false=>rw[q,cond_false]at h;omega
def Fh {f:List UInt8}{x:Y1}{out:List Y1}:∀n,n<=out.length->∀j,Re f x out n=j+1->∃h:j<out.length,xL f x out[j]=false
 |0,_,j,h=>by simp[Re]at h
 |n+1,hn,j,h=>by
  unfold Re at h
  have ao:n<out.length:=by omega
  rw[Zm ao]at h
  simp only at h
  cases q:xL f x out[n]with
  |true=>rw[q,cond_true]at h;exact Fh n (by omega) j h
  |false=>
   rw[q,cond_false]at h
   obtain rfl:n=j:=by omega
   exact⟨ao,q⟩
def GF (out:List Y1)(x:Y1)(p:Nat):List Y1:=out.take p++x::out.drop p
def mF (f:List UInt8)(out:List Y1)(x:Y1):List Y1:=cond (gN f x).2 (GF out x (Re f x out out.length)) out
def oZ (f:List UInt8)(xs:List Y1):List Y1:=xs.foldl (mF f) []
def Jf {f:List UInt8}{xs:List Y1}{k:Nat}(hk:k<xs.length):oZ f (xs.take (k+1))=mF f (oZ f (xs.take k)) xs[k]:=by
 unfold oZ
 rw[ZX hk,List.foldl_append]
 rfl
def Jg (out:List Y1)(x:Y1)(p:Nat):(GF out x p).map Y1.e=(out.map Y1.e).take p++x.e::(out.map Y1.e).drop p:=by simp[GF,List.map_take,List.map_drop]
def RI {out:List Y1}{x y:Y1}{p:Nat}(h:y∈GF out x p):y=x \/y∈out:=by
 unfold GF at h
 rcases H'.1 h with h|h
 ·exact .inr (ZI h)
 ·rcases ZL.1 h with h|h
  ·exact .inl h
  ·exact .inr (Za0 h)
def RH (out:List Y1)(x:Y1){p:Nat}(h:p<=out.length):(GF out x p).length=out.length+1:=by simp[GF];omega
def MI {f:List UInt8}{out:List Y1}{x y:Y1}(h:y∈mF f out x):y=x \/y∈out:=by
 unfold mF at h
 cases q:(gN f x).2 with
 |true=>rw[q,cond_true]at h;exact RI h
 |false=>rw[q,cond_false]at h;exact .inr h
def xF {f:List UInt8}:∀(xs out:List Y1)(y:Y1),y∈xs.foldl (mF f) out->y∈xs \/y∈out
 |[],out,y,h=> .inr h
 |x::xs,out,y,h=>by
  rcases xF xs (mF f out x) y h with h|h
  ·exact .inl (Za1 _ h)
  ·rcases MI h with rfl|h
   ·exact .inl Zb2
   ·exact .inr h
def Ai {f:List UInt8}{xs:List Y1}{y:Y1}(h:y∈oZ f xs):y∈xs:=by
 rcases xF xs [] y h with h|h
 ·exact h
 ·cases h
def MH {f:List UInt8}{out:List Y1}{x:Y1}:(mF f out x).length<=out.length+1:=by
 unfold mF
 cases(gN f x).2 with
 |true=>rw[cond_true,RH _ _ (JV _)];exact Zn _
 |false=>rw[cond_false];omega
def xE {f:List UInt8}:∀(xs out:List Y1),(xs.foldl (mF f) out).length<=out.length+xs.length
 |[],out=>by simp
 |x::xs,out=>by
  have h1:=xE (f:=f) xs (mF f out x)
  have h2:=MH (f:=f) (out:=out) (x:=x)
  simp only[List.foldl_cons,Zo]
  omega
def Ah (f:List UInt8)(xs:List Y1):(oZ f xs).length<=xs.length:=by
 have:=xE (f:=f) xs []
 simpa[oZ]using this
def uS (l:List Y1)(k:Nat):YL:=match l[k]? with
 |some x=>x.aX
 |none=>⟨0,0,[]⟩
def UB (f:List UInt8)(l:List Y1)(k:Nat):Bool:=match l[k]?,l[k+1]? with
 |some a,some b=>(gN f a).1==(gN f b).1
 |_,_=>false
def Ul {f:List UInt8}{l:List Y1}{k:Nat}(hk:k+1<l.length):UB f l k=((gN f (l[k]'(by omega))).1==(gN f l[k+1]).1):=by
 have:k<l.length:=by omega
 simp[UB,hk,this]
def Um (f:List UInt8)(l:List Y1):YL×YL×Bool:=match(List.range (l.length-1)).find? (UB f l)with
 |some k=>(uS l k,uS l (k+1),true)
 |none=>(⟨0,0,[]⟩,⟨0,0,[]⟩,false)
def NV {f:List UInt8}{l:List Y1}{k:Nat}(hk:k<l.length-1)(h:UB f l k=true)(hn:∀j,j<k->UB f l j=false):Um f l=(uS l k,uS l (k+1),true):=by
 have:(List.range (l.length-1)).find? (UB f l)=some k:=by
  rw[List.find?_range_eq_some]
  exact⟨h,List.mem_range.2 hk,fun j hj=>by simp[hn j hj]⟩
 simp only[Um,this]
def NU {f:List UInt8}{l:List Y1}(hn:∀j,j<l.length-1->UB f l j=false):Um f l=(⟨0,0,[]⟩,⟨0,0,[]⟩,false):=by
 have:(List.range (l.length-1)).find? (UB f l)=none:=by
  rw[List.find?_range_eq_none]
  exact fun j hj=>by simp[hn j hj]
 simp only[Um,this]
def WU (t:YL×YL×Bool):V:= .b9 [(true,[.pv (.int .i64 t.1.aS), .pv (.int .i64 t.1.n), .pv (.str t.1.aa)]),(true,[.pv (.int .i64 t.2.1.aS), .pv (.int .i64 t.2.1.n), .pv (.str t.2.1.aa)]),(false,[.pv (.bool t.2.2)])]
section
variable {B:Nat}{f:List UInt8}
def Kr {f:List UInt8}{a b:Y1}(ha:a.Ok maxLen)(hb:b.Ok maxLen):ag Ph aC 415 [a.v,b.v,eE f]=some (az (xL f a b)):=by
 have e1:=js ha.2.1 f
 have e2:=js hb.2.1 f
 have e3:=ja ha.1 hb.1
 unfold xL gN
 generalize rJ a.aq.fs f=u at e1⊢
 generalize rJ b.aq.fs f=v at e2⊢
 obtain⟨w,hw⟩:∃w,(u.1==v.1)=w:=⟨_,rfl⟩
 rw[hw]
 refine ae rfl ?_
 simp +contextual (maxSteps:=9^9) [mX,e1,e2,e3,hw]
def KT {f:List UInt8}{a b:Y1}(ha:a.Ok maxLen)(hb:b.Ok maxLen):ag Ph aC 414 [a.v,b.v,eE f]=some (az (xL f a b)):=by
 have e1:=ju ha.2.1 f
 have e2:=ju hb.2.1 f
 have e3:=jb ha.1 hb.1
 unfold xL gN
 generalize rJ a.aq.fs f=u at e1⊢
 generalize rJ b.aq.fs f=v at e2⊢
 obtain⟨w,hw⟩:∃w,(u.1==v.1)=w:=⟨_,rfl⟩
 rw[hw]
 refine ae rfl ?_
 simp +contextual (maxSteps:=9^9) [sY,e1,e2,e3,hw]
end
def Ea {B:Nat}(b0:B<=1048576){s:Y7}(h:s.Ok B)(f:List UInt8):ag Ph aC 413 [s.v,eE f]=some (.one (.own 4 ((oZ f s.a0).map Y1.e))):=by
 have hB:B<=maxLen:=by unfold maxLen;omega
 have hl:s.a0.length<=1048576:=Zc h.2.1.1 b0
 have b3:=h.2.1.2
 refine ae rfl ?_
 simp(maxSteps:=9^9) [qq]
 refine dB bh Cl.fin s.a0.length [.f,.t,.f,.f,.f,.t,.f,.f,.f,.f,.f,.f,.f,.t,.t,.t,.f,.f,.f,.f,.f,.f,.f,.f,.f,.f,.f,.f,.f,.f,.f,.f,.f,.f,.f,.f,.f,.f,.f,.f,.f,.f,.f,.f,.f,.f,.f,.f,.f,.f,.f,.f] (fun k=>[(5, .one (.arr 0)),(15,aa .i64 k)]) (fun k=>[.arr 4 ((oZ f (s.a0.take k)).map Y1.e)]) rfl ?_ ?_ ?_
 ·exact Kn.of [1] (by decide) (by simp[show oZ f []=[]from rfl]) (by simp)
 ·intro k hk
  have hx:=Y1.e.eq_1 s.a0[k]
  have b4:=b3 _ (Zf hk)
  have b5:=Y1.Ok.mono hB b4
  have f1:=js (r:=s.a0[k].aq) b5.2.1 f
  have f2:=tE b0 b4
  have bc:=Zc (Ah f (s.a0.take k)) (by rw[ZM];exact Nat.min_le_left _ _)
  have hoo:∀y∈oZ f (s.a0.take k),y.Ok B:=fun y hy=>b3 y (ZI (Ai hy))
  try dsimp only
  rw[Jf hk]
  generalize oZ f (s.a0.take k)=out at bc hoo⊢
  unfold mF
  have b6:∀q(hq:q<out.length),_:=fun q hq=>Kr (f:=f) b5 (Y1.Ok.mono hB (hoo _ (Zf hq)))
  have bg:gN f s.a0[k]=rJ s.a0[k].aq.fs f:=rfl
  rw[bg]
  generalize rJ s.a0[k].aq.fs f=u at f1⊢
  obtain⟨u1,u2⟩:=u
  cases u2
  ·simp only[cond_false]
   simp(maxSteps:=9^9) [jd,hk,aL (n:=s.a0.length) (by unfold maxLen;omega) hk,bd hk,hx,f1]
  ·simp only[cond_true]
   have b7:=JV (f:=f) (x:=s.a0[k]) (out:=out) out.length
   have aF:=Fg (f:=f) (x:=s.a0[k]) (out:=out) out.length (Zn _)
   have aG:=Fh (f:=f) (x:=s.a0[k]) (out:=out) out.length (Zn _)
   have hm:=Jg out s.a0[k] (Re f s.a0[k] out out.length)
   rw[hm,hx]
   clear hm
   have m1:=ez (m:=out.length+1) (z:=56) (by omega) (by omega)
   generalize Re f s.a0[k] out out.length=d at b7 aF aG⊢
   simp(maxSteps:=9^9) [jd,hk,aL (n:=s.a0.length) (by unfold maxLen;omega) hk,bd hk,hx,f1]
   refine QI bh Cl.kn (out.length-d) [.f,.t,.f,.f,.f,.t,.f,.t,.f,.f,.t,.f,.f,.t,.t,.t,.f,.f,.f,.f,.f,.f,.f,.f,.f,.f,.f,.f,.f,.f,.f,.f,.f,.f,.f,.f,.f,.f,.f,.f,.f,.f,.f,.f,.f,.f,.f,.f,.f,.f,.f,.f] (fun j=>[(10,aa .i64 ((out.length-j:Nat):Int))]) (fun _=>[.arr 4 (out.map Y1.e), .box [.pv (.int .i64 s.a0[k].aX.aS), .pv (.int .i64 s.a0[k].aX.n), .pv (.str s.a0[k].aX.aa), .pv (.lst (s.a0[k].aq.fs.map Y8.e))]]) 2 rfl ?_ ?_ ?_ ?_
   ·simp
   ·intro j hj
    obtain⟨q,hq⟩:∃q,out.length-j=q+1:=⟨out.length-j-1,by omega⟩
    have bl:out.length-(j+1)=q:=by omega
    have a8:q<out.length:=by omega
    have l1:=b6 q a8
    rw[aF q (by omega) a8 a8]at l1
    have hy:=Y1.e.eq_1 out[q]
    have w4:bO 0 ((q:Int)+1)=true:=gB (by omega)
    have w5:IntKind.i64.wrap ((q:Int)+1-1)=(q:Int):=by rw[IntKind.wrap_i64];omega
    have w6:IntKind.i64.wrap (q:Int)=(q:Int):=by rw[IntKind.wrap_i64];omega
    try dsimp only
    rw[hq,bl]
    clear aF aG
    simp(maxSteps:=9^9) [gU,hk,hx,hy,a8,l1,w4,w5,w6]
   ·have hz:out.length-(out.length-d)=d:=by omega
    try dsimp only
    rw[hz]
    cases d with
    |zero=>
     simp(maxSteps:=9^9) [gU,show bO 0 0=false from rfl]
    |succ q=>
     obtain⟨a8,bo⟩:=aG q rfl
     have l1:=b6 q a8
     rw[bo]at l1
     have hy:=Y1.e.eq_1 out[q]
     have w4:bO 0 ((q:Int)+1)=true:=gB (by omega)
     have w5:IntKind.i64.wrap ((q:Int)+1-1)=(q:Int):=by rw[IntKind.wrap_i64];omega
     have w6:IntKind.i64.wrap (q:Int)=(q:Int):=by rw[IntKind.wrap_i64];omega
     simp(maxSteps:=9^9) [gU,hk,hx,hy,a8,l1,w4,w5,w6]
   ·have hz:out.length-(out.length-d)=d:=by omega
    try dsimp only
    rw[hz]
    have bp:(d:Int)<=(out.length:Int):=by omega
    simp(maxSteps:=9^9) [f2,hk,hx,aL (n:=s.a0.length) (by unfold maxLen;omega) hk,b7,bp,m1,-eF]
    exact Kn.of [4] (by decide) (by simp) (by simp)
 ·try dsimp only
  rw[F']
  simp(maxSteps:=9^9) [jd]
end Gi
