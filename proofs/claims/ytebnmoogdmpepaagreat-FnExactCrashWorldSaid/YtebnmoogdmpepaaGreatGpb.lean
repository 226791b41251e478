/- Of this proof. -/
import Derived.Test.YtebnmoogdmpepaaGreatGpd
set_option linter.unusedSimpArgs false
set_option linter.unusedVariables false
namespace Gi
open Go Go.RowKit
def FV (c ks:Nat):List AOper:=[⟨some (c+2), .mv (.tmp 1),none⟩,⟨some (c+3), .call ks [.tmp (c+1), .tmp (c+2)] true false,none⟩,⟨some 1, .mv (.tmp (c+3)),none⟩]
def Jr :Nat→Nat→List Seg→ACode
 |c,_,[]=> .seq (.region [⟨some c, .mv (.tmp 1),none⟩,⟨some 4, .mv (.tmp c),none⟩]) .ret
 |c,off, .c .str::ss=> .seq (.region (⟨some c, .mv (.tmp 1),none⟩::lY (c+1) 2 off 1 false++[⟨some (c+3), .lenS (.tmp (c+2)),none⟩,⟨some (c+4), .bin .sub (.tmp c) (.tmp (c+3)),none⟩,⟨some 1, .mv (.tmp (c+4)),none⟩])) (.seq (pe (c+5)) (Jr (c+7) (off+1) ss))
 |c,off, .c _::ss=>Jr c (off+1) ss
 |c,off, .s ts K::ss=>if K.ks=0 then Jr c (off+ts.length) ss else .seq (.region (lY c 2 off ts.length true++FV c K.ks)) (.seq (pe (c+4)) (Jr (c+6) (off+ts.length) ss))
 |c,off, .l _ K::ss=> .seq (.region (lY c 2 off 1 false++FV c K.ks)) (.seq (pe (c+4)) (Jr (c+6) (off+1) ss))
def Hl :Nat→List Seg→Nat
 |c,[]=>c
 |c, .c .str::ss=>Hl (c+7) ss
 |c, .c _::ss=>Hl c ss
 |c, .s _ K::ss=>if K.ks=0 then Hl c ss else Hl (c+6) ss
 |c, .l _ _::ss=>Hl (c+6) ss
def fX (ss:List Seg):AFn:=⟨Hl 5 ss+1,[.tmp 4], .seq (.region [⟨some 2, .box (.tmp 0),none⟩,⟨some 4, .mv (.pv (.int .i64 0)),none⟩]) (Jr 5 0 ss)⟩
def Lq :ACode:= .seq (.region [⟨some 4, .mv (.pv (.bool false)),none⟩]) .ret
def Hf (t:PTy)(x y:Opd):AOp:=match t with
 | .bool=> .eqB true x y
 |_=> .bin .neq x y
def QC :Nat→Nat→List Seg→ACode
 |_,_,[]=> .seq (.region [⟨some 4, .mv (.pv (.bool true)),none⟩]) .ret
 |c,off, .c t::ss=> .seq (.seq (.region (lY c 2 off 1 false++(lY (c+2) 3 off 1 false++[⟨some (c+4),Hf t (.tmp (c+1)) (.tmp (c+3)),none⟩]))) (.cond (.tmp (c+4)) Lq .skip)) (QC (c+5) (off+1) ss)
 |c,off, .s ts K::ss=> .seq (.seq (.region (lY c 2 off ts.length true++(lY (c+2) 3 off ts.length true++[⟨some (c+4), .call K.ke [.tmp (c+1), .tmp (c+3)] true false,none⟩,⟨some (c+5), .un .not (.tmp (c+4)),none⟩]))) (.cond (.tmp (c+5)) Lq .skip)) (QC (c+6) (off+ts.length) ss)
 |c,off, .l _ K::ss=> .seq (.seq (.region (lY c 2 off 1 false++(lY (c+2) 3 off 1 false++[⟨some (c+4), .call K.ke [.tmp (c+1), .tmp (c+3)] true false,none⟩,⟨some (c+5), .un .not (.tmp (c+4)),none⟩]))) (.cond (.tmp (c+5)) Lq .skip)) (QC (c+6) (off+1) ss)
def Pv :Nat→List Seg→Nat
 |c,[]=>c
 |c, .c _::ss=>Pv (c+5) ss
 |c,_::ss=>Pv (c+6) ss
def fM (ss:List Seg):AFn:=⟨Pv 5 ss,[.tmp 4], .seq (.region [⟨some 2, .box (.tmp 0),none⟩,⟨some 3, .box (.tmp 1),none⟩,⟨some 4, .mv (.pv (.bool false)),none⟩]) (QC 5 0 ss)⟩
section
variable {Φ:Nat→Option AFn}{ext:Nat→List V→Option V}
def kM (Φ:Nat→Option AFn)(ext:Nat→List V→Option V)(k:Nat)(ts:List PTy):Prop:=∀r:List PV,bi ts r→DE Φ ext k r
def ko (Φ:Nat→Option AFn)(ext:Nat→List V→Option V)(k:Nat)(ts:List PTy):Prop:=
 ∀rows:List (List PV),nQ (.lst ts) (.lst rows)→∀left:Int,0≤left→left≤1048576→ah Φ ext k [ba rows,aa .i64 left]=some (aa .i64 (less left (sz (.lst rows))))
def NM (Φ:Nat→Option AFn)(ext:Nat→List V→Option V):Seg→Prop
 | .c t=>t.flatT=true
 | .s ts K=>if K.ks=0 then ts.all PTy.small=true else kM Φ ext K.ks ts
 | .l ts K=>ko Φ ext K.ks ts
theorem Ta {call:Nat→List V→Option V}{lp}{c:Nat}{t:List V}{h:List AObj}{l:Int}(h1:t[1]? =some (aa .i64 l))(hl:l<0)(hc:5≤c)(hlt:c+1<t.length):
 ∃t',aq call lp (pe c) ⟨t,h⟩=some (.ret,⟨t',h⟩)∧t'[4]? =some (aa .i64 (-1)):=by
 have e1:t.getD 1 (.tup [])=aa .i64 l:=getD_some h1
 have e2:(t.set c (aa .i64 l)).getD c (.tup [])=aa .i64 l:=aD (by omega)
 have e3:((t.set c (aa .i64 l)).set (c+1) (av true)).getD (c+1) (.tup [])=av true:=aD (by simp;omega)
 refine⟨((t.set c (aa .i64 l)).set (c+1) (av true)).set 4 (aa .i64 (-1)),?_,Zd (by simp;omega)⟩
 simp only[pe,aq,ai,az,aK,bj,Opd.ev,e1,put,e2,bin,if_true,bV,hl,decide_true,e3,isBool]
theorem Oo {call:Nat→List V→Option V}{lp}{c:Nat}{t:List V}{h:List AObj}{l:Int}(h1:t[1]? =some (aa .i64 l))(hl:¬l<0)(hlt:c+1<t.length):
 aq call lp (pe c) ⟨t,h⟩=some (.normal,⟨(t.set c (aa .i64 l)).set (c+1) (av false),h⟩):=by
 have e1:t.getD 1 (.tup [])=aa .i64 l:=getD_some h1
 have e2:(t.set c (aa .i64 l)).getD c (.tup [])=aa .i64 l:=aD (by omega)
 have e3:((t.set c (aa .i64 l)).set (c+1) (av false)).getD (c+1) (.tup [])=av false:=aD (by simp;omega)
 simp only[pe,aq,ai,az,aK,bj,Opd.ev,e1,put,e2,bin,if_true,bV,hl,decide_false,e3,isBool,Z0,if_false]
theorem qj :∀(ss:List Seg)(c:Nat),c≤Hl c ss
 |[],c=>Zl _
 | .c .str::ss,c=>Zc (by omega) (qj ss (c+7))
 | .c (.int _)::ss,c=>qj ss c
 | .c .bool::ss,c=>qj ss c
 | .c (.lst _)::ss,c=>qj ss c
 | .s _ K::ss,c=>by
  simp only[Hl]
  split
  ·exact qj ss c
  ·exact Zc (by omega) (qj ss (c+6))
 | .l _ _::ss,c=>Zc (by omega) (qj ss (c+6))
theorem OF :∀(ss:List Seg),(∀s∈ss,NM Φ ext s)→∀{c:Nat}{dn row:List PV}{t:List V}{left:Int},
 t[1]? =some (aa .i64 left)→t[2]? =some (.one (.ptr 0 0 0))→0≤left→left≤1048576→5≤c→Hl c ss<t.length→bi (gT ss) row→
 ∃t',aq (ah Φ ext) aB (Jr c dn.length ss) ⟨t,[.box ((dn++row).map .pv)]⟩=some (.ret,⟨t',[.box ((dn++row).map .pv)]⟩)∧t'[4]? =some (aa .i64 (less left (fA row)))
 |[],_,c,dn,row,t,left,t1,t2,h0,h1,hc,hN,hr=>by
  obtain rfl:=fR hr
  simp only[Hl]at hN
  have e1:t.getD 1 (.tup [])=aa .i64 left:=getD_some t1
  have e2:(t.set c (aa .i64 left)).getD c (.tup [])=aa .i64 left:=aD hN
  have hl:less left (fA [])=left:=by
   have e0:fA []=0:=by simp only[fA]
   rw[e0];unfold less;rw[if_neg (by omega)];omega
  refine⟨(t.set c (aa .i64 left)).set 4 (aa .i64 left),?_,by rw[hl];exact Zd (by simp;omega)⟩
  simp only[Jr,aq,ai,az,aK,bj,Opd.ev,e1,put,e2]
 |sg::ss,hss,c,dn,row,t,left,t1,t2,h0,h1,hc,hN,hr=>by
  obtain⟨a,b,rfl,ha,hb⟩:=kK (ts:=sg.ts) hr
  have hal:=jM ha
  have hsz:=FX a b
  have hSeg:=hss sg (by simp)
  have ih:=fun{c dn row t left}=>OF ss (fun s m=>hss s (by simp[m])) (c:=c) (dn:=dn) (row:=row) (t:=t) (left:=left)
  rw[←Zo]
  have skip:∀{c':Nat},fA a=0→Jr c dn.length (sg::ss)=Jr c (dn++a).length ss→Hl c (sg::ss)=Hl c ss→
   ∃t',aq (ah Φ ext) aB (Jr c dn.length (sg::ss)) ⟨t,[.box ((dn++a++b).map .pv)]⟩=some (.ret,⟨t',[.box ((dn++a++b).map .pv)]⟩)∧t'[4]? =some (aa .i64 (less left (fA (a++b)))):=by
   intro _ e0 e1 e2
   rw[e1,hsz,e0,Yc]
   exact ih t1 t2 h0 h1 hc (by rw[←e2];exact hN) hb
  have go:∀{ops:List AOper}{cn cm:Nat}{t':List V}{l:Int},Jr c dn.length (sg::ss)= .seq (.region ops) (.seq (pe cn) (Jr (cn+2) (dn++a).length ss))→Hl c (sg::ss)=Hl (cn+2) ss→5≤cn→
   ai (ah Φ ext) ops ⟨t,[.box ((dn++a++b).map .pv)]⟩=some ⟨t',[.box ((dn++a++b).map .pv)]⟩→t'.length=t.length→t'[1]? =some (aa .i64 l)→t'[2]? =some (.one (.ptr 0 0 0))→(l<0→less left (fA a)= -1)→(¬l<0→l=less left (fA a))→
   ∃t',aq (ah Φ ext) aB (Jr c dn.length (sg::ss)) ⟨t,[.box ((dn++a++b).map .pv)]⟩=some (.ret,⟨t',[.box ((dn++a++b).map .pv)]⟩)∧t'[4]? =some (aa .i64 (less left (fA (a++b)))):=by
   intro ops cn cm t' l e1 e2 e3 e4 e5 e6 e7 e8 e9
   have hcl:cn+1<t'.length:=by have:=qj ss (cn+2);omega
   rw[e1,hsz]
   by_cases hn:l<0
   ·obtain⟨t'',g1,g2⟩:=Ta (call:=ah Φ ext) (lp:=aB) (h:=[.box ((dn++a++b).map .pv)]) e6 hn e3 hcl
    refine⟨t'',?_,?_⟩
    ·simp only[aq,e4,g1]
    ·rw[g2,K5 (b:=fA b) h0 (by rw[e8 hn];omega)]
   ·have g1:=Oo (call:=ah Φ ext) (lp:=aB) (h:=[.box ((dn++a++b).map .pv)]) e6 hn hcl
    have hge:0≤less left (fA a):=by rw[←e9 hn];omega
    obtain⟨t'',f1,f2⟩:=ih (c:=cn+2) (dn:=dn++a) (row:=b) (t:=(t'.set cn (aa .i64 l)).set (cn+1) (av false)) (left:=l) (by rw[Za (by omega),Za (by omega)];exact e6) (by rw[Za (by omega),Za (by omega)];exact e7) (by omega) (by have:=Of (a:=fA a) h0;rw[e9 hn];omega) (by omega) (by simp[e5];rw[←e2];exact hN) hb
    refine⟨t'',?_,?_⟩
    ·simp only[aq,e4,g1]
     exact f1
    ·rw[f2,←sd hge,e9 hn]
  have call:∀{n:Nat}{agg:Bool}{k:Nat}{v:V},Jr c dn.length (sg::ss)= .seq (.region (lY c 2 dn.length n agg++FV c k)) (.seq (pe (c+4)) (Jr (c+6) (dn++a).length ss))→Hl c (sg::ss)=Hl (c+6) ss→
   gn agg n dn.length ((dn++(a++b)).map .pv)=some v→(∀h i,am h [v,aa .i64 i]=some [v,aa .i64 i])→ah Φ ext k [v,aa .i64 left]=some (aa .i64 (less left (fA a)))→
   ∃t',aq (ah Φ ext) aB (Jr c dn.length (sg::ss)) ⟨t,[.box ((dn++a++b).map .pv)]⟩=some (.ret,⟨t',[.box ((dn++a++b).map .pv)]⟩)∧t'[4]? =some (aa .i64 (less left (fA (a++b)))):=by
   intro n agg k v e1 e2 e3 e4 e5
   have hcl:c+5<t.length:=by have:=qj ss (c+6);omega
   rw[←Zo]at e3
   have el:=qh (t:=t) (h:=[.box ((dn++a++b).map .pv)]) t2 (c:=c) (by omega) (by omega) rfl e3 (ah Φ ext)
   generalize hh:[AObj.box ((dn++a++b).map L.pv)]=hp at el go⊢
   have q1:((t.set c (V.one (.ptr 0 0 dn.length))).set (c+1) v).getD 1 (.tup [])=aa .i64 left:=by rw[dD (by omega),dD (by omega)];exact getD_some t1
   have q2:(((t.set c (V.one (.ptr 0 0 dn.length))).set (c+1) v).set (c+2) (aa .i64 left)).getD (c+1) (.tup [])=v:=by rw[dD (by omega)];exact aD (by simp;omega)
   have q3:(((t.set c (V.one (.ptr 0 0 dn.length))).set (c+1) v).set (c+2) (aa .i64 left)).getD (c+2) (.tup [])=aa .i64 left:=aD (by simp;omega)
   have q4:((((t.set c (V.one (.ptr 0 0 dn.length))).set (c+1) v).set (c+2) (aa .i64 left)).set (c+3) (aa .i64 (less left (fA a)))).getD (c+3) (.tup [])=aa .i64 (less left (fA a)):=aD (by simp;omega)
   refine go (ops:=lY c 2 dn.length n agg++FV c k) (cn:=c+4) (cm:=0) (l:=less left (fA a)) (t':=((((t.set c (V.one (.ptr 0 0 dn.length))).set (c+1) v).set (c+2) (aa .i64 left)).set (c+3) (aa .i64 (less left (fA a)))).set 1 (aa .i64 (less left (fA a)))) e1 e2 (by omega) ?_ (by simp) (Zd (by simp;omega)) ?_ (fun hn=>Oe hn h0) (fun _=>rfl)
   ·rw[bU _ _ _ el]
    simp only[FV,ai,az,aK,bj,Opd.ev,q1,put,Bool.true_or,if_true,Zv,Yb,q2,q3,e4,e5,V.flat,L.flat,Xo,Bool.and_false,Z0,if_false,dO,di,q4]
   ·rw[Za (by omega),Za (by omega),Za (by omega),Za (by omega),Za (by omega)];exact t2
  cases sg with
  |c ty=>
   simp only[Seg.ts,Z6]at hal ha
   obtain⟨p,rfl⟩:=Ye.1 hal
   have hlen:(dn++[p]).length=dn.length+1:=by simp
   cases ty with
   |lst us=>cases hSeg
   |int k=>
    obtain⟨n,rfl⟩:=ma ha.1
    exact skip (c':=0) (by simp only[fA,sz]) (by rw[hlen];rfl) rfl
   |bool=>
    obtain⟨n,rfl⟩:=kL ha.1
    exact skip (c':=0) (by simp only[fA,sz]) (by rw[hlen];rfl) rfl
   |str=>
    obtain⟨s,rfl⟩:=mb ha.1
    have hs:s.length≤maxLen:=ha.1
    unfold maxLen at hs
    have hza:fA [PV.str s]=s.length:=by simp only[fA,sz,Y1]
    have hcl:c+7<t.length:=by have:=qj ss (c+7);simp only[Hl]at hN;omega
    have hw:IntKind.i64.wrap (left-(s.length:Int))=left-s.length:=by rw[IntKind.wrap_i64];omega
    have hcut:gn false 1 dn.length ((dn++[PV.str s]++b).map .pv)=some (f9 s):=by rw[Zo];exact mf (agg:=false) (a:=[.str s]) (.inr rfl)
    have el:=qh (x:=2) (ox:=0) (t:=t.set c (aa .i64 left)) (h:=[.box ((dn++[PV.str s]++b).map .pv)]) (by rw[Za (by omega)];exact t2) (c:=c+1) (by omega) (by simp;omega) rfl hcut (ah Φ ext)
    generalize hh:[AObj.box ((dn++[PV.str s]++b).map L.pv)]=hp at el go⊢
    have q1:t.getD 1 (.tup [])=aa .i64 left:=getD_some t1
    generalize hT:((t.set c (aa .i64 left)).set (c+1) (V.one (.ptr 0 0 dn.length))).set (c+1+1) (f9 s)=T at el
    have lT:T.length=t.length:=by rw[←hT];simp
    have q2:T.getD (c+2) (.tup [])=f9 s:=by rw[←hT];exact aD (by simp;omega)
    have q3:(T.set (c+3) (aa .i64 s.length)).getD c (.tup [])=aa .i64 left:=by rw[dD (by omega),←hT,dD (by omega),dD (by omega)];exact aD (by omega)
    have q4:(T.set (c+3) (aa .i64 s.length)).getD (c+3) (.tup [])=aa .i64 s.length:=aD (by omega)
    have q5:((T.set (c+3) (aa .i64 s.length)).set (c+4) (aa .i64 (left-s.length))).getD (c+4) (.tup [])=aa .i64 (left-s.length):=aD (by simp;omega)
    refine go (cn:=c+5) (cm:=0) (l:=left-s.length) (t':=((T.set (c+3) (aa .i64 s.length)).set (c+4) (aa .i64 (left-s.length))).set 1 (aa .i64 (left-s.length))) (by rw[hlen];rfl) rfl (by omega) ?_ (by simp[lT]) (Zd (by simp;omega)) ?_ (fun hn=>by rw[hza];exact S6 (by omega)) (fun hn=>by rw[hza];unfold less;rw[if_neg (by omega)])
    ·simp only[Zf,ai]
     simp only[az,aK,bj,Opd.ev,q1,put]
     rw[bU _ _ _ el]
     simp only[ai,az,aK,bj,Opd.ev,q2,isStr,put,q3,q4,bin,if_true,bV,hw,q5]
    ·rw[Za (by omega),Za (by omega),Za (by omega),←hT,Za (by omega),Za (by omega),Za (by omega)];exact t2
  |s ts K=>
   simp only[Seg.ts]at hal ha
   have hlen:(dn++a).length=dn.length+ts.length:=by simp[hal]
   by_cases hk:K.ks=0
   ·simp only[NM,hk,if_true]at hSeg
    exact skip (c':=0) (FY hSeg ha) (by rw[hlen];simp only[Jr,hk,if_true]) (by simp only[Hl,hk,if_true])
   ·simp only[NM,hk,if_false]at hSeg
    exact call (n:=ts.length) (agg:=true) (v:= .agg (a.map .pv)) (by rw[hlen];simp only[Jr,hk,if_false]) (by simp only[Hl,hk,if_false]) (by rw[←hal];exact mf (agg:=true) (.inl rfl)) (fun h i=>by simp only[am,sC];rfl) (hSeg a ha left h0 h1)
  |l ts K=>
   simp only[Seg.ts,Z6]at hal ha
   obtain⟨p,rfl⟩:=Ye.1 hal
   obtain⟨rows,rfl⟩:=nR ha.1
   have hlen:(dn++[PV.lst rows]).length=dn.length+1:=by simp
   exact call (n:=1) (agg:=false) (v:=ba rows) (by rw[hlen];rfl) rfl (mf (agg:=false) (a:=[.lst rows]) (.inr rfl)) (fun h i=>rfl) (by have:=hSeg rows ha.1 left h0 h1;simpa only[fA,Y1]using this)
theorem da {k:Nat}{ss:List Seg}(hk:Φ k=some (fX ss))(hss:∀s∈ss,NM Φ ext s):kM Φ ext k (gT ss):=by
 intro r hr left h0 h1
 refine fC hk ?_
 have hle:=qj ss 5
 obtain⟨m,hm⟩:∃m,Hl 5 ss+1-2=m+4:=⟨Hl 5 ss-5,by omega⟩
 have hpl:(r.map L.pv).all plain=true:=by simp[plain]
 obtain⟨t',e1,e2⟩:=OF ss hss (c:=5) (dn:=[]) (row:=r) (t:=V.agg (r.map .pv)::aa .i64 left::V.one (.ptr 0 0 0):: .tup []::aa .i64 0::List.replicate (m+1) (.tup [])) (left:=left) rfl rfl h0 h1 (by omega) (by simp;omega) hr
 have hst:fL Φ ext (fX ss).body (start (fX ss) [.agg (r.map .pv),aa .i64 left])=some (.ret,⟨t',[.box (r.map .pv)]⟩):=by
  simp only[fL,fX,start,Zn,Z8,Yc,Nat.reduceAdd,hm,aq,ai,az,aK,bj,cf,Opd.ev,put,List.replicate_succ,Zf,Zi,Y8,Ys,Yd,V.cells,hpl,if_true]
  exact e1
 rw[hst]
 simp only[done,fX,aY,ar,bQ,getD_some e2,Yl,Xa,Zz,V.cells,bM,comp,aJ,bH]
 simp[al]
def j5 (Φ:Nat→Option AFn)(ext:Nat→List V→Option V)(k:Nat)(ts:List PTy):Prop:=
 ∀r:List PV,bi ts r→ah Φ ext k [.agg (r.map .pv), .agg (r.map .pv)]=some (av true)
def kl (Φ:Nat→Option AFn)(ext:Nat→List V→Option V)(k:Nat)(ts:List PTy):Prop:=
 ∀rows:List (List PV),nQ (.lst ts) (.lst rows)→ah Φ ext k [ba rows,ba rows]=some (av true)
def Tq (Φ:Nat→Option AFn)(ext:Nat→List V→Option V):Seg→Prop
 | .c t=>t.flatT=true
 | .s ts K=>j5 Φ ext K.ke ts
 | .l ts K=>kl Φ ext K.ke ts
theorem Ad :∀(ss:List Seg)(c:Nat),c≤Pv c ss
 |[],c=>Zl _
 | .c _::ss,c=>Zc (by omega) (Ad ss (c+5))
 | .s _ _::ss,c=>Zc (by omega) (Ad ss (c+6))
 | .l _ _::ss,c=>Zc (by omega) (Ad ss (c+6))
theorem NX :∀(ss:List Seg),(∀s∈ss,Tq Φ ext s)→∀{c:Nat}{dn row:List PV}{t:List V},
 t[2]? =some (.one (.ptr 0 0 0))→t[3]? =some (.one (.ptr 1 0 0))→5≤c→Pv c ss≤t.length→bi (gT ss) row→
 ∃t',aq (ah Φ ext) aB (QC c dn.length ss) ⟨t,[.box ((dn++row).map .pv), .box ((dn++row).map .pv)]⟩=some (.ret,⟨t',[.box ((dn++row).map .pv), .box ((dn++row).map .pv)]⟩)∧t'[4]? =some (av true)
 |[],_,c,dn,row,t,t2,t3,hc,hN,hr=>by
  simp only[Pv]at hN
  refine⟨t.set 4 (av true),?_,Zd (by omega)⟩
  simp only[QC,aq,ai,az,aK,bj,Opd.ev,put]
 |sg::ss,hss,c,dn,row,t,t2,t3,hc,hN,hr=>by
  obtain⟨a,b,rfl,ha,hb⟩:=kK (ts:=sg.ts) hr
  have hal:=jM ha
  have hSeg:=hss sg (by simp)
  have ih:=fun{c dn row t}=>NX ss (fun s m=>hss s (by simp[m])) (c:=c) (dn:=dn) (row:=row) (t:=t)
  rw[←Zo]
  generalize hh:[AObj.box ((dn++a++b).map L.pv), .box ((dn++a++b).map L.pv)]=hp
  have go:∀{ops:List AOper}{cn:Nat}{t':List V},QC c dn.length (sg::ss)= .seq (.seq (.region ops) (.cond (.tmp cn) Lq .skip)) (QC (cn+1) (dn++a).length ss)→Pv c (sg::ss)=Pv (cn+1) ss→4≤cn→
   ai (ah Φ ext) ops ⟨t,hp⟩=some ⟨t',hp⟩→t'.length=t.length→t'[cn]? =some (av false)→t'[2]? =t[2]? →t'[3]? =t[3]? →
   ∃t',aq (ah Φ ext) aB (QC c dn.length (sg::ss)) ⟨t,hp⟩=some (.ret,⟨t',hp⟩)∧t'[4]? =some (av true):=by
   intro ops cn t' e1 e2 e3 e4 e5 e6 e7 e8
   obtain⟨t'',f1,f2⟩:=ih (c:=cn+1) (dn:=dn++a) (row:=b) (t:=t') (e7.trans t2) (e8.trans t3) (by omega) (by rw[e5,←e2];exact hN) hb
   rw[hh]at f1
   refine⟨t'',?_,f2⟩
   rw[e1]
   simp only[aq,e4,Opd.ev,getD_some e6,isBool,Z0,if_false]
   exact f1
  have hb0:hp[0]? =some (.box ((dn++a++b).map .pv)):=by rw[←hh];rfl
  have hb1:hp[1]? =some (.box ((dn++a++b).map .pv)):=by rw[←hh];rfl
  have ld:∀{n:Nat}{agg:Bool}{v:V},gn agg n dn.length ((dn++a++b).map .pv)=some v→c+3<t.length→∃T,ai (ah Φ ext) (lY c 2 dn.length n agg++lY (c+2) 3 dn.length n agg) ⟨t,hp⟩=some ⟨T,hp⟩∧T.length=t.length∧T.getD (c+1) (.tup [])=v∧T.getD (c+3) (.tup [])=v∧T[2]? =t[2]? ∧T[3]? =t[3]? :=by
   intro n agg v hcut hlt
   have el1:=qh (t:=t) (h:=hp) t2 (c:=c) (by omega) (by omega) hb0 hcut (ah Φ ext)
   have el2:=qh (t:=(t.set c (.one (.ptr 0 0 dn.length))).set (c+1) v) (h:=hp) (x:=3) (ox:=1) (by rw[Za (by omega),Za (by omega)];exact t3) (c:=c+2) (by omega) (by simp;omega) hb1 hcut (ah Φ ext)
   refine⟨_,(bU _ _ _ el1).trans el2,by simp,?_,?_,?_,?_⟩
   ·rw[dD (by omega),dD (by omega)];exact aD (by simp;omega)
   ·exact aD (by simp;omega)
   ·rw[Za (by omega),Za (by omega),Za (by omega),Za (by omega)]
   ·rw[Za (by omega),Za (by omega),Za (by omega),Za (by omega)]
  have call:∀{n:Nat}{agg:Bool}{k:Nat}{v:V},QC c dn.length (sg::ss)= .seq (.seq (.region (lY c 2 dn.length n agg++(lY (c+2) 3 dn.length n agg++[⟨some (c+4), .call k [.tmp (c+1), .tmp (c+3)] true false,none⟩,⟨some (c+5), .un .not (.tmp (c+4)),none⟩]))) (.cond (.tmp (c+5)) Lq .skip)) (QC (c+6) (dn++a).length ss)→Pv c (sg::ss)=Pv (c+6) ss→
   gn agg n dn.length ((dn++(a++b)).map .pv)=some v→(∀h,am h [v,v]=some [v,v])→ah Φ ext k [v,v]=some (av true)→
   ∃t',aq (ah Φ ext) aB (QC c dn.length (sg::ss)) ⟨t,hp⟩=some (.ret,⟨t',hp⟩)∧t'[4]? =some (av true):=by
   intro n agg k v e1 e2 e3 e4 e5
   have hcl:c+6≤t.length:=by have:=Ad ss (c+6);omega
   rw[←Zo]at e3
   obtain⟨T,g1,g2,g3,g4,g5,g6⟩:=ld e3 (by omega)
   have q1:(T.set (c+4) (av true)).getD (c+4) (.tup [])=av true:=aD (by omega)
   refine go (cn:=c+5) (t':=(T.set (c+4) (av true)).set (c+5) (av false)) e1 e2 (by omega) ?_ (by simp[g2]) (Zd (by simp;omega)) (by rw[Za (by omega),Za (by omega)];exact g5) (by rw[Za (by omega),Za (by omega)];exact g6)
   rw[←Zo,bU _ _ _ g1]
   simp only[ai,az,aK,bj,Opd.ev,g3,g4,put,Bool.true_or,if_true,Zv,Yb,e4,e5,V.flat,L.flat,Xo,Bool.and_false,Z0,if_false,dO,di,q1,un]
  cases sg with
  |c ty=>
   simp only[Seg.ts,Z6]at hal ha
   obtain⟨p,rfl⟩:=Ye.1 hal
   have hlen:(dn++[p]).length=dn.length+1:=by simp
   have hcl:c+5≤t.length:=by have:=Ad ss (c+5);simp only[Pv]at hN;omega
   have hcut:gn false 1 dn.length ((dn++[p]++b).map .pv)=some (.one (.pv p)):=by rw[Zo];exact mf (agg:=false) (a:=[p]) (.inr rfl)
   obtain⟨T,g1,g2,g3,g4,g5,g6⟩:=ld hcut (by omega)
   refine go (cn:=c+4) (t':=T.set (c+4) (av false)) (by rw[hlen];rfl) rfl (by omega) ?_ (by simp[g2]) (Zd (by omega)) (by rw[Za (by omega)];exact g5) (by rw[Za (by omega)];exact g6)
   rw[←Zo,bU _ _ _ g1]
   cases ty with
   |lst us=>cases hSeg
   |int k=>obtain⟨n,rfl⟩:=ma ha.1;simp only[ai,az,aK,bj,Hf,Opd.ev,g3,g4,put,bin,if_true,bV,bne_self_eq_false]
   |bool=>obtain⟨n,rfl⟩:=kL ha.1;simp only[ai,az,aK,bj,Hf,Opd.ev,g3,g4,put,isBool,if_true,beq_self_eq_true,Xo]
   |str=>obtain⟨n,rfl⟩:=mb ha.1;simp only[ai,az,aK,bj,Hf,Opd.ev,g3,g4,put,bin,je,beq_self_eq_true,Xo]
  |s ts K=>
   simp only[Seg.ts]at hal ha
   have hlen:(dn++a).length=dn.length+ts.length:=by simp[hal]
   exact call (n:=ts.length) (agg:=true) (v:= .agg (a.map .pv)) (by rw[hlen];rfl) rfl (by rw[←hal];exact mf (agg:=true) (.inl rfl)) (fun h=>by simp only[am,sC]) (hSeg a ha)
  |l ts K=>
   simp only[Seg.ts,Z6]at hal ha
   obtain⟨p,rfl⟩:=Ye.1 hal
   obtain⟨rows,rfl⟩:=nR ha.1
   have hlen:(dn++[PV.lst rows]).length=dn.length+1:=by simp
   exact call (n:=1) (agg:=false) (v:=ba rows) (by rw[hlen];rfl) rfl (mf (agg:=false) (a:=[.lst rows]) (.inr rfl)) (fun h=>rfl) (hSeg rows ha.1)
theorem cL {k:Nat}{ss:List Seg}(hk:Φ k=some (fM ss))(hss:∀s∈ss,Tq Φ ext s):j5 Φ ext k (gT ss):=by
 intro r hr
 refine fC hk ?_
 have hle:=Ad ss 5
 obtain⟨m,hm⟩:∃m,Pv 5 ss-2=m+3:=⟨Pv 5 ss-5,by omega⟩
 have hpl:(r.map L.pv).all plain=true:=by simp[plain]
 obtain⟨t',e1,e2⟩:=NX ss hss (c:=5) (dn:=[]) (row:=r) (t:=V.agg (r.map .pv)::V.agg (r.map .pv)::V.one (.ptr 0 0 0)::V.one (.ptr 1 0 0)::av false::List.replicate m (.tup [])) rfl rfl (by omega) (by simp;omega) hr
 have hst:fL Φ ext (fM ss).body (start (fM ss) [.agg (r.map .pv), .agg (r.map .pv)])=some (.ret,⟨t',[.box (r.map .pv), .box (r.map .pv)]⟩):=by
  simp only[fL,fM,start,Zn,Z8,Yc,Nat.reduceAdd,hm,aq,ai,az,aK,bj,cf,Opd.ev,put,List.replicate_succ,Zf,Zi,Y8,List.getD_cons_succ,Ys,Yd,V.cells,hpl,if_true]
  exact e1
 rw[hst]
 simp only[done,fM,aY,ar,bQ,getD_some e2,Yl,Xa,Zz,V.cells,bM,comp,aJ,bH]
 simp[al]
def Uw (P:Seg→Prop):List Seg→Prop
 |[]=>True
 |s::ss=>P s∧Uw P ss
theorem bq {P:Seg→Prop}:∀{ss:List Seg},Uw P ss→∀s∈ss,P s
 |[],_,_,h=>by cases h
 |x::xs,h,s,hm=>by
  rcases Yh.1 hm with rfl|hm
  ·exact h.1
  ·exact bq h.2 s hm
theorem jL {k z kx:Nat}{ts:List PTy}(hk:Φ k=some (Jx z kx))(hz:ts.length=z)(hx:kM Φ ext kx ts):ko Φ ext k ts:=by
 intro rows h left h0 h1
 obtain⟨hl,hr⟩:=aL h
 rw[ik]
 exact Ui hk (fun r m=>by rw[jM (hr r m),hz]) hl (fun r m=>hx r (hr r m)) h0 h1
theorem DD {k:Nat}{ts:List PTy}(hk:Φ k=some TJ)(ha:ts.all PTy.small=true):ko Φ ext k ts:=by
 intro rows h left h0 h1
 obtain⟨hl,hr⟩:=aL h
 rw[ik,Ce ha hr]
 exact Uh hk hl h0 h1
theorem iu {k z kx:Nat}{ts:List PTy}(hk:Φ k=some (ov 27 (fB z kx)))(hz:ts.length=z)(hx:j5 Φ ext kx ts):kl Φ ext k ts:=by
 intro rows h
 obtain⟨hl,hr⟩:=aL h
 exact T2 hk (fun r m=>by rw[jM (hr r m),hz]) hl (fun r m=>hx r (hr r m))
theorem II {k:Nat}{t:PTy}(hk:Φ k=some (ov 26 pa))(ht:t.easy=true):kl Φ ext k [t]:=by
 intro rows h
 obtain⟨hl,hr⟩:=aL h
 obtain⟨qs,rfl⟩:=OE hr
 exact T1 hk (Uc ht hr) (by simpa using hl)
end
end Gi
