/- Of this proof. -/
import Derived.Test.YtbeaonmepfkmmaaGreatGpdv
set_option linter.unusedSimpArgs false
set_option linter.unusedVariables false
namespace Gi
open Go Go.RowKit
def EJ (c ks:Nat):List AOper:=[⟨some (c+2), .mv (.tmp 1),none⟩,⟨some (c+3), .call ks [.tmp (c+1), .tmp (c+2)] true false,none⟩,⟨some 1, .mv (.tmp (c+3)),none⟩]
def IE :Nat→Nat→List Seg→ACode
 |c,_,[]=> .seq (.region [⟨some c, .mv (.tmp 1),none⟩,⟨some 4, .mv (.tmp c),none⟩]) .ret
 |c,off, .c .str::ss=> .seq (.region (⟨some c, .mv (.tmp 1),none⟩::lS (c+1) 2 off 1 false++[⟨some (c+3), .lenS (.tmp (c+2)),none⟩,⟨some (c+4), .bin .sub (.tmp c) (.tmp (c+3)),none⟩,⟨some 1, .mv (.tmp (c+4)),none⟩])) (.seq (rh (c+5)) (IE (c+7) (off+1) ss))
 |c,off, .c _::ss=>IE c (off+1) ss
 |c,off, .s ts K::ss=>if K.ks=0 then IE c (off+ts.length) ss else .seq (.region (lS c 2 off ts.length true++EJ c K.ks)) (.seq (rh (c+4)) (IE (c+6) (off+ts.length) ss))
 |c,off, .l _ K::ss=> .seq (.region (lS c 2 off 1 false++EJ c K.ks)) (.seq (rh (c+4)) (IE (c+6) (off+1) ss))
def Ga :Nat→List Seg→Nat
 |c,[]=>c
 |c, .c .str::ss=>Ga (c+7) ss
 |c, .c _::ss=>Ga c ss
 |c, .s _ K::ss=>if K.ks=0 then Ga c ss else Ga (c+6) ss
 |c, .l _ _::ss=>Ga (c+6) ss
def fF (ss:List Seg):AFn:=⟨Ga 5 ss+1,[.tmp 4], .seq (.region [⟨some 2, .box (.tmp 0),none⟩,⟨some 4, .mv (.pv (.int .i64 0)),none⟩]) (IE 5 0 ss)⟩
def KQ :ACode:= .seq (.region [⟨some 4, .mv (.pv (.bool false)),none⟩]) .ret
def F2 (t:PTy)(x y:Opd):AOp:=match t with
 | .bool=> .eqB true x y
 |_=> .bin .neq x y
def Qs :Nat→Nat→List Seg→ACode
 |_,_,[]=> .seq (.region [⟨some 4, .mv (.pv (.bool true)),none⟩]) .ret
 |c,off, .c t::ss=> .seq (.seq (.region (lS c 2 off 1 false++(lS (c+2) 3 off 1 false++[⟨some (c+4),F2 t (.tmp (c+1)) (.tmp (c+3)),none⟩]))) (.cond (.tmp (c+4)) KQ .skip)) (Qs (c+5) (off+1) ss)
 |c,off, .s ts K::ss=> .seq (.seq (.region (lS c 2 off ts.length true++(lS (c+2) 3 off ts.length true++[⟨some (c+4), .call K.ke [.tmp (c+1), .tmp (c+3)] true false,none⟩,⟨some (c+5), .un .not (.tmp (c+4)),none⟩]))) (.cond (.tmp (c+5)) KQ .skip)) (Qs (c+6) (off+ts.length) ss)
 |c,off, .l _ K::ss=> .seq (.seq (.region (lS c 2 off 1 false++(lS (c+2) 3 off 1 false++[⟨some (c+4), .call K.ke [.tmp (c+1), .tmp (c+3)] true false,none⟩,⟨some (c+5), .un .not (.tmp (c+4)),none⟩]))) (.cond (.tmp (c+5)) KQ .skip)) (Qs (c+6) (off+1) ss)
def Pf :Nat→List Seg→Nat
 |c,[]=>c
 |c, .c _::ss=>Pf (c+5) ss
 |c,_::ss=>Pf (c+6) ss
def fk (ss:List Seg):AFn:=⟨Pf 5 ss,[.tmp 4], .seq (.region [⟨some 2, .box (.tmp 0),none⟩,⟨some 3, .box (.tmp 1),none⟩,⟨some 4, .mv (.pv (.bool false)),none⟩]) (Qs 5 0 ss)⟩
section
variable {Φ:Nat→Option AFn}{ext:Nat→List V→Option V}
def kI (Φ:Nat→Option AFn)(ext:Nat→List V→Option V)(k:Nat)(ts:List PTy):Prop:=∀r:List PV,bF ts r→Cu Φ ext k r
def ko (Φ:Nat→Option AFn)(ext:Nat→List V→Option V)(k:Nat)(ts:List PTy):Prop:=
 ∀rows:List (List PV),oI (.lst ts) (.lst rows)→∀left:Int,0≤left→left≤1048576→ah Φ ext k [aR rows,ae .i64 left]=some (ae .i64 (less left (sz (.lst rows))))
def Nm (Φ:Nat→Option AFn)(ext:Nat→List V→Option V):Seg→Prop
 | .c t=>t.flatT=true
 | .s ts K=>if K.ks=0 then ts.all PTy.small=true else kI Φ ext K.ks ts
 | .l ts K=>ko Φ ext K.ks ts
theorem Tg {call:Nat→List V→Option V}{lp}{c:Nat}{t:List V}{h:List AObj}{l:Int}(h1:t[1]? =some (ae .i64 l))(hl:l<0)(hc:5≤c)(hlt:c+1<t.length):
 ∃t',aB call lp (rh c) ⟨t,h⟩=some (.ret,⟨t',h⟩)∧t'[4]? =some (ae .i64 (-1)):=by
 have e1:t.getD 1 (.tup [])=ae .i64 l:=getD_some h1
 have e2:(t.set c (ae .i64 l)).getD c (.tup [])=ae .i64 l:=aN (by omega)
 have e3:((t.set c (ae .i64 l)).set (c+1) (aF true)).getD (c+1) (.tup [])=aF true:=aN (by simp;omega)
 refine⟨((t.set c (ae .i64 l)).set (c+1) (aF true)).set 4 (ae .i64 (-1)),?_,Zd (by simp;omega)⟩
 simp only[rh,aB,am,aK,aW,bo,Opd.ev,e1,put,e2,bin,if_true,cA,hl,decide_true,e3,isBool]
theorem Tf {call:Nat→List V→Option V}{lp}{c:Nat}{t:List V}{h:List AObj}{l:Int}(h1:t[1]? =some (ae .i64 l))(hl:¬l<0)(hlt:c+1<t.length):
 aB call lp (rh c) ⟨t,h⟩=some (.normal,⟨(t.set c (ae .i64 l)).set (c+1) (aF false),h⟩):=by
 have e1:t.getD 1 (.tup [])=ae .i64 l:=getD_some h1
 have e2:(t.set c (ae .i64 l)).getD c (.tup [])=ae .i64 l:=aN (by omega)
 have e3:((t.set c (ae .i64 l)).set (c+1) (aF false)).getD (c+1) (.tup [])=aF false:=aN (by simp;omega)
 simp only[rh,aB,am,aK,aW,bo,Opd.ev,e1,put,e2,bin,if_true,cA,hl,decide_false,e3,isBool,Z8,if_false]
theorem qh :∀(ss:List Seg)(c:Nat),c≤Ga c ss
 |[],c=>Zk _
 | .c .str::ss,c=>Zc (by omega) (qh ss (c+7))
 | .c (.int _)::ss,c=>qh ss c
 | .c .bool::ss,c=>qh ss c
 | .c (.lst _)::ss,c=>qh ss c
 | .s _ K::ss,c=>by
  simp only[Ga]
  split
  ·exact qh ss c
  ·exact Zc (by omega) (qh ss (c+6))
 | .l _ _::ss,c=>Zc (by omega) (qh ss (c+6))
theorem Ol :∀(ss:List Seg),(∀s∈ss,Nm Φ ext s)→∀{c:Nat}{dn row:List PV}{t:List V}{left:Int},
 t[1]? =some (ae .i64 left)→t[2]? =some (.one (.ptr 0 0 0))→0≤left→left≤1048576→5≤c→Ga c ss<t.length→bF (gY ss) row→
 ∃t',aB (ah Φ ext) aG (IE c dn.length ss) ⟨t,[.box ((dn++row).map .pv)]⟩=some (.ret,⟨t',[.box ((dn++row).map .pv)]⟩)∧t'[4]? =some (ae .i64 (less left (fC row)))
 |[],_,c,dn,row,t,left,t1,t2,h0,h1,hc,hN,hr=>by
  obtain rfl:=fL hr
  simp only[Ga]at hN
  have e1:t.getD 1 (.tup [])=ae .i64 left:=getD_some t1
  have e2:(t.set c (ae .i64 left)).getD c (.tup [])=ae .i64 left:=aN hN
  have hl:less left (fC [])=left:=by
   have e0:fC []=0:=by simp only[fC]
   rw[e0];unfold less;rw[if_neg (by omega)];omega
  refine⟨(t.set c (ae .i64 left)).set 4 (ae .i64 left),?_,by rw[hl];exact Zd (by simp;omega)⟩
  simp only[IE,aB,am,aK,aW,bo,Opd.ev,e1,put,e2]
 |sg::ss,hss,c,dn,row,t,left,t1,t2,h0,h1,hc,hN,hr=>by
  obtain⟨a,b,rfl,ha,hb⟩:=pD (ts:=sg.ts) hr
  have hal:=kG ha
  have hsz:=EM a b
  have hSeg:=hss sg (by simp)
  have ih:=fun{c dn row t left}=>Ol ss (fun s m=>hss s (by simp[m])) (c:=c) (dn:=dn) (row:=row) (t:=t) (left:=left)
  rw[←Zn]
  have skip:∀{c':Nat},fC a=0→IE c dn.length (sg::ss)=IE c (dn++a).length ss→Ga c (sg::ss)=Ga c ss→
   ∃t',aB (ah Φ ext) aG (IE c dn.length (sg::ss)) ⟨t,[.box ((dn++a++b).map .pv)]⟩=some (.ret,⟨t',[.box ((dn++a++b).map .pv)]⟩)∧t'[4]? =some (ae .i64 (less left (fC (a++b)))):=by
   intro _ e0 e1 e2
   rw[e1,hsz,e0,Nat.zero_add]
   exact ih t1 t2 h0 h1 hc (by rw[←e2];exact hN) hb
  have go:∀{ops:List AOper}{cn cm:Nat}{t':List V}{l:Int},IE c dn.length (sg::ss)= .seq (.region ops) (.seq (rh cn) (IE (cn+2) (dn++a).length ss))→Ga c (sg::ss)=Ga (cn+2) ss→5≤cn→
   am (ah Φ ext) ops ⟨t,[.box ((dn++a++b).map .pv)]⟩=some ⟨t',[.box ((dn++a++b).map .pv)]⟩→t'.length=t.length→t'[1]? =some (ae .i64 l)→t'[2]? =some (.one (.ptr 0 0 0))→(l<0→less left (fC a)= -1)→(¬l<0→l=less left (fC a))→
   ∃t',aB (ah Φ ext) aG (IE c dn.length (sg::ss)) ⟨t,[.box ((dn++a++b).map .pv)]⟩=some (.ret,⟨t',[.box ((dn++a++b).map .pv)]⟩)∧t'[4]? =some (ae .i64 (less left (fC (a++b)))):=by
   intro ops cn cm t' l e1 e2 e3 e4 e5 e6 e7 e8 e9
   have hcl:cn+1<t'.length:=by have:=qh ss (cn+2);omega
   rw[e1,hsz]
   by_cases hn:l<0
   ·obtain⟨t'',g1,g2⟩:=Tg (call:=ah Φ ext) (lp:=aG) (h:=[.box ((dn++a++b).map .pv)]) e6 hn e3 hcl
    refine⟨t'',?_,?_⟩
    ·simp only[aB,e4,g1]
    ·rw[g2,Kl (b:=fC b) h0 (by rw[e8 hn];omega)]
   ·have g1:=Tf (call:=ah Φ ext) (lp:=aG) (h:=[.box ((dn++a++b).map .pv)]) e6 hn hcl
    have hge:0≤less left (fC a):=by rw[←e9 hn];omega
    obtain⟨t'',f1,f2⟩:=ih (c:=cn+2) (dn:=dn++a) (row:=b) (t:=(t'.set cn (ae .i64 l)).set (cn+1) (aF false)) (left:=l) (by rw[Za (by omega),Za (by omega)];exact e6) (by rw[Za (by omega),Za (by omega)];exact e7) (by omega) (by have:=NP (a:=fC a) h0;rw[e9 hn];omega) (by omega) (by simp[e5];rw[←e2];exact hN) hb
    refine⟨t'',?_,?_⟩
    ·simp only[aB,e4,g1]
     exact f1
    ·rw[f2,←rZ hge,e9 hn]
  have call:∀{n:Nat}{agg:Bool}{k:Nat}{v:V},IE c dn.length (sg::ss)= .seq (.region (lS c 2 dn.length n agg++EJ c k)) (.seq (rh (c+4)) (IE (c+6) (dn++a).length ss))→Ga c (sg::ss)=Ga (c+6) ss→
   fT agg n dn.length ((dn++(a++b)).map .pv)=some v→(∀h i,az h [v,ae .i64 i]=some [v,ae .i64 i])→ah Φ ext k [v,ae .i64 left]=some (ae .i64 (less left (fC a)))→
   ∃t',aB (ah Φ ext) aG (IE c dn.length (sg::ss)) ⟨t,[.box ((dn++a++b).map .pv)]⟩=some (.ret,⟨t',[.box ((dn++a++b).map .pv)]⟩)∧t'[4]? =some (ae .i64 (less left (fC (a++b)))):=by
   intro n agg k v e1 e2 e3 e4 e5
   have hcl:c+5<t.length:=by have:=qh ss (c+6);omega
   rw[←Zn]at e3
   have el:=qa (t:=t) (h:=[.box ((dn++a++b).map .pv)]) t2 (c:=c) (by omega) (by omega) rfl e3 (ah Φ ext)
   generalize hh:[AObj.box ((dn++a++b).map L.pv)]=hp at el go⊢
   have q1:((t.set c (V.one (.ptr 0 0 dn.length))).set (c+1) v).getD 1 (.tup [])=ae .i64 left:=by rw[dM (by omega),dM (by omega)];exact getD_some t1
   have q2:(((t.set c (V.one (.ptr 0 0 dn.length))).set (c+1) v).set (c+2) (ae .i64 left)).getD (c+1) (.tup [])=v:=by rw[dM (by omega)];exact aN (by simp;omega)
   have q3:(((t.set c (V.one (.ptr 0 0 dn.length))).set (c+1) v).set (c+2) (ae .i64 left)).getD (c+2) (.tup [])=ae .i64 left:=aN (by simp;omega)
   have q4:((((t.set c (V.one (.ptr 0 0 dn.length))).set (c+1) v).set (c+2) (ae .i64 left)).set (c+3) (ae .i64 (less left (fC a)))).getD (c+3) (.tup [])=ae .i64 (less left (fC a)):=aN (by simp;omega)
   refine go (ops:=lS c 2 dn.length n agg++EJ c k) (cn:=c+4) (cm:=0) (l:=less left (fC a)) (t':=((((t.set c (V.one (.ptr 0 0 dn.length))).set (c+1) v).set (c+2) (ae .i64 left)).set (c+3) (ae .i64 (less left (fC a)))).set 1 (ae .i64 (less left (fC a)))) e1 e2 (by omega) ?_ (by simp) (Zd (by simp;omega)) ?_ (fun hn=>NO hn h0) (fun _=>rfl)
   ·rw[bZ _ _ _ el]
    simp only[EJ,am,aK,aW,bo,Opd.ev,q1,put,Bool.true_or,if_true,Zu,Z4,q2,q3,e4,e5,V.flat,L.flat,Bool.not_true,Bool.and_false,Z8,if_false,cT,cS,q4]
   ·rw[Za (by omega),Za (by omega),Za (by omega),Za (by omega),Za (by omega)];exact t2
  cases sg with
  |c ty=>
   simp only[Seg.ts,Z0]at hal ha
   obtain⟨p,rfl⟩:=List.length_eq_one_iff.1 hal
   have hlen:(dn++[p]).length=dn.length+1:=by simp
   cases ty with
   |lst us=>cases hSeg
   |int k=>
    obtain⟨n,rfl⟩:=lX ha.1
    exact skip (c':=0) (by simp only[fC,sz]) (by rw[hlen];rfl) rfl
   |bool=>
    obtain⟨n,rfl⟩:=kH ha.1
    exact skip (c':=0) (by simp only[fC,sz]) (by rw[hlen];rfl) rfl
   |str=>
    obtain⟨s,rfl⟩:=jY ha.1
    have hs:s.length≤maxLen:=ha.1
    unfold maxLen at hs
    have hza:fC [PV.str s]=s.length:=by simp only[fC,sz,Nat.add_zero]
    have hcl:c+7<t.length:=by have:=qh ss (c+7);simp only[Ga]at hN;omega
    have hw:IntKind.i64.wrap (left-(s.length:Int))=left-s.length:=by rw[IntKind.wrap_i64];omega
    have hcut:fT false 1 dn.length ((dn++[PV.str s]++b).map .pv)=some (cU s):=by rw[Zn];exact oM (agg:=false) (a:=[.str s]) (.inr rfl)
    have el:=qa (x:=2) (ox:=0) (t:=t.set c (ae .i64 left)) (h:=[.box ((dn++[PV.str s]++b).map .pv)]) (by rw[Za (by omega)];exact t2) (c:=c+1) (by omega) (by simp;omega) rfl hcut (ah Φ ext)
    generalize hh:[AObj.box ((dn++[PV.str s]++b).map L.pv)]=hp at el go⊢
    have q1:t.getD 1 (.tup [])=ae .i64 left:=getD_some t1
    generalize hT:((t.set c (ae .i64 left)).set (c+1) (V.one (.ptr 0 0 dn.length))).set (c+1+1) (cU s)=T at el
    have lT:T.length=t.length:=by rw[←hT];simp
    have q2:T.getD (c+2) (.tup [])=cU s:=by rw[←hT];exact aN (by simp;omega)
    have q3:(T.set (c+3) (ae .i64 s.length)).getD c (.tup [])=ae .i64 left:=by rw[dM (by omega),←hT,dM (by omega),dM (by omega)];exact aN (by omega)
    have q4:(T.set (c+3) (ae .i64 s.length)).getD (c+3) (.tup [])=ae .i64 s.length:=aN (by omega)
    have q5:((T.set (c+3) (ae .i64 s.length)).set (c+4) (ae .i64 (left-s.length))).getD (c+4) (.tup [])=ae .i64 (left-s.length):=aN (by simp;omega)
    refine go (cn:=c+5) (cm:=0) (l:=left-s.length) (t':=((T.set (c+3) (ae .i64 s.length)).set (c+4) (ae .i64 (left-s.length))).set 1 (ae .i64 (left-s.length))) (by rw[hlen];rfl) rfl (by omega) ?_ (by simp[lT]) (Zd (by simp;omega)) ?_ (fun hn=>by rw[hza];exact Tb (by omega)) (fun hn=>by rw[hza];unfold less;rw[if_neg (by omega)])
    ·simp only[Zr,am]
     simp only[aK,aW,bo,Opd.ev,q1,put]
     rw[bZ _ _ _ el]
     simp only[am,aK,aW,bo,Opd.ev,q2,isStr,put,q3,q4,bin,if_true,cA,hw,q5]
    ·rw[Za (by omega),Za (by omega),Za (by omega),←hT,Za (by omega),Za (by omega),Za (by omega)];exact t2
  |s ts K=>
   simp only[Seg.ts]at hal ha
   have hlen:(dn++a).length=dn.length+ts.length:=by simp[hal]
   by_cases hk:K.ks=0
   ·simp only[Nm,hk,if_true]at hSeg
    exact skip (c':=0) (EN hSeg ha) (by rw[hlen];simp only[IE,hk,if_true]) (by simp only[Ga,hk,if_true])
   ·simp only[Nm,hk,if_false]at hSeg
    exact call (n:=ts.length) (agg:=true) (v:= .agg (a.map .pv)) (by rw[hlen];simp only[IE,hk,if_false]) (by simp only[Ga,hk,if_false]) (by rw[←hal];exact oM (agg:=true) (.inl rfl)) (fun h i=>by simp only[az,uA];rfl) (hSeg a ha left h0 h1)
  |l ts K=>
   simp only[Seg.ts,Z0]at hal ha
   obtain⟨p,rfl⟩:=List.length_eq_one_iff.1 hal
   obtain⟨rows,rfl⟩:=oJ ha.1
   have hlen:(dn++[PV.lst rows]).length=dn.length+1:=by simp
   exact call (n:=1) (agg:=false) (v:=aR rows) (by rw[hlen];rfl) rfl (oM (agg:=false) (a:=[.lst rows]) (.inr rfl)) (fun h i=>rfl) (by have:=hSeg rows ha.1 left h0 h1;simpa only[fC,Nat.add_zero]using this)
theorem cY {k:Nat}{ss:List Seg}(hk:Φ k=some (fF ss))(hss:∀s∈ss,Nm Φ ext s):kI Φ ext k (gY ss):=by
 intro r hr left h0 h1
 refine fy hk ?_
 have hle:=qh ss 5
 obtain⟨m,hm⟩:∃m,Ga 5 ss+1-2=m+4:=⟨Ga 5 ss-5,by omega⟩
 have hpl:(r.map L.pv).all plain=true:=by simp[plain]
 obtain⟨t',e1,e2⟩:=Ol ss hss (c:=5) (dn:=[]) (row:=r) (t:=V.agg (r.map .pv)::ae .i64 left::V.one (.ptr 0 0 0):: .tup []::ae .i64 0::List.replicate (m+1) (.tup [])) (left:=left) rfl rfl h0 h1 (by omega) (by simp;omega) hr
 have hst:f8 Φ ext (fF ss).body (start (fF ss) [.agg (r.map .pv),ae .i64 left])=some (.ret,⟨t',[.box (r.map .pv)]⟩):=by
  simp only[f8,fF,start,Zo,List.length_nil,Nat.zero_add,Nat.reduceAdd,hm,aB,am,aK,aW,bo,cj,Opd.ev,put,List.replicate_succ,Zr,Zt,List.getD_cons_zero,List.set_cons_succ,List.set_cons_zero,V.cells,hpl,if_true]
  exact e1
 rw[hst]
 simp only[done,fF,aS,aA,cN,getD_some e2,List.flatMap_cons,List.flatMap_nil,Z3,V.cells,bJ,comp,aM,bA]
 simp[ar]
def jX (Φ:Nat→Option AFn)(ext:Nat→List V→Option V)(k:Nat)(ts:List PTy):Prop:=
 ∀r:List PV,bF ts r→ah Φ ext k [.agg (r.map .pv), .agg (r.map .pv)]=some (aF true)
def km (Φ:Nat→Option AFn)(ext:Nat→List V→Option V)(k:Nat)(ts:List PTy):Prop:=
 ∀rows:List (List PV),oI (.lst ts) (.lst rows)→ah Φ ext k [aR rows,aR rows]=some (aF true)
def TI (Φ:Nat→Option AFn)(ext:Nat→List V→Option V):Seg→Prop
 | .c t=>t.flatT=true
 | .s ts K=>jX Φ ext K.ke ts
 | .l ts K=>km Φ ext K.ke ts
theorem yV :∀(ss:List Seg)(c:Nat),c≤Pf c ss
 |[],c=>Zk _
 | .c _::ss,c=>Zc (by omega) (yV ss (c+5))
 | .s _ _::ss,c=>Zc (by omega) (yV ss (c+6))
 | .l _ _::ss,c=>Zc (by omega) (yV ss (c+6))
theorem Ny :∀(ss:List Seg),(∀s∈ss,TI Φ ext s)→∀{c:Nat}{dn row:List PV}{t:List V},
 t[2]? =some (.one (.ptr 0 0 0))→t[3]? =some (.one (.ptr 1 0 0))→5≤c→Pf c ss≤t.length→bF (gY ss) row→
 ∃t',aB (ah Φ ext) aG (Qs c dn.length ss) ⟨t,[.box ((dn++row).map .pv), .box ((dn++row).map .pv)]⟩=some (.ret,⟨t',[.box ((dn++row).map .pv), .box ((dn++row).map .pv)]⟩)∧t'[4]? =some (aF true)
 |[],_,c,dn,row,t,t2,t3,hc,hN,hr=>by
  simp only[Pf]at hN
  refine⟨t.set 4 (aF true),?_,Zd (by omega)⟩
  simp only[Qs,aB,am,aK,aW,bo,Opd.ev,put]
 |sg::ss,hss,c,dn,row,t,t2,t3,hc,hN,hr=>by
  obtain⟨a,b,rfl,ha,hb⟩:=pD (ts:=sg.ts) hr
  have hal:=kG ha
  have hSeg:=hss sg (by simp)
  have ih:=fun{c dn row t}=>Ny ss (fun s m=>hss s (by simp[m])) (c:=c) (dn:=dn) (row:=row) (t:=t)
  rw[←Zn]
  generalize hh:[AObj.box ((dn++a++b).map L.pv), .box ((dn++a++b).map L.pv)]=hp
  have go:∀{ops:List AOper}{cn:Nat}{t':List V},Qs c dn.length (sg::ss)= .seq (.seq (.region ops) (.cond (.tmp cn) KQ .skip)) (Qs (cn+1) (dn++a).length ss)→Pf c (sg::ss)=Pf (cn+1) ss→4≤cn→
   am (ah Φ ext) ops ⟨t,hp⟩=some ⟨t',hp⟩→t'.length=t.length→t'[cn]? =some (aF false)→t'[2]? =t[2]? →t'[3]? =t[3]? →
   ∃t',aB (ah Φ ext) aG (Qs c dn.length (sg::ss)) ⟨t,hp⟩=some (.ret,⟨t',hp⟩)∧t'[4]? =some (aF true):=by
   intro ops cn t' e1 e2 e3 e4 e5 e6 e7 e8
   obtain⟨t'',f1,f2⟩:=ih (c:=cn+1) (dn:=dn++a) (row:=b) (t:=t') (e7.trans t2) (e8.trans t3) (by omega) (by rw[e5,←e2];exact hN) hb
   rw[hh]at f1
   refine⟨t'',?_,f2⟩
   rw[e1]
   simp only[aB,e4,Opd.ev,getD_some e6,isBool,Z8,if_false]
   exact f1
  have hb0:hp[0]? =some (.box ((dn++a++b).map .pv)):=by rw[←hh];rfl
  have hb1:hp[1]? =some (.box ((dn++a++b).map .pv)):=by rw[←hh];rfl
  have ld:∀{n:Nat}{agg:Bool}{v:V},fT agg n dn.length ((dn++a++b).map .pv)=some v→c+3<t.length→∃T,am (ah Φ ext) (lS c 2 dn.length n agg++lS (c+2) 3 dn.length n agg) ⟨t,hp⟩=some ⟨T,hp⟩∧T.length=t.length∧T.getD (c+1) (.tup [])=v∧T.getD (c+3) (.tup [])=v∧T[2]? =t[2]? ∧T[3]? =t[3]? :=by
   intro n agg v hcut hlt
   have el1:=qa (t:=t) (h:=hp) t2 (c:=c) (by omega) (by omega) hb0 hcut (ah Φ ext)
   have el2:=qa (t:=(t.set c (.one (.ptr 0 0 dn.length))).set (c+1) v) (h:=hp) (x:=3) (ox:=1) (by rw[Za (by omega),Za (by omega)];exact t3) (c:=c+2) (by omega) (by simp;omega) hb1 hcut (ah Φ ext)
   refine⟨_,(bZ _ _ _ el1).trans el2,by simp,?_,?_,?_,?_⟩
   ·rw[dM (by omega),dM (by omega)];exact aN (by simp;omega)
   ·exact aN (by simp;omega)
   ·rw[Za (by omega),Za (by omega),Za (by omega),Za (by omega)]
   ·rw[Za (by omega),Za (by omega),Za (by omega),Za (by omega)]
  have call:∀{n:Nat}{agg:Bool}{k:Nat}{v:V},Qs c dn.length (sg::ss)= .seq (.seq (.region (lS c 2 dn.length n agg++(lS (c+2) 3 dn.length n agg++[⟨some (c+4), .call k [.tmp (c+1), .tmp (c+3)] true false,none⟩,⟨some (c+5), .un .not (.tmp (c+4)),none⟩]))) (.cond (.tmp (c+5)) KQ .skip)) (Qs (c+6) (dn++a).length ss)→Pf c (sg::ss)=Pf (c+6) ss→
   fT agg n dn.length ((dn++(a++b)).map .pv)=some v→(∀h,az h [v,v]=some [v,v])→ah Φ ext k [v,v]=some (aF true)→
   ∃t',aB (ah Φ ext) aG (Qs c dn.length (sg::ss)) ⟨t,hp⟩=some (.ret,⟨t',hp⟩)∧t'[4]? =some (aF true):=by
   intro n agg k v e1 e2 e3 e4 e5
   have hcl:c+6≤t.length:=by have:=yV ss (c+6);omega
   rw[←Zn]at e3
   obtain⟨T,g1,g2,g3,g4,g5,g6⟩:=ld e3 (by omega)
   have q1:(T.set (c+4) (aF true)).getD (c+4) (.tup [])=aF true:=aN (by omega)
   refine go (cn:=c+5) (t':=(T.set (c+4) (aF true)).set (c+5) (aF false)) e1 e2 (by omega) ?_ (by simp[g2]) (Zd (by simp;omega)) (by rw[Za (by omega),Za (by omega)];exact g5) (by rw[Za (by omega),Za (by omega)];exact g6)
   rw[←Zn,bZ _ _ _ g1]
   simp only[am,aK,aW,bo,Opd.ev,g3,g4,put,Bool.true_or,if_true,Zu,Z4,e4,e5,V.flat,L.flat,Bool.not_true,Bool.and_false,Z8,if_false,cT,cS,q1,un]
  cases sg with
  |c ty=>
   simp only[Seg.ts,Z0]at hal ha
   obtain⟨p,rfl⟩:=List.length_eq_one_iff.1 hal
   have hlen:(dn++[p]).length=dn.length+1:=by simp
   have hcl:c+5≤t.length:=by have:=yV ss (c+5);simp only[Pf]at hN;omega
   have hcut:fT false 1 dn.length ((dn++[p]++b).map .pv)=some (.one (.pv p)):=by rw[Zn];exact oM (agg:=false) (a:=[p]) (.inr rfl)
   obtain⟨T,g1,g2,g3,g4,g5,g6⟩:=ld hcut (by omega)
   refine go (cn:=c+4) (t':=T.set (c+4) (aF false)) (by rw[hlen];rfl) rfl (by omega) ?_ (by simp[g2]) (Zd (by omega)) (by rw[Za (by omega)];exact g5) (by rw[Za (by omega)];exact g6)
   rw[←Zn,bZ _ _ _ g1]
   cases ty with
   |lst us=>cases hSeg
   |int k=>obtain⟨n,rfl⟩:=lX ha.1;simp only[am,aK,aW,bo,F2,Opd.ev,g3,g4,put,bin,if_true,cA,bne_self_eq_false]
   |bool=>obtain⟨n,rfl⟩:=kH ha.1;simp only[am,aK,aW,bo,F2,Opd.ev,g3,g4,put,isBool,if_true,beq_self_eq_true,Bool.not_true]
   |str=>obtain⟨n,rfl⟩:=jY ha.1;simp only[am,aK,aW,bo,F2,Opd.ev,g3,g4,put,bin,i7,beq_self_eq_true,Bool.not_true]
  |s ts K=>
   simp only[Seg.ts]at hal ha
   have hlen:(dn++a).length=dn.length+ts.length:=by simp[hal]
   exact call (n:=ts.length) (agg:=true) (v:= .agg (a.map .pv)) (by rw[hlen];rfl) rfl (by rw[←hal];exact oM (agg:=true) (.inl rfl)) (fun h=>by simp only[az,uA]) (hSeg a ha)
  |l ts K=>
   simp only[Seg.ts,Z0]at hal ha
   obtain⟨p,rfl⟩:=List.length_eq_one_iff.1 hal
   obtain⟨rows,rfl⟩:=oJ ha.1
   have hlen:(dn++[PV.lst rows]).length=dn.length+1:=by simp
   exact call (n:=1) (agg:=false) (v:=aR rows) (by rw[hlen];rfl) rfl (oM (agg:=false) (a:=[.lst rows]) (.inr rfl)) (fun h=>rfl) (hSeg rows ha.1)
theorem cL {k:Nat}{ss:List Seg}(hk:Φ k=some (fk ss))(hss:∀s∈ss,TI Φ ext s):jX Φ ext k (gY ss):=by
 intro r hr
 refine fy hk ?_
 have hle:=yV ss 5
 obtain⟨m,hm⟩:∃m,Pf 5 ss-2=m+3:=⟨Pf 5 ss-5,by omega⟩
 have hpl:(r.map L.pv).all plain=true:=by simp[plain]
 obtain⟨t',e1,e2⟩:=Ny ss hss (c:=5) (dn:=[]) (row:=r) (t:=V.agg (r.map .pv)::V.agg (r.map .pv)::V.one (.ptr 0 0 0)::V.one (.ptr 1 0 0)::aF false::List.replicate m (.tup [])) rfl rfl (by omega) (by simp;omega) hr
 have hst:f8 Φ ext (fk ss).body (start (fk ss) [.agg (r.map .pv), .agg (r.map .pv)])=some (.ret,⟨t',[.box (r.map .pv), .box (r.map .pv)]⟩):=by
  simp only[f8,fk,start,Zo,List.length_nil,Nat.zero_add,Nat.reduceAdd,hm,aB,am,aK,aW,bo,cj,Opd.ev,put,List.replicate_succ,Zr,Zt,List.getD_cons_zero,List.getD_cons_succ,List.set_cons_succ,List.set_cons_zero,V.cells,hpl,if_true]
  exact e1
 rw[hst]
 simp only[done,fk,aS,aA,cN,getD_some e2,List.flatMap_cons,List.flatMap_nil,Z3,V.cells,bJ,comp,aM,bA]
 simp[ar]
def UP (P:Seg→Prop):List Seg→Prop
 |[]=>True
 |s::ss=>P s∧UP P ss
theorem bv {P:Seg→Prop}:∀{ss:List Seg},UP P ss→∀s∈ss,P s
 |[],_,_,h=>by cases h
 |x::xs,h,s,hm=>by
  rcases Z6.1 hm with rfl|hm
  ·exact h.1
  ·exact bv h.2 s hm
theorem jE {k z kx:Nat}{ts:List PTy}(hk:Φ k=some (IK z kx))(hz:ts.length=z)(hx:kI Φ ext kx ts):ko Φ ext k ts:=by
 intro rows h left h0 h1
 obtain⟨hl,hr⟩:=aX h
 rw[lN]
 exact UA hk (fun r m=>by rw[kG (hr r m),hz]) hl (fun r m=>hx r (hr r m)) h0 h1
theorem Cr {k:Nat}{ts:List PTy}(hk:Φ k=some T0)(ha:ts.all PTy.small=true):ko Φ ext k ts:=by
 intro rows h left h0 h1
 obtain⟨hl,hr⟩:=aX h
 rw[lN,A7 ha hr]
 exact Uz hk hl h0 h1
theorem ir {k z kx:Nat}{ts:List PTy}(hk:Φ k=some (n6 27 (eX z kx)))(hz:ts.length=z)(hx:jX Φ ext kx ts):km Φ ext k ts:=by
 intro rows h
 obtain⟨hl,hr⟩:=aX h
 exact Uh hk (fun r m=>by rw[kG (hr r m),hz]) hl (fun r m=>hx r (hr r m))
theorem Hy {k:Nat}{t:PTy}(hk:Φ k=some (n6 26 oN))(ht:t.easy=true):km Φ ext k [t]:=by
 intro rows h
 obtain⟨hl,hr⟩:=aX h
 obtain⟨qs,rfl⟩:=Oj hr
 exact Ug hk (Ur ht hr) (by simpa using hl)
end
end Gi
