/- Of this proof. -/
import Derived.Test.YtbeaonmepfkmmaaGreatGpdd
set_option linter.unusedSimpArgs false
set_option linter.unusedVariables false
namespace Gi
open Go Go.RowKit
def Df (c ks:Nat):List AOper:=[⟨some (c+2), .mv (.tmp 1),none⟩,⟨some (c+3), .call ks [.tmp (c+1), .tmp (c+2)] true false,none⟩,⟨some 1, .mv (.tmp (c+3)),none⟩]
def G5 :Nat→Nat→List Seg→ACode
 |c,_,[]=> .seq (.region [⟨some c, .mv (.tmp 1),none⟩,⟨some 4, .mv (.tmp c),none⟩]) .ret
 |c,off, .c .str::ss=> .seq (.region (⟨some c, .mv (.tmp 1),none⟩::lc (c+1) 2 off 1 false++[⟨some (c+3), .lenS (.tmp (c+2)),none⟩,⟨some (c+4), .bin .sub (.tmp c) (.tmp (c+3)),none⟩,⟨some 1, .mv (.tmp (c+4)),none⟩])) (.seq (nX (c+5)) (G5 (c+7) (off+1) ss))
 |c,off, .c _::ss=>G5 c (off+1) ss
 |c,off, .s ts K::ss=>if K.ks=0 then G5 c (off+ts.length) ss else .seq (.region (lc c 2 off ts.length true++Df c K.ks)) (.seq (nX (c+4)) (G5 (c+6) (off+ts.length) ss))
 |c,off, .l _ K::ss=> .seq (.region (lc c 2 off 1 false++Df c K.ks)) (.seq (nX (c+4)) (G5 (c+6) (off+1) ss))
def Es :Nat→List Seg→Nat
 |c,[]=>c
 |c, .c .str::ss=>Es (c+7) ss
 |c, .c _::ss=>Es c ss
 |c, .s _ K::ss=>if K.ks=0 then Es c ss else Es (c+6) ss
 |c, .l _ _::ss=>Es (c+6) ss
def fC (ss:List Seg):AFn:=⟨Es 5 ss+1,[.tmp 4], .seq (.region [⟨some 2, .box (.tmp 0),none⟩,⟨some 4, .mv (.pv (.int .i64 0)),none⟩]) (G5 5 0 ss)⟩
def Jo :ACode:= .seq (.region [⟨some 4, .mv (.pv (.bool false)),none⟩]) .ret
def Ej (t:PTy)(x y:Opd):AOp:=match t with
 | .bool=> .eqB true x y
 |_=> .bin .neq x y
def Pb :Nat→Nat→List Seg→ACode
 |_,_,[]=> .seq (.region [⟨some 4, .mv (.pv (.bool true)),none⟩]) .ret
 |c,off, .c t::ss=> .seq (.seq (.region (lc c 2 off 1 false++(lc (c+2) 3 off 1 false++[⟨some (c+4),Ej t (.tmp (c+1)) (.tmp (c+3)),none⟩]))) (.cond (.tmp (c+4)) Jo .skip)) (Pb (c+5) (off+1) ss)
 |c,off, .s ts K::ss=> .seq (.seq (.region (lc c 2 off ts.length true++(lc (c+2) 3 off ts.length true++[⟨some (c+4), .call K.ke [.tmp (c+1), .tmp (c+3)] true false,none⟩,⟨some (c+5), .un .not (.tmp (c+4)),none⟩]))) (.cond (.tmp (c+5)) Jo .skip)) (Pb (c+6) (off+ts.length) ss)
 |c,off, .l _ K::ss=> .seq (.seq (.region (lc c 2 off 1 false++(lc (c+2) 3 off 1 false++[⟨some (c+4), .call K.ke [.tmp (c+1), .tmp (c+3)] true false,none⟩,⟨some (c+5), .un .not (.tmp (c+4)),none⟩]))) (.cond (.tmp (c+5)) Jo .skip)) (Pb (c+6) (off+1) ss)
def NT :Nat→List Seg→Nat
 |c,[]=>c
 |c, .c _::ss=>NT (c+5) ss
 |c,_::ss=>NT (c+6) ss
def fk (ss:List Seg):AFn:=⟨NT 5 ss,[.tmp 4], .seq (.region [⟨some 2, .box (.tmp 0),none⟩,⟨some 3, .box (.tmp 1),none⟩,⟨some 4, .mv (.pv (.bool false)),none⟩]) (Pb 5 0 ss)⟩
section
variable {Φ:Nat→Option AFn}{ext:Nat→List V→Option V}
def j8 (Φ:Nat→Option AFn)(ext:Nat→List V→Option V)(k:Nat)(ts:List PTy):Prop:=∀r:List PV,bp ts r→A6 Φ ext k r
def jV (Φ:Nat→Option AFn)(ext:Nat→List V→Option V)(k:Nat)(ts:List PTy):Prop:=
 ∀rows:List (List PV),n5 (.lst ts) (.lst rows)→∀left:Int,0≤left→left≤1048576→ah Φ ext k [aQ rows,aa .i64 left]=some (aa .i64 (less left (sz (.lst rows))))
def LS (Φ:Nat→Option AFn)(ext:Nat→List V→Option V):Seg→Prop
 | .c t=>t.flatT=true
 | .s ts K=>if K.ks=0 then ts.all PTy.small=true else j8 Φ ext K.ks ts
 | .l ts K=>jV Φ ext K.ks ts
theorem RV {call:Nat→List V→Option V}{lp}{c:Nat}{t:List V}{h:List AObj}{l:Int}(h1:t[1]? =some (aa .i64 l))(hl:l<0)(hc:5≤c)(hlt:c+1<t.length):
 ∃t',au call lp (nX c) ⟨t,h⟩=some (.ret,⟨t',h⟩)∧t'[4]? =some (aa .i64 (-1)):=by
 have e1:t.getD 1 (.tup [])=aa .i64 l:=getD_some h1
 have e2:(t.set c (aa .i64 l)).getD c (.tup [])=aa .i64 l:=aF (by omega)
 have e3:((t.set c (aa .i64 l)).set (c+1) (aD true)).getD (c+1) (.tup [])=aD true:=aF (by simp;omega)
 refine⟨((t.set c (aa .i64 l)).set (c+1) (aD true)).set 4 (aa .i64 (-1)),?_,List.getElem?_set_self (by simp;omega)⟩
 simp only[nX,au,ai,aE,aO,a9,Opd.ev,e1,put,e2,bin,if_true,ca,hl,decide_true,e3,isBool]
theorem MA {call:Nat→List V→Option V}{lp}{c:Nat}{t:List V}{h:List AObj}{l:Int}(h1:t[1]? =some (aa .i64 l))(hl:¬l<0)(hlt:c+1<t.length):
 au call lp (nX c) ⟨t,h⟩=some (.normal,⟨(t.set c (aa .i64 l)).set (c+1) (aD false),h⟩):=by
 have e1:t.getD 1 (.tup [])=aa .i64 l:=getD_some h1
 have e2:(t.set c (aa .i64 l)).getD c (.tup [])=aa .i64 l:=aF (by omega)
 have e3:((t.set c (aa .i64 l)).set (c+1) (aD false)).getD (c+1) (.tup [])=aD false:=aF (by simp;omega)
 simp only[nX,au,ai,aE,aO,a9,Opd.ev,e1,put,e2,bin,if_true,ca,hl,decide_false,e3,isBool,Bool.false_eq_true,if_false]
theorem oX :∀(ss:List Seg)(c:Nat),c≤Es c ss
 |[],c=>Nat.le_refl _
 | .c .str::ss,c=>Nat.le_trans (by omega) (oX ss (c+7))
 | .c (.int _)::ss,c=>oX ss c
 | .c .bool::ss,c=>oX ss c
 | .c (.lst _)::ss,c=>oX ss c
 | .s _ K::ss,c=>by
  simp only[Es]
  split
  ·exact oX ss c
  ·exact Nat.le_trans (by omega) (oX ss (c+6))
 | .l _ _::ss,c=>Nat.le_trans (by omega) (oX ss (c+6))
theorem M3 :∀(ss:List Seg),(∀s∈ss,LS Φ ext s)→∀{c:Nat}{dn row:List PV}{t:List V}{left:Int},
 t[1]? =some (aa .i64 left)→t[2]? =some (.one (.ptr 0 0 0))→0≤left→left≤1048576→5≤c→Es c ss<t.length→bp (gz ss) row→
 ∃t',au (ah Φ ext) aC (G5 c dn.length ss) ⟨t,[.box ((dn++row).map .pv)]⟩=some (.ret,⟨t',[.box ((dn++row).map .pv)]⟩)∧t'[4]? =some (aa .i64 (less left (eT row)))
 |[],_,c,dn,row,t,left,t1,t2,h0,h1,hc,hN,hr=>by
  obtain rfl:=eV hr
  simp only[Es]at hN
  have e1:t.getD 1 (.tup [])=aa .i64 left:=getD_some t1
  have e2:(t.set c (aa .i64 left)).getD c (.tup [])=aa .i64 left:=aF hN
  have hl:less left (eT [])=left:=by
   have e0:eT []=0:=by simp only[eT]
   rw[e0];unfold less;rw[if_neg (by omega)];omega
  refine⟨(t.set c (aa .i64 left)).set 4 (aa .i64 left),?_,by rw[hl];exact List.getElem?_set_self (by simp;omega)⟩
  simp only[G5,au,ai,aE,aO,a9,Opd.ev,e1,put,e2]
 |sg::ss,hss,c,dn,row,t,left,t1,t2,h0,h1,hc,hN,hr=>by
  obtain⟨a,b,rfl,ha,hb⟩:=j6 (ts:=sg.ts) hr
  have hal:=jp ha
  have hsz:=Dh a b
  have hSeg:=hss sg (by simp)
  have ih:=fun{c dn row t left}=>M3 ss (fun s m=>hss s (by simp[m])) (c:=c) (dn:=dn) (row:=row) (t:=t) (left:=left)
  rw[←List.append_assoc]
  have skip:∀{c':Nat},eT a=0→G5 c dn.length (sg::ss)=G5 c (dn++a).length ss→Es c (sg::ss)=Es c ss→
   ∃t',au (ah Φ ext) aC (G5 c dn.length (sg::ss)) ⟨t,[.box ((dn++a++b).map .pv)]⟩=some (.ret,⟨t',[.box ((dn++a++b).map .pv)]⟩)∧t'[4]? =some (aa .i64 (less left (eT (a++b)))):=by
   intro _ e0 e1 e2
   rw[e1,hsz,e0,Nat.zero_add]
   exact ih t1 t2 h0 h1 hc (by rw[←e2];exact hN) hb
  have go:∀{ops:List AOper}{cn cm:Nat}{t':List V}{l:Int},G5 c dn.length (sg::ss)= .seq (.region ops) (.seq (nX cn) (G5 (cn+2) (dn++a).length ss))→Es c (sg::ss)=Es (cn+2) ss→5≤cn→
   ai (ah Φ ext) ops ⟨t,[.box ((dn++a++b).map .pv)]⟩=some ⟨t',[.box ((dn++a++b).map .pv)]⟩→t'.length=t.length→t'[1]? =some (aa .i64 l)→t'[2]? =some (.one (.ptr 0 0 0))→(l<0→less left (eT a)= -1)→(¬l<0→l=less left (eT a))→
   ∃t',au (ah Φ ext) aC (G5 c dn.length (sg::ss)) ⟨t,[.box ((dn++a++b).map .pv)]⟩=some (.ret,⟨t',[.box ((dn++a++b).map .pv)]⟩)∧t'[4]? =some (aa .i64 (less left (eT (a++b)))):=by
   intro ops cn cm t' l e1 e2 e3 e4 e5 e6 e7 e8 e9
   have hcl:cn+1<t'.length:=by have:=oX ss (cn+2);omega
   rw[e1,hsz]
   by_cases hn:l<0
   ·obtain⟨t'',g1,g2⟩:=RV (call:=ah Φ ext) (lp:=aC) (h:=[.box ((dn++a++b).map .pv)]) e6 hn e3 hcl
    refine⟨t'',?_,?_⟩
    ·simp only[au,e4,g1]
    ·rw[g2,IX (b:=eT b) h0 (by rw[e8 hn];omega)]
   ·have g1:=MA (call:=ah Φ ext) (lp:=aC) (h:=[.box ((dn++a++b).map .pv)]) e6 hn hcl
    have hge:0≤less left (eT a):=by rw[←e9 hn];omega
    obtain⟨t'',f1,f2⟩:=ih (c:=cn+2) (dn:=dn++a) (row:=b) (t:=(t'.set cn (aa .i64 l)).set (cn+1) (aD false)) (left:=l) (by rw[List.getElem?_set_ne (by omega),List.getElem?_set_ne (by omega)];exact e6) (by rw[List.getElem?_set_ne (by omega),List.getElem?_set_ne (by omega)];exact e7) (by omega) (by have:=Mq (a:=eT a) h0;rw[e9 hn];omega) (by omega) (by simp[e5];rw[←e2];exact hN) hb
    refine⟨t'',?_,?_⟩
    ·simp only[au,e4,g1]
     exact f1
    ·rw[f2,←qz hge,e9 hn]
  have call:∀{n:Nat}{agg:Bool}{k:Nat}{v:V},G5 c dn.length (sg::ss)= .seq (.region (lc c 2 dn.length n agg++Df c k)) (.seq (nX (c+4)) (G5 (c+6) (dn++a).length ss))→Es c (sg::ss)=Es (c+6) ss→
   fO agg n dn.length ((dn++(a++b)).map .pv)=some v→(∀h i,av h [v,aa .i64 i]=some [v,aa .i64 i])→ah Φ ext k [v,aa .i64 left]=some (aa .i64 (less left (eT a)))→
   ∃t',au (ah Φ ext) aC (G5 c dn.length (sg::ss)) ⟨t,[.box ((dn++a++b).map .pv)]⟩=some (.ret,⟨t',[.box ((dn++a++b).map .pv)]⟩)∧t'[4]? =some (aa .i64 (less left (eT (a++b)))):=by
   intro n agg k v e1 e2 e3 e4 e5
   have hcl:c+5<t.length:=by have:=oX ss (c+6);omega
   rw[←List.append_assoc]at e3
   have el:=oT (t:=t) (h:=[.box ((dn++a++b).map .pv)]) t2 (c:=c) (by omega) (by omega) rfl e3 (ah Φ ext)
   generalize hh:[AObj.box ((dn++a++b).map L.pv)]=hp at el go⊢
   have q1:((t.set c (V.one (.ptr 0 0 dn.length))).set (c+1) v).getD 1 (.tup [])=aa .i64 left:=by rw[dj (by omega),dj (by omega)];exact getD_some t1
   have q2:(((t.set c (V.one (.ptr 0 0 dn.length))).set (c+1) v).set (c+2) (aa .i64 left)).getD (c+1) (.tup [])=v:=by rw[dj (by omega)];exact aF (by simp;omega)
   have q3:(((t.set c (V.one (.ptr 0 0 dn.length))).set (c+1) v).set (c+2) (aa .i64 left)).getD (c+2) (.tup [])=aa .i64 left:=aF (by simp;omega)
   have q4:((((t.set c (V.one (.ptr 0 0 dn.length))).set (c+1) v).set (c+2) (aa .i64 left)).set (c+3) (aa .i64 (less left (eT a)))).getD (c+3) (.tup [])=aa .i64 (less left (eT a)):=aF (by simp;omega)
   refine go (ops:=lc c 2 dn.length n agg++Df c k) (cn:=c+4) (cm:=0) (l:=less left (eT a)) (t':=((((t.set c (V.one (.ptr 0 0 dn.length))).set (c+1) v).set (c+2) (aa .i64 left)).set (c+3) (aa .i64 (less left (eT a)))).set 1 (aa .i64 (less left (eT a)))) e1 e2 (by omega) ?_ (by simp) (List.getElem?_set_self (by simp;omega)) ?_ (fun hn=>Mp hn h0) (fun _=>rfl)
   ·rw[bL _ _ _ el]
    simp only[Df,ai,aE,aO,a9,Opd.ev,q1,put,Bool.true_or,if_true,List.map_cons,List.map_nil,q2,q3,e4,e5,V.flat,L.flat,Bool.not_true,Bool.and_false,Bool.false_eq_true,if_false,cX,cN,q4]
   ·rw[List.getElem?_set_ne (by omega),List.getElem?_set_ne (by omega),List.getElem?_set_ne (by omega),List.getElem?_set_ne (by omega),List.getElem?_set_ne (by omega)];exact t2
  cases sg with
  |c ty=>
   simp only[Seg.ts,List.length_singleton]at hal ha
   obtain⟨p,rfl⟩:=List.length_eq_one_iff.1 hal
   have hlen:(dn++[p]).length=dn.length+1:=by simp
   cases ty with
   |lst us=>cases hSeg
   |int k=>
    obtain⟨n,rfl⟩:=lh ha.1
    exact skip (c':=0) (by simp only[eT,sz]) (by rw[hlen];rfl) rfl
   |bool=>
    obtain⟨n,rfl⟩:=j7 ha.1
    exact skip (c':=0) (by simp only[eT,sz]) (by rw[hlen];rfl) rfl
   |str=>
    obtain⟨s,rfl⟩:=jG ha.1
    have hs:s.length≤maxLen:=ha.1
    unfold maxLen at hs
    have hza:eT [PV.str s]=s.length:=by simp only[eT,sz,Nat.add_zero]
    have hcl:c+7<t.length:=by have:=oX ss (c+7);simp only[Es]at hN;omega
    have hw:IntKind.i64.wrap (left-(s.length:Int))=left-s.length:=by rw[IntKind.wrap_i64];omega
    have hcut:fO false 1 dn.length ((dn++[PV.str s]++b).map .pv)=some (dv s):=by rw[List.append_assoc];exact lq (agg:=false) (a:=[.str s]) (.inr rfl)
    have el:=oT (x:=2) (ox:=0) (t:=t.set c (aa .i64 left)) (h:=[.box ((dn++[PV.str s]++b).map .pv)]) (by rw[List.getElem?_set_ne (by omega)];exact t2) (c:=c+1) (by omega) (by simp;omega) rfl hcut (ah Φ ext)
    generalize hh:[AObj.box ((dn++[PV.str s]++b).map L.pv)]=hp at el go⊢
    have q1:t.getD 1 (.tup [])=aa .i64 left:=getD_some t1
    generalize hT:((t.set c (aa .i64 left)).set (c+1) (V.one (.ptr 0 0 dn.length))).set (c+1+1) (dv s)=T at el
    have lT:T.length=t.length:=by rw[←hT];simp
    have q2:T.getD (c+2) (.tup [])=dv s:=by rw[←hT];exact aF (by simp;omega)
    have q3:(T.set (c+3) (aa .i64 s.length)).getD c (.tup [])=aa .i64 left:=by rw[dj (by omega),←hT,dj (by omega),dj (by omega)];exact aF (by omega)
    have q4:(T.set (c+3) (aa .i64 s.length)).getD (c+3) (.tup [])=aa .i64 s.length:=aF (by omega)
    have q5:((T.set (c+3) (aa .i64 s.length)).set (c+4) (aa .i64 (left-s.length))).getD (c+4) (.tup [])=aa .i64 (left-s.length):=aF (by simp;omega)
    refine go (cn:=c+5) (cm:=0) (l:=left-s.length) (t':=((T.set (c+3) (aa .i64 s.length)).set (c+4) (aa .i64 (left-s.length))).set 1 (aa .i64 (left-s.length))) (by rw[hlen];rfl) rfl (by omega) ?_ (by simp[lT]) (List.getElem?_set_self (by simp;omega)) ?_ (fun hn=>by rw[hza];exact RP (by omega)) (fun hn=>by rw[hza];unfold less;rw[if_neg (by omega)])
    ·simp only[List.cons_append,ai]
     simp only[aE,aO,a9,Opd.ev,q1,put]
     rw[bL _ _ _ el]
     simp only[ai,aE,aO,a9,Opd.ev,q2,isStr,put,q3,q4,bin,if_true,ca,hw,q5]
    ·rw[List.getElem?_set_ne (by omega),List.getElem?_set_ne (by omega),List.getElem?_set_ne (by omega),←hT,List.getElem?_set_ne (by omega),List.getElem?_set_ne (by omega),List.getElem?_set_ne (by omega)];exact t2
  |s ts K=>
   simp only[Seg.ts]at hal ha
   have hlen:(dn++a).length=dn.length+ts.length:=by simp[hal]
   by_cases hk:K.ks=0
   ·simp only[LS,hk,if_true]at hSeg
    exact skip (c':=0) (Di hSeg ha) (by rw[hlen];simp only[G5,hk,if_true]) (by simp only[Es,hk,if_true])
   ·simp only[LS,hk,if_false]at hSeg
    exact call (n:=ts.length) (agg:=true) (v:= .agg (a.map .pv)) (by rw[hlen];simp only[G5,hk,if_false]) (by simp only[Es,hk,if_false]) (by rw[←hal];exact lq (agg:=true) (.inl rfl)) (fun h i=>by simp only[av,qP];rfl) (hSeg a ha left h0 h1)
  |l ts K=>
   simp only[Seg.ts,List.length_singleton]at hal ha
   obtain⟨p,rfl⟩:=List.length_eq_one_iff.1 hal
   obtain⟨rows,rfl⟩:=mV ha.1
   have hlen:(dn++[PV.lst rows]).length=dn.length+1:=by simp
   exact call (n:=1) (agg:=false) (v:=aQ rows) (by rw[hlen];rfl) rfl (lq (agg:=false) (a:=[.lst rows]) (.inr rfl)) (fun h i=>rfl) (by have:=hSeg rows ha.1 left h0 h1;simpa only[eT,Nat.add_zero]using this)
theorem cM {k:Nat}{ss:List Seg}(hk:Φ k=some (fC ss))(hss:∀s∈ss,LS Φ ext s):j8 Φ ext k (gz ss):=by
 intro r hr left h0 h1
 refine eB hk ?_
 have hle:=oX ss 5
 obtain⟨m,hm⟩:∃m,Es 5 ss+1-2=m+4:=⟨Es 5 ss-5,by omega⟩
 have hpl:(r.map L.pv).all plain=true:=by simp[plain]
 obtain⟨t',e1,e2⟩:=M3 ss hss (c:=5) (dn:=[]) (row:=r) (t:=V.agg (r.map .pv)::aa .i64 left::V.one (.ptr 0 0 0):: .tup []::aa .i64 0::List.replicate (m+1) (.tup [])) (left:=left) rfl rfl h0 h1 (by omega) (by simp;omega) hr
 have hst:fB Φ ext (fC ss).body (start (fC ss) [.agg (r.map .pv),aa .i64 left])=some (.ret,⟨t',[.box (r.map .pv)]⟩):=by
  simp only[fB,fC,start,List.length_cons,List.length_nil,Nat.zero_add,Nat.reduceAdd,hm,au,ai,aE,aO,a9,b6,Opd.ev,put,List.replicate_succ,List.cons_append,List.nil_append,List.getD_cons_zero,List.set_cons_succ,List.set_cons_zero,V.cells,hpl,if_true]
  exact e1
 rw[hst]
 simp only[done,fC,aR,aw,cq,getD_some e2,List.flatMap_cons,List.flatMap_nil,List.append_nil,V.cells,bE,comp,aK,bv]
 simp[al]
def jF (Φ:Nat→Option AFn)(ext:Nat→List V→Option V)(k:Nat)(ts:List PTy):Prop:=
 ∀r:List PV,bp ts r→ah Φ ext k [.agg (r.map .pv), .agg (r.map .pv)]=some (aD true)
def jU (Φ:Nat→Option AFn)(ext:Nat→List V→Option V)(k:Nat)(ts:List PTy):Prop:=
 ∀rows:List (List PV),n5 (.lst ts) (.lst rows)→ah Φ ext k [aQ rows,aQ rows]=some (aD true)
def Sl (Φ:Nat→Option AFn)(ext:Nat→List V→Option V):Seg→Prop
 | .c t=>t.flatT=true
 | .s ts K=>jF Φ ext K.ke ts
 | .l ts K=>jU Φ ext K.ke ts
theorem xC :∀(ss:List Seg)(c:Nat),c≤NT c ss
 |[],c=>Nat.le_refl _
 | .c _::ss,c=>Nat.le_trans (by omega) (xC ss (c+5))
 | .s _ _::ss,c=>Nat.le_trans (by omega) (xC ss (c+6))
 | .l _ _::ss,c=>Nat.le_trans (by omega) (xC ss (c+6))
theorem L5 :∀(ss:List Seg),(∀s∈ss,Sl Φ ext s)→∀{c:Nat}{dn row:List PV}{t:List V},
 t[2]? =some (.one (.ptr 0 0 0))→t[3]? =some (.one (.ptr 1 0 0))→5≤c→NT c ss≤t.length→bp (gz ss) row→
 ∃t',au (ah Φ ext) aC (Pb c dn.length ss) ⟨t,[.box ((dn++row).map .pv), .box ((dn++row).map .pv)]⟩=some (.ret,⟨t',[.box ((dn++row).map .pv), .box ((dn++row).map .pv)]⟩)∧t'[4]? =some (aD true)
 |[],_,c,dn,row,t,t2,t3,hc,hN,hr=>by
  simp only[NT]at hN
  refine⟨t.set 4 (aD true),?_,List.getElem?_set_self (by omega)⟩
  simp only[Pb,au,ai,aE,aO,a9,Opd.ev,put]
 |sg::ss,hss,c,dn,row,t,t2,t3,hc,hN,hr=>by
  obtain⟨a,b,rfl,ha,hb⟩:=j6 (ts:=sg.ts) hr
  have hal:=jp ha
  have hSeg:=hss sg (by simp)
  have ih:=fun{c dn row t}=>L5 ss (fun s m=>hss s (by simp[m])) (c:=c) (dn:=dn) (row:=row) (t:=t)
  rw[←List.append_assoc]
  generalize hh:[AObj.box ((dn++a++b).map L.pv), .box ((dn++a++b).map L.pv)]=hp
  have go:∀{ops:List AOper}{cn:Nat}{t':List V},Pb c dn.length (sg::ss)= .seq (.seq (.region ops) (.cond (.tmp cn) Jo .skip)) (Pb (cn+1) (dn++a).length ss)→NT c (sg::ss)=NT (cn+1) ss→4≤cn→
   ai (ah Φ ext) ops ⟨t,hp⟩=some ⟨t',hp⟩→t'.length=t.length→t'[cn]? =some (aD false)→t'[2]? =t[2]? →t'[3]? =t[3]? →
   ∃t',au (ah Φ ext) aC (Pb c dn.length (sg::ss)) ⟨t,hp⟩=some (.ret,⟨t',hp⟩)∧t'[4]? =some (aD true):=by
   intro ops cn t' e1 e2 e3 e4 e5 e6 e7 e8
   obtain⟨t'',f1,f2⟩:=ih (c:=cn+1) (dn:=dn++a) (row:=b) (t:=t') (e7.trans t2) (e8.trans t3) (by omega) (by rw[e5,←e2];exact hN) hb
   rw[hh]at f1
   refine⟨t'',?_,f2⟩
   rw[e1]
   simp only[au,e4,Opd.ev,getD_some e6,isBool,Bool.false_eq_true,if_false]
   exact f1
  have hb0:hp[0]? =some (.box ((dn++a++b).map .pv)):=by rw[←hh];rfl
  have hb1:hp[1]? =some (.box ((dn++a++b).map .pv)):=by rw[←hh];rfl
  have ld:∀{n:Nat}{agg:Bool}{v:V},fO agg n dn.length ((dn++a++b).map .pv)=some v→c+3<t.length→∃T,ai (ah Φ ext) (lc c 2 dn.length n agg++lc (c+2) 3 dn.length n agg) ⟨t,hp⟩=some ⟨T,hp⟩∧T.length=t.length∧T.getD (c+1) (.tup [])=v∧T.getD (c+3) (.tup [])=v∧T[2]? =t[2]? ∧T[3]? =t[3]? :=by
   intro n agg v hcut hlt
   have el1:=oT (t:=t) (h:=hp) t2 (c:=c) (by omega) (by omega) hb0 hcut (ah Φ ext)
   have el2:=oT (t:=(t.set c (.one (.ptr 0 0 dn.length))).set (c+1) v) (h:=hp) (x:=3) (ox:=1) (by rw[List.getElem?_set_ne (by omega),List.getElem?_set_ne (by omega)];exact t3) (c:=c+2) (by omega) (by simp;omega) hb1 hcut (ah Φ ext)
   refine⟨_,(bL _ _ _ el1).trans el2,by simp,?_,?_,?_,?_⟩
   ·rw[dj (by omega),dj (by omega)];exact aF (by simp;omega)
   ·exact aF (by simp;omega)
   ·rw[List.getElem?_set_ne (by omega),List.getElem?_set_ne (by omega),List.getElem?_set_ne (by omega),List.getElem?_set_ne (by omega)]
   ·rw[List.getElem?_set_ne (by omega),List.getElem?_set_ne (by omega),List.getElem?_set_ne (by omega),List.getElem?_set_ne (by omega)]
  have call:∀{n:Nat}{agg:Bool}{k:Nat}{v:V},Pb c dn.length (sg::ss)= .seq (.seq (.region (lc c 2 dn.length n agg++(lc (c+2) 3 dn.length n agg++[⟨some (c+4), .call k [.tmp (c+1), .tmp (c+3)] true false,none⟩,⟨some (c+5), .un .not (.tmp (c+4)),none⟩]))) (.cond (.tmp (c+5)) Jo .skip)) (Pb (c+6) (dn++a).length ss)→NT c (sg::ss)=NT (c+6) ss→
   fO agg n dn.length ((dn++(a++b)).map .pv)=some v→(∀h,av h [v,v]=some [v,v])→ah Φ ext k [v,v]=some (aD true)→
   ∃t',au (ah Φ ext) aC (Pb c dn.length (sg::ss)) ⟨t,hp⟩=some (.ret,⟨t',hp⟩)∧t'[4]? =some (aD true):=by
   intro n agg k v e1 e2 e3 e4 e5
   have hcl:c+6≤t.length:=by have:=xC ss (c+6);omega
   rw[←List.append_assoc]at e3
   obtain⟨T,g1,g2,g3,g4,g5,g6⟩:=ld e3 (by omega)
   have q1:(T.set (c+4) (aD true)).getD (c+4) (.tup [])=aD true:=aF (by omega)
   refine go (cn:=c+5) (t':=(T.set (c+4) (aD true)).set (c+5) (aD false)) e1 e2 (by omega) ?_ (by simp[g2]) (List.getElem?_set_self (by simp;omega)) (by rw[List.getElem?_set_ne (by omega),List.getElem?_set_ne (by omega)];exact g5) (by rw[List.getElem?_set_ne (by omega),List.getElem?_set_ne (by omega)];exact g6)
   rw[←List.append_assoc,bL _ _ _ g1]
   simp only[ai,aE,aO,a9,Opd.ev,g3,g4,put,Bool.true_or,if_true,List.map_cons,List.map_nil,e4,e5,V.flat,L.flat,Bool.not_true,Bool.and_false,Bool.false_eq_true,if_false,cX,cN,q1,un]
  cases sg with
  |c ty=>
   simp only[Seg.ts,List.length_singleton]at hal ha
   obtain⟨p,rfl⟩:=List.length_eq_one_iff.1 hal
   have hlen:(dn++[p]).length=dn.length+1:=by simp
   have hcl:c+5≤t.length:=by have:=xC ss (c+5);simp only[NT]at hN;omega
   have hcut:fO false 1 dn.length ((dn++[p]++b).map .pv)=some (.one (.pv p)):=by rw[List.append_assoc];exact lq (agg:=false) (a:=[p]) (.inr rfl)
   obtain⟨T,g1,g2,g3,g4,g5,g6⟩:=ld hcut (by omega)
   refine go (cn:=c+4) (t':=T.set (c+4) (aD false)) (by rw[hlen];rfl) rfl (by omega) ?_ (by simp[g2]) (List.getElem?_set_self (by omega)) (by rw[List.getElem?_set_ne (by omega)];exact g5) (by rw[List.getElem?_set_ne (by omega)];exact g6)
   rw[←List.append_assoc,bL _ _ _ g1]
   cases ty with
   |lst us=>cases hSeg
   |int k=>obtain⟨n,rfl⟩:=lh ha.1;simp only[ai,aE,aO,a9,Ej,Opd.ev,g3,g4,put,bin,if_true,ca,bne_self_eq_false]
   |bool=>obtain⟨n,rfl⟩:=j7 ha.1;simp only[ai,aE,aO,a9,Ej,Opd.ev,g3,g4,put,isBool,if_true,beq_self_eq_true,Bool.not_true]
   |str=>obtain⟨n,rfl⟩:=jG ha.1;simp only[ai,aE,aO,a9,Ej,Opd.ev,g3,g4,put,bin,iK,beq_self_eq_true,Bool.not_true]
  |s ts K=>
   simp only[Seg.ts]at hal ha
   have hlen:(dn++a).length=dn.length+ts.length:=by simp[hal]
   exact call (n:=ts.length) (agg:=true) (v:= .agg (a.map .pv)) (by rw[hlen];rfl) rfl (by rw[←hal];exact lq (agg:=true) (.inl rfl)) (fun h=>by simp only[av,qP]) (hSeg a ha)
  |l ts K=>
   simp only[Seg.ts,List.length_singleton]at hal ha
   obtain⟨p,rfl⟩:=List.length_eq_one_iff.1 hal
   obtain⟨rows,rfl⟩:=mV ha.1
   have hlen:(dn++[PV.lst rows]).length=dn.length+1:=by simp
   exact call (n:=1) (agg:=false) (v:=aQ rows) (by rw[hlen];rfl) rfl (lq (agg:=false) (a:=[.lst rows]) (.inr rfl)) (fun h=>rfl) (hSeg rows ha.1)
theorem cz {k:Nat}{ss:List Seg}(hk:Φ k=some (fk ss))(hss:∀s∈ss,Sl Φ ext s):jF Φ ext k (gz ss):=by
 intro r hr
 refine eB hk ?_
 have hle:=xC ss 5
 obtain⟨m,hm⟩:∃m,NT 5 ss-2=m+3:=⟨NT 5 ss-5,by omega⟩
 have hpl:(r.map L.pv).all plain=true:=by simp[plain]
 obtain⟨t',e1,e2⟩:=L5 ss hss (c:=5) (dn:=[]) (row:=r) (t:=V.agg (r.map .pv)::V.agg (r.map .pv)::V.one (.ptr 0 0 0)::V.one (.ptr 1 0 0)::aD false::List.replicate m (.tup [])) rfl rfl (by omega) (by simp;omega) hr
 have hst:fB Φ ext (fk ss).body (start (fk ss) [.agg (r.map .pv), .agg (r.map .pv)])=some (.ret,⟨t',[.box (r.map .pv), .box (r.map .pv)]⟩):=by
  simp only[fB,fk,start,List.length_cons,List.length_nil,Nat.zero_add,Nat.reduceAdd,hm,au,ai,aE,aO,a9,b6,Opd.ev,put,List.replicate_succ,List.cons_append,List.nil_append,List.getD_cons_zero,List.getD_cons_succ,List.set_cons_succ,List.set_cons_zero,V.cells,hpl,if_true]
  exact e1
 rw[hst]
 simp only[done,fk,aR,aw,cq,getD_some e2,List.flatMap_cons,List.flatMap_nil,List.append_nil,V.cells,bE,comp,aK,bv]
 simp[al]
def TE (P:Seg→Prop):List Seg→Prop
 |[]=>True
 |s::ss=>P s∧TE P ss
theorem bg {P:Seg→Prop}:∀{ss:List Seg},TE P ss→∀s∈ss,P s
 |[],_,_,h=>by cases h
 |x::xs,h,s,hm=>by
  rcases List.mem_cons.1 hm with rfl|hm
  ·exact h.1
  ·exact bg h.2 s hm
theorem jl {k z kx:Nat}{ts:List PTy}(hk:Φ k=some (Hb z kx))(hz:ts.length=z)(hx:j8 Φ ext kx ts):jV Φ ext k ts:=by
 intro rows h left h0 h1
 obtain⟨hl,hr⟩:=aS h
 rw[k6]
 exact Tn hk (fun r m=>by rw[jp (hr r m),hz]) hl (fun r m=>hx r (hr r m)) h0 h1
theorem A3 {k:Nat}{ts:List PTy}(hk:Φ k=some SG)(ha:ts.all PTy.small=true):jV Φ ext k ts:=by
 intro rows h left h0 h1
 obtain⟨hl,hr⟩:=aS h
 rw[k6,zL ha hr]
 exact Tm hk hl h0 h1
theorem hY {k z kx:Nat}{ts:List PTy}(hk:Φ k=some (nl 27 (eU z kx)))(hz:ts.length=z)(hx:jF Φ ext kx ts):jU Φ ext k ts:=by
 intro rows h
 obtain⟨hl,hr⟩:=aS h
 exact S2 hk (fun r m=>by rw[jp (hr r m),hz]) hl (fun r m=>hx r (hr r m))
theorem FV {k:Nat}{t:PTy}(hk:Φ k=some (nl 26 nU))(ht:t.easy=true):jU Φ ext k [t]:=by
 intro rows h
 obtain⟨hl,hr⟩:=aS h
 obtain⟨qs,rfl⟩:=M2 hr
 exact S1 hk (Tc ht hr) (by simpa using hl)
end
end Gi
