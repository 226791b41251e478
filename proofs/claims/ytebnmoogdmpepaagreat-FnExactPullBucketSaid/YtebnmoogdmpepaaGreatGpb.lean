/- Of this proof. -/
import Derived.Test.YtebnmoogdmpepaaGreatGpd
set_option linter.unusedSimpArgs false
set_option linter.unusedVariables false
namespace Gi
open Go Go.RowKit
def Gk (c ks:Nat):List AOper:=[⟨some (c+2), .mv (.tmp 1),none⟩,⟨some (c+3), .call ks [.tmp (c+1), .tmp (c+2)] true false,none⟩,⟨some 1, .mv (.tmp (c+3)),none⟩]
def JP :Nat→Nat→List Seg→ACode
 |c,_,[]=> .seq (.region [⟨some c, .mv (.tmp 1),none⟩,⟨some 4, .mv (.tmp c),none⟩]) .ret
 |c,off, .c .str::ss=> .seq (.region (⟨some c, .mv (.tmp 1),none⟩::mM (c+1) 2 off 1 false++[⟨some (c+3), .lenS (.tmp (c+2)),none⟩,⟨some (c+4), .bin .sub (.tmp c) (.tmp (c+3)),none⟩,⟨some 1, .mv (.tmp (c+4)),none⟩])) (.seq (pV (c+5)) (JP (c+7) (off+1) ss))
 |c,off, .c _::ss=>JP c (off+1) ss
 |c,off, .s ts K::ss=>if K.ks=0 then JP c (off+ts.length) ss else .seq (.region (mM c 2 off ts.length true++Gk c K.ks)) (.seq (pV (c+4)) (JP (c+6) (off+ts.length) ss))
 |c,off, .l _ K::ss=> .seq (.region (mM c 2 off 1 false++Gk c K.ks)) (.seq (pV (c+4)) (JP (c+6) (off+1) ss))
def HH :Nat→List Seg→Nat
 |c,[]=>c
 |c, .c .str::ss=>HH (c+7) ss
 |c, .c _::ss=>HH c ss
 |c, .s _ K::ss=>if K.ks=0 then HH c ss else HH (c+6) ss
 |c, .l _ _::ss=>HH (c+6) ss
def gr (ss:List Seg):AFn:=⟨HH 5 ss+1,[.tmp 4], .seq (.region [⟨some 2, .box (.tmp 0),none⟩,⟨some 4, .mv (.pv (.int .i64 0)),none⟩]) (JP 5 0 ss)⟩
def LW :ACode:= .seq (.region [⟨some 4, .mv (.pv (.bool false)),none⟩]) .ret
def Hx (t:PTy)(x y:Opd):AOp:=match t with
 | .bool=> .eqB true x y
 |_=> .bin .neq x y
def Rg :Nat→Nat→List Seg→ACode
 |_,_,[]=> .seq (.region [⟨some 4, .mv (.pv (.bool true)),none⟩]) .ret
 |c,off, .c t::ss=> .seq (.seq (.region (mM c 2 off 1 false++(mM (c+2) 3 off 1 false++[⟨some (c+4),Hx t (.tmp (c+1)) (.tmp (c+3)),none⟩]))) (.cond (.tmp (c+4)) LW .skip)) (Rg (c+5) (off+1) ss)
 |c,off, .s ts K::ss=> .seq (.seq (.region (mM c 2 off ts.length true++(mM (c+2) 3 off ts.length true++[⟨some (c+4), .call K.ke [.tmp (c+1), .tmp (c+3)] true false,none⟩,⟨some (c+5), .un .not (.tmp (c+4)),none⟩]))) (.cond (.tmp (c+5)) LW .skip)) (Rg (c+6) (off+ts.length) ss)
 |c,off, .l _ K::ss=> .seq (.seq (.region (mM c 2 off 1 false++(mM (c+2) 3 off 1 false++[⟨some (c+4), .call K.ke [.tmp (c+1), .tmp (c+3)] true false,none⟩,⟨some (c+5), .un .not (.tmp (c+4)),none⟩]))) (.cond (.tmp (c+5)) LW .skip)) (Rg (c+6) (off+1) ss)
def P7 :Nat→List Seg→Nat
 |c,[]=>c
 |c, .c _::ss=>P7 (c+5) ss
 |c,_::ss=>P7 (c+6) ss
def fV (ss:List Seg):AFn:=⟨P7 5 ss,[.tmp 4], .seq (.region [⟨some 2, .box (.tmp 0),none⟩,⟨some 3, .box (.tmp 1),none⟩,⟨some 4, .mv (.pv (.bool false)),none⟩]) (Rg 5 0 ss)⟩
section
variable {Φ:Nat→Option AFn}{ext:Nat→List V→Option V}
def lC (Φ:Nat→Option AFn)(ext:Nat→List V→Option V)(k:Nat)(ts:List PTy):Prop:=∀r:List PV,bM ts r→DY Φ ext k r
def kZ (Φ:Nat→Option AFn)(ext:Nat→List V→Option V)(k:Nat)(ts:List PTy):Prop:=
 ∀rows:List (List PV),oQ (.lst ts) (.lst rows)→∀left:Int,0≤left→left≤1048576→ag Φ ext k [cA rows,aa .i64 left]=some (aa .i64 (less left (sz (.lst rows))))
def On (Φ:Nat→Option AFn)(ext:Nat→List V→Option V):Seg→Prop
 | .c t=>t.flatT=true
 | .s ts K=>if K.ks=0 then ts.all PTy.small=true else lC Φ ext K.ks ts
 | .l ts K=>kZ Φ ext K.ks ts
theorem TJ {call:Nat→List V→Option V}{lp}{c:Nat}{t:List V}{h:List AObj}{l:Int}(h1:t[1]? =some (aa .i64 l))(hl:l<0)(hc:5≤c)(hlt:c+1<t.length):
 ∃t',aw call lp (pV c) ⟨t,h⟩=some (.ret,⟨t',h⟩)∧t'[4]? =some (aa .i64 (-1)):=by
 have e1:t.getD 1 (.tup [])=aa .i64 l:=getD_some h1
 have e2:(t.set c (aa .i64 l)).getD c (.tup [])=aa .i64 l:=aO (by omega)
 have e3:((t.set c (aa .i64 l)).set (c+1) (aA true)).getD (c+1) (.tup [])=aA true:=aO (by simp;omega)
 refine⟨((t.set c (aa .i64 l)).set (c+1) (aA true)).set 4 (aa .i64 (-1)),?_,Zd (by simp;omega)⟩
 simp only[pV,aw,ah,aJ,bf,bJ,Opd.ev,e1,put,e2,bin,if_true,cK,hl,decide_true,e3,isBool]
theorem OZ {call:Nat→List V→Option V}{lp}{c:Nat}{t:List V}{h:List AObj}{l:Int}(h1:t[1]? =some (aa .i64 l))(hl:¬l<0)(hlt:c+1<t.length):
 aw call lp (pV c) ⟨t,h⟩=some (.normal,⟨(t.set c (aa .i64 l)).set (c+1) (aA false),h⟩):=by
 have e1:t.getD 1 (.tup [])=aa .i64 l:=getD_some h1
 have e2:(t.set c (aa .i64 l)).getD c (.tup [])=aa .i64 l:=aO (by omega)
 have e3:((t.set c (aa .i64 l)).set (c+1) (aA false)).getD (c+1) (.tup [])=aA false:=aO (by simp;omega)
 simp only[pV,aw,ah,aJ,bf,bJ,Opd.ev,e1,put,e2,bin,if_true,cK,hl,decide_false,e3,isBool,Zy,if_false]
theorem re :∀(ss:List Seg)(c:Nat),c≤HH c ss
 |[],c=>Zm _
 | .c .str::ss,c=>Zc (by omega) (re ss (c+7))
 | .c (.int _)::ss,c=>re ss c
 | .c .bool::ss,c=>re ss c
 | .c (.lst _)::ss,c=>re ss c
 | .s _ K::ss,c=>by
  simp only[HH]
  split
  ·exact re ss c
  ·exact Zc (by omega) (re ss (c+6))
 | .l _ _::ss,c=>Zc (by omega) (re ss (c+6))
theorem Pf :∀(ss:List Seg),(∀s∈ss,On Φ ext s)→∀{c:Nat}{dn row:List PV}{t:List V}{left:Int},
 t[1]? =some (aa .i64 left)→t[2]? =some (.one (.ptr 0 0 0))→0≤left→left≤1048576→5≤c→HH c ss<t.length→bM (iA ss) row→
 ∃t',aw (ag Φ ext) aL (JP c dn.length ss) ⟨t,[.box ((dn++row).map .pv)]⟩=some (.ret,⟨t',[.box ((dn++row).map .pv)]⟩)∧t'[4]? =some (aa .i64 (less left (fg row)))
 |[],_,c,dn,row,t,left,t1,t2,h0,h1,hc,hN,hr=>by
  obtain rfl:=fF hr
  simp only[HH]at hN
  have e1:t.getD 1 (.tup [])=aa .i64 left:=getD_some t1
  have e2:(t.set c (aa .i64 left)).getD c (.tup [])=aa .i64 left:=aO hN
  have hl:less left (fg [])=left:=by
   have e0:fg []=0:=by simp only[fg]
   rw[e0];unfold less;rw[if_neg (by omega)];omega
  refine⟨(t.set c (aa .i64 left)).set 4 (aa .i64 left),?_,by rw[hl];exact Zd (by simp;omega)⟩
  simp only[JP,aw,ah,aJ,bf,bJ,Opd.ev,e1,put,e2]
 |sg::ss,hss,c,dn,row,t,left,t1,t2,h0,h1,hc,hN,hr=>by
  obtain⟨a,b,rfl,ha,hb⟩:=lA (ts:=sg.ts) hr
  have hal:=km ha
  have hsz:=Gn a b
  have hSeg:=hss sg (by simp)
  have ih:=fun{c dn row t left}=>Pf ss (fun s m=>hss s (by simp[m])) (c:=c) (dn:=dn) (row:=row) (t:=t) (left:=left)
  rw[←Zp]
  have skip:∀{c':Nat},fg a=0→JP c dn.length (sg::ss)=JP c (dn++a).length ss→HH c (sg::ss)=HH c ss→
   ∃t',aw (ag Φ ext) aL (JP c dn.length (sg::ss)) ⟨t,[.box ((dn++a++b).map .pv)]⟩=some (.ret,⟨t',[.box ((dn++a++b).map .pv)]⟩)∧t'[4]? =some (aa .i64 (less left (fg (a++b)))):=by
   intro _ e0 e1 e2
   rw[e1,hsz,e0,Yc]
   exact ih t1 t2 h0 h1 hc (by rw[←e2];exact hN) hb
  have go:∀{ops:List AOper}{cn cm:Nat}{t':List V}{l:Int},JP c dn.length (sg::ss)= .seq (.region ops) (.seq (pV cn) (JP (cn+2) (dn++a).length ss))→HH c (sg::ss)=HH (cn+2) ss→5≤cn→
   ah (ag Φ ext) ops ⟨t,[.box ((dn++a++b).map .pv)]⟩=some ⟨t',[.box ((dn++a++b).map .pv)]⟩→t'.length=t.length→t'[1]? =some (aa .i64 l)→t'[2]? =some (.one (.ptr 0 0 0))→(l<0→less left (fg a)= -1)→(¬l<0→l=less left (fg a))→
   ∃t',aw (ag Φ ext) aL (JP c dn.length (sg::ss)) ⟨t,[.box ((dn++a++b).map .pv)]⟩=some (.ret,⟨t',[.box ((dn++a++b).map .pv)]⟩)∧t'[4]? =some (aa .i64 (less left (fg (a++b)))):=by
   intro ops cn cm t' l e1 e2 e3 e4 e5 e6 e7 e8 e9
   have hcl:cn+1<t'.length:=by have:=re ss (cn+2);omega
   rw[e1,hsz]
   by_cases hn:l<0
   ·obtain⟨t'',g1,g2⟩:=TJ (call:=ag Φ ext) (lp:=aL) (h:=[.box ((dn++a++b).map .pv)]) e6 hn e3 hcl
    refine⟨t'',?_,?_⟩
    ·simp only[aw,e4,g1]
    ·rw[g2,LA (b:=fg b) h0 (by rw[e8 hn];omega)]
   ·have g1:=OZ (call:=ag Φ ext) (lp:=aL) (h:=[.box ((dn++a++b).map .pv)]) e6 hn hcl
    have hge:0≤less left (fg a):=by rw[←e9 hn];omega
    obtain⟨t'',f1,f2⟩:=ih (c:=cn+2) (dn:=dn++a) (row:=b) (t:=(t'.set cn (aa .i64 l)).set (cn+1) (aA false)) (left:=l) (by rw[Za (by omega),Za (by omega)];exact e6) (by rw[Za (by omega),Za (by omega)];exact e7) (by omega) (by have:=OQ (a:=fg a) h0;rw[e9 hn];omega) (by omega) (by simp[e5];rw[←e2];exact hN) hb
    refine⟨t'',?_,?_⟩
    ·simp only[aw,e4,g1]
     exact f1
    ·rw[f2,←tk hge,e9 hn]
  have call:∀{n:Nat}{agg:Bool}{k:Nat}{v:V},JP c dn.length (sg::ss)= .seq (.region (mM c 2 dn.length n agg++Gk c k)) (.seq (pV (c+4)) (JP (c+6) (dn++a).length ss))→HH c (sg::ss)=HH (c+6) ss→
   fR agg n dn.length ((dn++(a++b)).map .pv)=some v→(∀h i,aj h [v,aa .i64 i]=some [v,aa .i64 i])→ag Φ ext k [v,aa .i64 left]=some (aa .i64 (less left (fg a)))→
   ∃t',aw (ag Φ ext) aL (JP c dn.length (sg::ss)) ⟨t,[.box ((dn++a++b).map .pv)]⟩=some (.ret,⟨t',[.box ((dn++a++b).map .pv)]⟩)∧t'[4]? =some (aa .i64 (less left (fg (a++b)))):=by
   intro n agg k v e1 e2 e3 e4 e5
   have hcl:c+5<t.length:=by have:=re ss (c+6);omega
   rw[←Zp]at e3
   have el:=qX (t:=t) (h:=[.box ((dn++a++b).map .pv)]) t2 (c:=c) (by omega) (by omega) rfl e3 (ag Φ ext)
   generalize hh:[AObj.box ((dn++a++b).map L.pv)]=hp at el go⊢
   have q1:((t.set c (V.one (.ptr 0 0 dn.length))).set (c+1) v).getD 1 (.tup [])=aa .i64 left:=by rw[dQ (by omega),dQ (by omega)];exact getD_some t1
   have q2:(((t.set c (V.one (.ptr 0 0 dn.length))).set (c+1) v).set (c+2) (aa .i64 left)).getD (c+1) (.tup [])=v:=by rw[dQ (by omega)];exact aO (by simp;omega)
   have q3:(((t.set c (V.one (.ptr 0 0 dn.length))).set (c+1) v).set (c+2) (aa .i64 left)).getD (c+2) (.tup [])=aa .i64 left:=aO (by simp;omega)
   have q4:((((t.set c (V.one (.ptr 0 0 dn.length))).set (c+1) v).set (c+2) (aa .i64 left)).set (c+3) (aa .i64 (less left (fg a)))).getD (c+3) (.tup [])=aa .i64 (less left (fg a)):=aO (by simp;omega)
   refine go (ops:=mM c 2 dn.length n agg++Gk c k) (cn:=c+4) (cm:=0) (l:=less left (fg a)) (t':=((((t.set c (V.one (.ptr 0 0 dn.length))).set (c+1) v).set (c+2) (aa .i64 left)).set (c+3) (aa .i64 (less left (fg a)))).set 1 (aa .i64 (less left (fg a)))) e1 e2 (by omega) ?_ (by simp) (Zd (by simp;omega)) ?_ (fun hn=>OP hn h0) (fun _=>rfl)
   ·rw[cG _ _ _ el]
    simp only[Gk,ah,aJ,bf,bJ,Opd.ev,q1,put,Bool.true_or,if_true,Zv,Z5,q2,q3,e4,e5,V.flat,L.flat,Xj,Xk,Zy,if_false,db,da,q4]
   ·rw[Za (by omega),Za (by omega),Za (by omega),Za (by omega),Za (by omega)];exact t2
  cases sg with
  |c ty=>
   simp only[Seg.ts,Z7]at hal ha
   obtain⟨p,rfl⟩:=Yg.1 hal
   have hlen:(dn++[p]).length=dn.length+1:=by simp
   cases ty with
   |lst us=>cases hSeg
   |int k=>
    obtain⟨n,rfl⟩:=mP ha.1
    exact skip (c':=0) (by simp only[fg,sz]) (by rw[hlen];rfl) rfl
   |bool=>
    obtain⟨n,rfl⟩:=lB ha.1
    exact skip (c':=0) (by simp only[fg,sz]) (by rw[hlen];rfl) rfl
   |str=>
    obtain⟨s,rfl⟩:=kM ha.1
    have hs:s.length≤maxLen:=ha.1
    unfold maxLen at hs
    have hza:fg [PV.str s]=s.length:=by simp only[fg,sz,Xb]
    have hcl:c+7<t.length:=by have:=re ss (c+7);simp only[HH]at hN;omega
    have hw:IntKind.i64.wrap (left-(s.length:Int))=left-s.length:=by rw[IntKind.wrap_i64];omega
    have hcut:fR false 1 dn.length ((dn++[PV.str s]++b).map .pv)=some (eB s):=by rw[Zp];exact mU (agg:=false) (a:=[.str s]) (.inr rfl)
    have el:=qX (x:=2) (ox:=0) (t:=t.set c (aa .i64 left)) (h:=[.box ((dn++[PV.str s]++b).map .pv)]) (by rw[Za (by omega)];exact t2) (c:=c+1) (by omega) (by simp;omega) rfl hcut (ag Φ ext)
    generalize hh:[AObj.box ((dn++[PV.str s]++b).map L.pv)]=hp at el go⊢
    have q1:t.getD 1 (.tup [])=aa .i64 left:=getD_some t1
    generalize hT:((t.set c (aa .i64 left)).set (c+1) (V.one (.ptr 0 0 dn.length))).set (c+1+1) (eB s)=T at el
    have lT:T.length=t.length:=by rw[←hT];simp
    have q2:T.getD (c+2) (.tup [])=eB s:=by rw[←hT];exact aO (by simp;omega)
    have q3:(T.set (c+3) (aa .i64 s.length)).getD c (.tup [])=aa .i64 left:=by rw[dQ (by omega),←hT,dQ (by omega),dQ (by omega)];exact aO (by omega)
    have q4:(T.set (c+3) (aa .i64 s.length)).getD (c+3) (.tup [])=aa .i64 s.length:=aO (by omega)
    have q5:((T.set (c+3) (aa .i64 s.length)).set (c+4) (aa .i64 (left-s.length))).getD (c+4) (.tup [])=aa .i64 (left-s.length):=aO (by simp;omega)
    refine go (cn:=c+5) (cm:=0) (l:=left-s.length) (t':=((T.set (c+3) (aa .i64 s.length)).set (c+4) (aa .i64 (left-s.length))).set 1 (aa .i64 (left-s.length))) (by rw[hlen];rfl) rfl (by omega) ?_ (by simp[lT]) (Zd (by simp;omega)) ?_ (fun hn=>by rw[hza];exact TE (by omega)) (fun hn=>by rw[hza];unfold less;rw[if_neg (by omega)])
    ·simp only[Zg,ah]
     simp only[aJ,bf,bJ,Opd.ev,q1,put]
     rw[cG _ _ _ el]
     simp only[ah,aJ,bf,bJ,Opd.ev,q2,isStr,put,q3,q4,bin,if_true,cK,hw,q5]
    ·rw[Za (by omega),Za (by omega),Za (by omega),←hT,Za (by omega),Za (by omega),Za (by omega)];exact t2
  |s ts K=>
   simp only[Seg.ts]at hal ha
   have hlen:(dn++a).length=dn.length+ts.length:=by simp[hal]
   by_cases hk:K.ks=0
   ·simp only[On,hk,if_true]at hSeg
    exact skip (c':=0) (Gp hSeg ha) (by rw[hlen];simp only[JP,hk,if_true]) (by simp only[HH,hk,if_true])
   ·simp only[On,hk,if_false]at hSeg
    exact call (n:=ts.length) (agg:=true) (v:= .agg (a.map .pv)) (by rw[hlen];simp only[JP,hk,if_false]) (by simp only[HH,hk,if_false]) (by rw[←hal];exact mU (agg:=true) (.inl rfl)) (fun h i=>by simp only[aj,tJ];rfl) (hSeg a ha left h0 h1)
  |l ts K=>
   simp only[Seg.ts,Z7]at hal ha
   obtain⟨p,rfl⟩:=Yg.1 hal
   obtain⟨rows,rfl⟩:=oE ha.1
   have hlen:(dn++[PV.lst rows]).length=dn.length+1:=by simp
   exact call (n:=1) (agg:=false) (v:=cA rows) (by rw[hlen];rfl) rfl (mU (agg:=false) (a:=[.lst rows]) (.inr rfl)) (fun h i=>rfl) (by have:=hSeg rows ha.1 left h0 h1;simpa only[fg,Xb]using this)
theorem dA {k:Nat}{ss:List Seg}(hk:Φ k=some (gr ss))(hss:∀s∈ss,On Φ ext s):lC Φ ext k (iA ss):=by
 intro r hr left h0 h1
 refine fJ hk ?_
 have hle:=re ss 5
 obtain⟨m,hm⟩:∃m,HH 5 ss+1-2=m+4:=⟨HH 5 ss-5,by omega⟩
 have hpl:(r.map L.pv).all plain=true:=by simp[plain]
 obtain⟨t',e1,e2⟩:=Pf ss hss (c:=5) (dn:=[]) (row:=r) (t:=V.agg (r.map .pv)::aa .i64 left::V.one (.ptr 0 0 0):: .tup []::aa .i64 0::List.replicate (m+1) (.tup [])) (left:=left) rfl rfl h0 h1 (by omega) (by simp;omega) hr
 have hst:f9 Φ ext (gr ss).body (start (gr ss) [.agg (r.map .pv),aa .i64 left])=some (.ret,⟨t',[.box (r.map .pv)]⟩):=by
  simp only[f9,gr,start,Zo,Z4,Yc,Nat.reduceAdd,hm,aw,ah,aJ,bf,bJ,cI,Opd.ev,put,List.replicate_succ,Zg,Zi,Xc,Ys,Ye,V.cells,hpl,if_true]
  exact e1
 rw[hst]
 simp only[done,gr,aW,am,cF,getD_some e2,Yn,Xf,Zx,V.cells,bS,comp,aQ,bI]
 simp[ai]
def kL (Φ:Nat→Option AFn)(ext:Nat→List V→Option V)(k:Nat)(ts:List PTy):Prop:=
 ∀r:List PV,bM ts r→ag Φ ext k [.agg (r.map .pv), .agg (r.map .pv)]=some (aA true)
def kY (Φ:Nat→Option AFn)(ext:Nat→List V→Option V)(k:Nat)(ts:List PTy):Prop:=
 ∀rows:List (List PV),oQ (.lst ts) (.lst rows)→ag Φ ext k [cA rows,cA rows]=some (aA true)
def T4 (Φ:Nat→Option AFn)(ext:Nat→List V→Option V):Seg→Prop
 | .c t=>t.flatT=true
 | .s ts K=>kL Φ ext K.ke ts
 | .l ts K=>kY Φ ext K.ke ts
theorem AH :∀(ss:List Seg)(c:Nat),c≤P7 c ss
 |[],c=>Zm _
 | .c _::ss,c=>Zc (by omega) (AH ss (c+5))
 | .s _ _::ss,c=>Zc (by omega) (AH ss (c+6))
 | .l _ _::ss,c=>Zc (by omega) (AH ss (c+6))
theorem Ow :∀(ss:List Seg),(∀s∈ss,T4 Φ ext s)→∀{c:Nat}{dn row:List PV}{t:List V},
 t[2]? =some (.one (.ptr 0 0 0))→t[3]? =some (.one (.ptr 1 0 0))→5≤c→P7 c ss≤t.length→bM (iA ss) row→
 ∃t',aw (ag Φ ext) aL (Rg c dn.length ss) ⟨t,[.box ((dn++row).map .pv), .box ((dn++row).map .pv)]⟩=some (.ret,⟨t',[.box ((dn++row).map .pv), .box ((dn++row).map .pv)]⟩)∧t'[4]? =some (aA true)
 |[],_,c,dn,row,t,t2,t3,hc,hN,hr=>by
  simp only[P7]at hN
  refine⟨t.set 4 (aA true),?_,Zd (by omega)⟩
  simp only[Rg,aw,ah,aJ,bf,bJ,Opd.ev,put]
 |sg::ss,hss,c,dn,row,t,t2,t3,hc,hN,hr=>by
  obtain⟨a,b,rfl,ha,hb⟩:=lA (ts:=sg.ts) hr
  have hal:=km ha
  have hSeg:=hss sg (by simp)
  have ih:=fun{c dn row t}=>Ow ss (fun s m=>hss s (by simp[m])) (c:=c) (dn:=dn) (row:=row) (t:=t)
  rw[←Zp]
  generalize hh:[AObj.box ((dn++a++b).map L.pv), .box ((dn++a++b).map L.pv)]=hp
  have go:∀{ops:List AOper}{cn:Nat}{t':List V},Rg c dn.length (sg::ss)= .seq (.seq (.region ops) (.cond (.tmp cn) LW .skip)) (Rg (cn+1) (dn++a).length ss)→P7 c (sg::ss)=P7 (cn+1) ss→4≤cn→
   ah (ag Φ ext) ops ⟨t,hp⟩=some ⟨t',hp⟩→t'.length=t.length→t'[cn]? =some (aA false)→t'[2]? =t[2]? →t'[3]? =t[3]? →
   ∃t',aw (ag Φ ext) aL (Rg c dn.length (sg::ss)) ⟨t,hp⟩=some (.ret,⟨t',hp⟩)∧t'[4]? =some (aA true):=by
   intro ops cn t' e1 e2 e3 e4 e5 e6 e7 e8
   obtain⟨t'',f1,f2⟩:=ih (c:=cn+1) (dn:=dn++a) (row:=b) (t:=t') (e7.trans t2) (e8.trans t3) (by omega) (by rw[e5,←e2];exact hN) hb
   rw[hh]at f1
   refine⟨t'',?_,f2⟩
   rw[e1]
   simp only[aw,e4,Opd.ev,getD_some e6,isBool,Zy,if_false]
   exact f1
  have hb0:hp[0]? =some (.box ((dn++a++b).map .pv)):=by rw[←hh];rfl
  have hb1:hp[1]? =some (.box ((dn++a++b).map .pv)):=by rw[←hh];rfl
  have ld:∀{n:Nat}{agg:Bool}{v:V},fR agg n dn.length ((dn++a++b).map .pv)=some v→c+3<t.length→∃T,ah (ag Φ ext) (mM c 2 dn.length n agg++mM (c+2) 3 dn.length n agg) ⟨t,hp⟩=some ⟨T,hp⟩∧T.length=t.length∧T.getD (c+1) (.tup [])=v∧T.getD (c+3) (.tup [])=v∧T[2]? =t[2]? ∧T[3]? =t[3]? :=by
   intro n agg v hcut hlt
   have el1:=qX (t:=t) (h:=hp) t2 (c:=c) (by omega) (by omega) hb0 hcut (ag Φ ext)
   have el2:=qX (t:=(t.set c (.one (.ptr 0 0 dn.length))).set (c+1) v) (h:=hp) (x:=3) (ox:=1) (by rw[Za (by omega),Za (by omega)];exact t3) (c:=c+2) (by omega) (by simp;omega) hb1 hcut (ag Φ ext)
   refine⟨_,(cG _ _ _ el1).trans el2,by simp,?_,?_,?_,?_⟩
   ·rw[dQ (by omega),dQ (by omega)];exact aO (by simp;omega)
   ·exact aO (by simp;omega)
   ·rw[Za (by omega),Za (by omega),Za (by omega),Za (by omega)]
   ·rw[Za (by omega),Za (by omega),Za (by omega),Za (by omega)]
  have call:∀{n:Nat}{agg:Bool}{k:Nat}{v:V},Rg c dn.length (sg::ss)= .seq (.seq (.region (mM c 2 dn.length n agg++(mM (c+2) 3 dn.length n agg++[⟨some (c+4), .call k [.tmp (c+1), .tmp (c+3)] true false,none⟩,⟨some (c+5), .un .not (.tmp (c+4)),none⟩]))) (.cond (.tmp (c+5)) LW .skip)) (Rg (c+6) (dn++a).length ss)→P7 c (sg::ss)=P7 (c+6) ss→
   fR agg n dn.length ((dn++(a++b)).map .pv)=some v→(∀h,aj h [v,v]=some [v,v])→ag Φ ext k [v,v]=some (aA true)→
   ∃t',aw (ag Φ ext) aL (Rg c dn.length (sg::ss)) ⟨t,hp⟩=some (.ret,⟨t',hp⟩)∧t'[4]? =some (aA true):=by
   intro n agg k v e1 e2 e3 e4 e5
   have hcl:c+6≤t.length:=by have:=AH ss (c+6);omega
   rw[←Zp]at e3
   obtain⟨T,g1,g2,g3,g4,g5,g6⟩:=ld e3 (by omega)
   have q1:(T.set (c+4) (aA true)).getD (c+4) (.tup [])=aA true:=aO (by omega)
   refine go (cn:=c+5) (t':=(T.set (c+4) (aA true)).set (c+5) (aA false)) e1 e2 (by omega) ?_ (by simp[g2]) (Zd (by simp;omega)) (by rw[Za (by omega),Za (by omega)];exact g5) (by rw[Za (by omega),Za (by omega)];exact g6)
   rw[←Zp,cG _ _ _ g1]
   simp only[ah,aJ,bf,bJ,Opd.ev,g3,g4,put,Bool.true_or,if_true,Zv,Z5,e4,e5,V.flat,L.flat,Xj,Xk,Zy,if_false,db,da,q1,un]
  cases sg with
  |c ty=>
   simp only[Seg.ts,Z7]at hal ha
   obtain⟨p,rfl⟩:=Yg.1 hal
   have hlen:(dn++[p]).length=dn.length+1:=by simp
   have hcl:c+5≤t.length:=by have:=AH ss (c+5);simp only[P7]at hN;omega
   have hcut:fR false 1 dn.length ((dn++[p]++b).map .pv)=some (.one (.pv p)):=by rw[Zp];exact mU (agg:=false) (a:=[p]) (.inr rfl)
   obtain⟨T,g1,g2,g3,g4,g5,g6⟩:=ld hcut (by omega)
   refine go (cn:=c+4) (t':=T.set (c+4) (aA false)) (by rw[hlen];rfl) rfl (by omega) ?_ (by simp[g2]) (Zd (by omega)) (by rw[Za (by omega)];exact g5) (by rw[Za (by omega)];exact g6)
   rw[←Zp,cG _ _ _ g1]
   cases ty with
   |lst us=>cases hSeg
   |int k=>obtain⟨n,rfl⟩:=mP ha.1;simp only[ah,aJ,bf,bJ,Hx,Opd.ev,g3,g4,put,bin,if_true,cK,bne_self_eq_false]
   |bool=>obtain⟨n,rfl⟩:=lB ha.1;simp only[ah,aJ,bf,bJ,Hx,Opd.ev,g3,g4,put,isBool,if_true,beq_self_eq_true,Xj]
   |str=>obtain⟨n,rfl⟩:=kM ha.1;simp only[ah,aJ,bf,bJ,Hx,Opd.ev,g3,g4,put,bin,jx,beq_self_eq_true,Xj]
  |s ts K=>
   simp only[Seg.ts]at hal ha
   have hlen:(dn++a).length=dn.length+ts.length:=by simp[hal]
   exact call (n:=ts.length) (agg:=true) (v:= .agg (a.map .pv)) (by rw[hlen];rfl) rfl (by rw[←hal];exact mU (agg:=true) (.inl rfl)) (fun h=>by simp only[aj,tJ]) (hSeg a ha)
  |l ts K=>
   simp only[Seg.ts,Z7]at hal ha
   obtain⟨p,rfl⟩:=Yg.1 hal
   obtain⟨rows,rfl⟩:=oE ha.1
   have hlen:(dn++[PV.lst rows]).length=dn.length+1:=by simp
   exact call (n:=1) (agg:=false) (v:=cA rows) (by rw[hlen];rfl) rfl (mU (agg:=false) (a:=[.lst rows]) (.inr rfl)) (fun h=>rfl) (hSeg rows ha.1)
theorem dj {k:Nat}{ss:List Seg}(hk:Φ k=some (fV ss))(hss:∀s∈ss,T4 Φ ext s):kL Φ ext k (iA ss):=by
 intro r hr
 refine fJ hk ?_
 have hle:=AH ss 5
 obtain⟨m,hm⟩:∃m,P7 5 ss-2=m+3:=⟨P7 5 ss-5,by omega⟩
 have hpl:(r.map L.pv).all plain=true:=by simp[plain]
 obtain⟨t',e1,e2⟩:=Ow ss hss (c:=5) (dn:=[]) (row:=r) (t:=V.agg (r.map .pv)::V.agg (r.map .pv)::V.one (.ptr 0 0 0)::V.one (.ptr 1 0 0)::aA false::List.replicate m (.tup [])) rfl rfl (by omega) (by simp;omega) hr
 have hst:f9 Φ ext (fV ss).body (start (fV ss) [.agg (r.map .pv), .agg (r.map .pv)])=some (.ret,⟨t',[.box (r.map .pv), .box (r.map .pv)]⟩):=by
  simp only[f9,fV,start,Zo,Z4,Yc,Nat.reduceAdd,hm,aw,ah,aJ,bf,bJ,cI,Opd.ev,put,List.replicate_succ,Zg,Zi,Xc,List.getD_cons_succ,Ys,Ye,V.cells,hpl,if_true]
  exact e1
 rw[hst]
 simp only[done,fV,aW,am,cF,getD_some e2,Yn,Xf,Zx,V.cells,bS,comp,aQ,bI]
 simp[ai]
def UZ (P:Seg→Prop):List Seg→Prop
 |[]=>True
 |s::ss=>P s∧UZ P ss
theorem bQ {P:Seg→Prop}:∀{ss:List Seg},UZ P ss→∀s∈ss,P s
 |[],_,_,h=>by cases h
 |x::xs,h,s,hm=>by
  rcases Z8.1 hm with rfl|hm
  ·exact h.1
  ·exact bQ h.2 s hm
theorem kh {k z kx:Nat}{ts:List PTy}(hk:Φ k=some (JW z kx))(hz:ts.length=z)(hx:lC Φ ext kx ts):kZ Φ ext k ts:=by
 intro rows h left h0 h1
 obtain⟨hl,hr⟩:=bw h
 rw[ly]
 exact UN hk (fun r m=>by rw[km (hr r m),hz]) hl (fun r m=>hx r (hr r m)) h0 h1
theorem DW {k:Nat}{ts:List PTy}(hk:Φ k=some Uj)(ha:ts.all PTy.small=true):kZ Φ ext k ts:=by
 intro rows h left h0 h1
 obtain⟨hl,hr⟩:=bw h
 rw[ly,Cw ha hr]
 exact UM hk hl h0 h1
theorem iK {k z kx:Nat}{ts:List PTy}(hk:Φ k=some (oS 27 (fD z kx)))(hz:ts.length=z)(hx:kL Φ ext kx ts):kY Φ ext k ts:=by
 intro rows h
 obtain⟨hl,hr⟩:=bw h
 exact Ux hk (fun r m=>by rw[km (hr r m),hz]) hl (fun r m=>hx r (hr r m))
theorem I2 {k:Nat}{t:PTy}(hk:Φ k=some (oS 26 pS))(ht:t.easy=true):kY Φ ext k [t]:=by
 intro rows h
 obtain⟨hl,hr⟩:=bw h
 obtain⟨qs,rfl⟩:=Pe hr
 exact Uw hk (UH ht hr) (by simpa using hl)
end
end Gi
