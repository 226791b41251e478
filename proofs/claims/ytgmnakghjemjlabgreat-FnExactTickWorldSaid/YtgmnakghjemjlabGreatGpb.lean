/- Of this proof. -/
import Derived.Test.YtgmnakghjemjlabGreatGpd
set_option linter.unusedSimpArgs false
set_option linter.unusedVariables false
namespace Gi
open Go Go.RowKit
def DJ (c ks:Nat):List AOper:=[⟨some (c+2), .mv (.tmp 1),none⟩,⟨some (c+3), .call ks [.tmp (c+1), .tmp (c+2)] true false,none⟩,⟨some 1, .mv (.tmp (c+3)),none⟩]
def GV :Nat→Nat→List Seg→ACode
 |c,_,[]=> .seq (.region [⟨some c, .mv (.tmp 1),none⟩,⟨some 4, .mv (.tmp c),none⟩]) .ret
 |c,off, .c .str::ss=> .seq (.region (⟨some c, .mv (.tmp 1),none⟩::k7 (c+1) 2 off 1 false++[⟨some (c+3), .lenS (.tmp (c+2)),none⟩,⟨some (c+4), .bin .sub (.tmp c) (.tmp (c+3)),none⟩,⟨some 1, .mv (.tmp (c+4)),none⟩])) (.seq (nM (c+5)) (GV (c+7) (off+1) ss))
 |c,off, .c _::ss=>GV c (off+1) ss
 |c,off, .s ts K::ss=>if K.ks=0 then GV c (off+ts.length) ss else .seq (.region (k7 c 2 off ts.length true++DJ c K.ks)) (.seq (nM (c+4)) (GV (c+6) (off+ts.length) ss))
 |c,off, .l _ K::ss=> .seq (.region (k7 c 2 off 1 false++DJ c K.ks)) (.seq (nM (c+4)) (GV (c+6) (off+1) ss))
def E1 :Nat→List Seg→Nat
 |c,[]=>c
 |c, .c .str::ss=>E1 (c+7) ss
 |c, .c _::ss=>E1 c ss
 |c, .s _ K::ss=>if K.ks=0 then E1 c ss else E1 (c+6) ss
 |c, .l _ _::ss=>E1 (c+6) ss
def fF (ss:List Seg):AFn:=⟨E1 5 ss+1,[.tmp 4], .seq (.region [⟨some 2, .box (.tmp 0),none⟩,⟨some 4, .mv (.pv (.int .i64 0)),none⟩]) (GV 5 0 ss)⟩
def II :ACode:= .seq (.region [⟨some 4, .mv (.pv (.bool false)),none⟩]) .ret
def EV (t:PTy)(x y:Opd):AOp:=match t with
 | .bool=> .eqB true x y
 |_=> .bin .neq x y
def Nt :Nat→Nat→List Seg→ACode
 |_,_,[]=> .seq (.region [⟨some 4, .mv (.pv (.bool true)),none⟩]) .ret
 |c,off, .c t::ss=> .seq (.seq (.region (k7 c 2 off 1 false++(k7 (c+2) 3 off 1 false++[⟨some (c+4),EV t (.tmp (c+1)) (.tmp (c+3)),none⟩]))) (.cond (.tmp (c+4)) II .skip)) (Nt (c+5) (off+1) ss)
 |c,off, .s ts K::ss=> .seq (.seq (.region (k7 c 2 off ts.length true++(k7 (c+2) 3 off ts.length true++[⟨some (c+4), .call K.ke [.tmp (c+1), .tmp (c+3)] true false,none⟩,⟨some (c+5), .un .not (.tmp (c+4)),none⟩]))) (.cond (.tmp (c+5)) II .skip)) (Nt (c+6) (off+ts.length) ss)
 |c,off, .l _ K::ss=> .seq (.seq (.region (k7 c 2 off 1 false++(k7 (c+2) 3 off 1 false++[⟨some (c+4), .call K.ke [.tmp (c+1), .tmp (c+3)] true false,none⟩,⟨some (c+5), .un .not (.tmp (c+4)),none⟩]))) (.cond (.tmp (c+5)) II .skip)) (Nt (c+6) (off+1) ss)
def Mp :Nat→List Seg→Nat
 |c,[]=>c
 |c, .c _::ss=>Mp (c+5) ss
 |c,_::ss=>Mp (c+6) ss
def fo (ss:List Seg):AFn:=⟨Mp 5 ss,[.tmp 4], .seq (.region [⟨some 2, .box (.tmp 0),none⟩,⟨some 3, .box (.tmp 1),none⟩,⟨some 4, .mv (.pv (.bool false)),none⟩]) (Nt 5 0 ss)⟩
section
variable {Φ:Nat→Option AFn}{ext:Nat→List V→Option V}
def j4 (Φ:Nat→Option AFn)(ext:Nat→List V→Option V)(k:Nat)(ts:List PTy):Prop:=∀r:List PV,bf ts r→BD Φ ext k r
def jO (Φ:Nat→Option AFn)(ext:Nat→List V→Option V)(k:Nat)(ts:List PTy):Prop:=
 ∀rows:List (List PV),nE (.lst ts) (.lst rows)→∀left:Int,0≤left→left≤1048576→ag Φ ext k [bm rows,aa .i64 left]=some (aa .i64 (less left (sz (.lst rows))))
def KR (Φ:Nat→Option AFn)(ext:Nat→List V→Option V):Seg→Prop
 | .c t=>t.flatT=true
 | .s ts K=>if K.ks=0 then ts.all PTy.small=true else j4 Φ ext K.ks ts
 | .l ts K=>jO Φ ext K.ks ts
theorem Pv {call:Nat→List V→Option V}{lp}{c:Nat}{t:List V}{h:List AObj}{l:Int}(h1:t[1]? =some (aa .i64 l))(hl:l<0)(hc:5≤c)(hlt:c+1<t.length):
 ∃t',aj call lp (nM c) ⟨t,h⟩=some (.ret,⟨t',h⟩)∧t'[4]? =some (aa .i64 (-1)):=by
 have e1:t.getD 1 (.tup [])=aa .i64 l:=getD_some h1
 have e2:(t.set c (aa .i64 l)).getD c (.tup [])=aa .i64 l:=aA (by omega)
 have e3:((t.set c (aa .i64 l)).set (c+1) (au true)).getD (c+1) (.tup [])=au true:=aA (by simp;omega)
 refine⟨((t.set c (aa .i64 l)).set (c+1) (au true)).set 4 (aa .i64 (-1)),?_,List.getElem?_set_self (by simp;omega)⟩
 simp only[nM,aj,ah,aw,aH,bg,Opd.ev,e1,put,e2,bin,if_true,bN,hl,decide_true,e3,isBool]
theorem Ln {call:Nat→List V→Option V}{lp}{c:Nat}{t:List V}{h:List AObj}{l:Int}(h1:t[1]? =some (aa .i64 l))(hl:¬l<0)(hlt:c+1<t.length):
 aj call lp (nM c) ⟨t,h⟩=some (.normal,⟨(t.set c (aa .i64 l)).set (c+1) (au false),h⟩):=by
 have e1:t.getD 1 (.tup [])=aa .i64 l:=getD_some h1
 have e2:(t.set c (aa .i64 l)).getD c (.tup [])=aa .i64 l:=aA (by omega)
 have e3:((t.set c (aa .i64 l)).set (c+1) (au false)).getD (c+1) (.tup [])=au false:=aA (by simp;omega)
 simp only[nM,aj,ah,aw,aH,bg,Opd.ev,e1,put,e2,bin,if_true,bN,hl,decide_false,e3,isBool,Bool.false_eq_true,if_false]
theorem pb :∀(ss:List Seg)(c:Nat),c≤E1 c ss
 |[],c=>Nat.le_refl _
 | .c .str::ss,c=>Nat.le_trans (by omega) (pb ss (c+7))
 | .c (.int _)::ss,c=>pb ss c
 | .c .bool::ss,c=>pb ss c
 | .c (.lst _)::ss,c=>pb ss c
 | .s _ K::ss,c=>by
  simp only[E1]
  split
  ·exact pb ss c
  ·exact Nat.le_trans (by omega) (pb ss (c+6))
 | .l _ _::ss,c=>Nat.le_trans (by omega) (pb ss (c+6))
theorem Lx :∀(ss:List Seg),(∀s∈ss,KR Φ ext s)→∀{c:Nat}{dn row:List PV}{t:List V}{left:Int},
 t[1]? =some (aa .i64 left)→t[2]? =some (.one (.ptr 0 0 0))→0≤left→left≤1048576→5≤c→E1 c ss<t.length→bf (gI ss) row→
 ∃t',aj (ag Φ ext) av (GV c dn.length ss) ⟨t,[.box ((dn++row).map .pv)]⟩=some (.ret,⟨t',[.box ((dn++row).map .pv)]⟩)∧t'[4]? =some (aa .i64 (less left (eV row)))
 |[],_,c,dn,row,t,left,t1,t2,h0,h1,hc,hN,hr=>by
  obtain rfl:=fu hr
  simp only[E1]at hN
  have e1:t.getD 1 (.tup [])=aa .i64 left:=getD_some t1
  have e2:(t.set c (aa .i64 left)).getD c (.tup [])=aa .i64 left:=aA hN
  have hl:less left (eV [])=left:=by
   have e0:eV []=0:=by simp only[eV]
   rw[e0];unfold less;rw[if_neg (by omega)];omega
  refine⟨(t.set c (aa .i64 left)).set 4 (aa .i64 left),?_,by rw[hl];exact List.getElem?_set_self (by simp;omega)⟩
  simp only[GV,aj,ah,aw,aH,bg,Opd.ev,e1,put,e2]
 |sg::ss,hss,c,dn,row,t,left,t1,t2,h0,h1,hc,hN,hr=>by
  obtain⟨a,b,rfl,ha,hb⟩:=j0 (ts:=sg.ts) hr
  have hal:=jl ha
  have hsz:=DL a b
  have hSeg:=hss sg (by simp)
  have ih:=fun{c dn row t left}=>Lx ss (fun s m=>hss s (by simp[m])) (c:=c) (dn:=dn) (row:=row) (t:=t) (left:=left)
  rw[←List.append_assoc]
  have skip:∀{c':Nat},eV a=0→GV c dn.length (sg::ss)=GV c (dn++a).length ss→E1 c (sg::ss)=E1 c ss→
   ∃t',aj (ag Φ ext) av (GV c dn.length (sg::ss)) ⟨t,[.box ((dn++a++b).map .pv)]⟩=some (.ret,⟨t',[.box ((dn++a++b).map .pv)]⟩)∧t'[4]? =some (aa .i64 (less left (eV (a++b)))):=by
   intro _ e0 e1 e2
   rw[e1,hsz,e0,Nat.zero_add]
   exact ih t1 t2 h0 h1 hc (by rw[←e2];exact hN) hb
  have go:∀{ops:List AOper}{cn cm:Nat}{t':List V}{l:Int},GV c dn.length (sg::ss)= .seq (.region ops) (.seq (nM cn) (GV (cn+2) (dn++a).length ss))→E1 c (sg::ss)=E1 (cn+2) ss→5≤cn→
   ah (ag Φ ext) ops ⟨t,[.box ((dn++a++b).map .pv)]⟩=some ⟨t',[.box ((dn++a++b).map .pv)]⟩→t'.length=t.length→t'[1]? =some (aa .i64 l)→t'[2]? =some (.one (.ptr 0 0 0))→(l<0→less left (eV a)= -1)→(¬l<0→l=less left (eV a))→
   ∃t',aj (ag Φ ext) av (GV c dn.length (sg::ss)) ⟨t,[.box ((dn++a++b).map .pv)]⟩=some (.ret,⟨t',[.box ((dn++a++b).map .pv)]⟩)∧t'[4]? =some (aa .i64 (less left (eV (a++b)))):=by
   intro ops cn cm t' l e1 e2 e3 e4 e5 e6 e7 e8 e9
   have hcl:cn+1<t'.length:=by have:=pb ss (cn+2);omega
   rw[e1,hsz]
   by_cases hn:l<0
   ·obtain⟨t'',g1,g2⟩:=Pv (call:=ag Φ ext) (lp:=av) (h:=[.box ((dn++a++b).map .pv)]) e6 hn e3 hcl
    refine⟨t'',?_,?_⟩
    ·simp only[aj,e4,g1]
    ·rw[g2,Iq (b:=eV b) h0 (by rw[e8 hn];omega)]
   ·have g1:=Ln (call:=ag Φ ext) (lp:=av) (h:=[.box ((dn++a++b).map .pv)]) e6 hn hcl
    have hge:0≤less left (eV a):=by rw[←e9 hn];omega
    obtain⟨t'',f1,f2⟩:=ih (c:=cn+2) (dn:=dn++a) (row:=b) (t:=(t'.set cn (aa .i64 l)).set (cn+1) (au false)) (left:=l) (by rw[List.getElem?_set_ne (by omega),List.getElem?_set_ne (by omega)];exact e6) (by rw[List.getElem?_set_ne (by omega),List.getElem?_set_ne (by omega)];exact e7) (by omega) (by have:=Lf (a:=eV a) h0;rw[e9 hn];omega) (by omega) (by simp[e5];rw[←e2];exact hN) hb
    refine⟨t'',?_,?_⟩
    ·simp only[aj,e4,g1]
     exact f1
    ·rw[f2,←qm hge,e9 hn]
  have call:∀{n:Nat}{agg:Bool}{k:Nat}{v:V},GV c dn.length (sg::ss)= .seq (.region (k7 c 2 dn.length n agg++DJ c k)) (.seq (nM (c+4)) (GV (c+6) (dn++a).length ss))→E1 c (sg::ss)=E1 (c+6) ss→
   gr agg n dn.length ((dn++(a++b)).map .pv)=some v→(∀h i,ap h [v,aa .i64 i]=some [v,aa .i64 i])→ag Φ ext k [v,aa .i64 left]=some (aa .i64 (less left (eV a)))→
   ∃t',aj (ag Φ ext) av (GV c dn.length (sg::ss)) ⟨t,[.box ((dn++a++b).map .pv)]⟩=some (.ret,⟨t',[.box ((dn++a++b).map .pv)]⟩)∧t'[4]? =some (aa .i64 (less left (eV (a++b)))):=by
   intro n agg k v e1 e2 e3 e4 e5
   have hcl:c+5<t.length:=by have:=pb ss (c+6);omega
   rw[←List.append_assoc]at e3
   have el:=o7 (t:=t) (h:=[.box ((dn++a++b).map .pv)]) t2 (c:=c) (by omega) (by omega) rfl e3 (ag Φ ext)
   generalize hh:[AObj.box ((dn++a++b).map L.pv)]=hp at el go⊢
   have q1:((t.set c (V.one (.ptr 0 0 dn.length))).set (c+1) v).getD 1 (.tup [])=aa .i64 left:=by rw[dd (by omega),dd (by omega)];exact getD_some t1
   have q2:(((t.set c (V.one (.ptr 0 0 dn.length))).set (c+1) v).set (c+2) (aa .i64 left)).getD (c+1) (.tup [])=v:=by rw[dd (by omega)];exact aA (by simp;omega)
   have q3:(((t.set c (V.one (.ptr 0 0 dn.length))).set (c+1) v).set (c+2) (aa .i64 left)).getD (c+2) (.tup [])=aa .i64 left:=aA (by simp;omega)
   have q4:((((t.set c (V.one (.ptr 0 0 dn.length))).set (c+1) v).set (c+2) (aa .i64 left)).set (c+3) (aa .i64 (less left (eV a)))).getD (c+3) (.tup [])=aa .i64 (less left (eV a)):=aA (by simp;omega)
   refine go (ops:=k7 c 2 dn.length n agg++DJ c k) (cn:=c+4) (cm:=0) (l:=less left (eV a)) (t':=((((t.set c (V.one (.ptr 0 0 dn.length))).set (c+1) v).set (c+2) (aa .i64 left)).set (c+3) (aa .i64 (less left (eV a)))).set 1 (aa .i64 (less left (eV a)))) e1 e2 (by omega) ?_ (by simp) (List.getElem?_set_self (by simp;omega)) ?_ (fun hn=>Le hn h0) (fun _=>rfl)
   ·rw[bL _ _ _ el]
    simp only[DJ,ah,aw,aH,bg,Opd.ev,q1,put,Bool.true_or,if_true,List.map_cons,List.map_nil,q2,q3,e4,e5,V.flat,L.flat,Bool.not_true,Bool.and_false,Bool.false_eq_true,if_false,dJ,dk,q4]
   ·rw[List.getElem?_set_ne (by omega),List.getElem?_set_ne (by omega),List.getElem?_set_ne (by omega),List.getElem?_set_ne (by omega),List.getElem?_set_ne (by omega)];exact t2
  cases sg with
  |c ty=>
   simp only[Seg.ts,List.length_singleton]at hal ha
   obtain⟨p,rfl⟩:=List.length_eq_one_iff.1 hal
   have hlen:(dn++[p]).length=dn.length+1:=by simp
   cases ty with
   |lst us=>cases hSeg
   |int k=>
    obtain⟨n,rfl⟩:=kd ha.1
    exact skip (c':=0) (by simp only[eV,sz]) (by rw[hlen];rfl) rfl
   |bool=>
    obtain⟨n,rfl⟩:=j3 ha.1
    exact skip (c':=0) (by simp only[eV,sz]) (by rw[hlen];rfl) rfl
   |str=>
    obtain⟨s,rfl⟩:=la ha.1
    have hs:s.length≤maxLen:=ha.1
    unfold maxLen at hs
    have hza:eV [PV.str s]=s.length:=by simp only[eV,sz,Nat.add_zero]
    have hcl:c+7<t.length:=by have:=pb ss (c+7);simp only[E1]at hN;omega
    have hw:IntKind.i64.wrap (left-(s.length:Int))=left-s.length:=by rw[IntKind.wrap_i64];omega
    have hcut:gr false 1 dn.length ((dn++[PV.str s]++b).map .pv)=some (fM s):=by rw[List.append_assoc];exact li (agg:=false) (a:=[.str s]) (.inr rfl)
    have el:=o7 (x:=2) (ox:=0) (t:=t.set c (aa .i64 left)) (h:=[.box ((dn++[PV.str s]++b).map .pv)]) (by rw[List.getElem?_set_ne (by omega)];exact t2) (c:=c+1) (by omega) (by simp;omega) rfl hcut (ag Φ ext)
    generalize hh:[AObj.box ((dn++[PV.str s]++b).map L.pv)]=hp at el go⊢
    have q1:t.getD 1 (.tup [])=aa .i64 left:=getD_some t1
    generalize hT:((t.set c (aa .i64 left)).set (c+1) (V.one (.ptr 0 0 dn.length))).set (c+1+1) (fM s)=T at el
    have lT:T.length=t.length:=by rw[←hT];simp
    have q2:T.getD (c+2) (.tup [])=fM s:=by rw[←hT];exact aA (by simp;omega)
    have q3:(T.set (c+3) (aa .i64 s.length)).getD c (.tup [])=aa .i64 left:=by rw[dd (by omega),←hT,dd (by omega),dd (by omega)];exact aA (by omega)
    have q4:(T.set (c+3) (aa .i64 s.length)).getD (c+3) (.tup [])=aa .i64 s.length:=aA (by omega)
    have q5:((T.set (c+3) (aa .i64 s.length)).set (c+4) (aa .i64 (left-s.length))).getD (c+4) (.tup [])=aa .i64 (left-s.length):=aA (by simp;omega)
    refine go (cn:=c+5) (cm:=0) (l:=left-s.length) (t':=((T.set (c+3) (aa .i64 s.length)).set (c+4) (aa .i64 (left-s.length))).set 1 (aa .i64 (left-s.length))) (by rw[hlen];rfl) rfl (by omega) ?_ (by simp[lT]) (List.getElem?_set_self (by simp;omega)) ?_ (fun hn=>by rw[hza];exact Pr (by omega)) (fun hn=>by rw[hza];unfold less;rw[if_neg (by omega)])
    ·simp only[List.cons_append,ah]
     simp only[aw,aH,bg,Opd.ev,q1,put]
     rw[bL _ _ _ el]
     simp only[ah,aw,aH,bg,Opd.ev,q2,isStr,put,q3,q4,bin,if_true,bN,hw,q5]
    ·rw[List.getElem?_set_ne (by omega),List.getElem?_set_ne (by omega),List.getElem?_set_ne (by omega),←hT,List.getElem?_set_ne (by omega),List.getElem?_set_ne (by omega),List.getElem?_set_ne (by omega)];exact t2
  |s ts K=>
   simp only[Seg.ts]at hal ha
   have hlen:(dn++a).length=dn.length+ts.length:=by simp[hal]
   by_cases hk:K.ks=0
   ·simp only[KR,hk,if_true]at hSeg
    exact skip (c':=0) (DM hSeg ha) (by rw[hlen];simp only[GV,hk,if_true]) (by simp only[E1,hk,if_true])
   ·simp only[KR,hk,if_false]at hSeg
    exact call (n:=ts.length) (agg:=true) (v:= .agg (a.map .pv)) (by rw[hlen];simp only[GV,hk,if_false]) (by simp only[E1,hk,if_false]) (by rw[←hal];exact li (agg:=true) (.inl rfl)) (fun h i=>by simp only[ap,qD];rfl) (hSeg a ha left h0 h1)
  |l ts K=>
   simp only[Seg.ts,List.length_singleton]at hal ha
   obtain⟨p,rfl⟩:=List.length_eq_one_iff.1 hal
   obtain⟨rows,rfl⟩:=mV ha.1
   have hlen:(dn++[PV.lst rows]).length=dn.length+1:=by simp
   exact call (n:=1) (agg:=false) (v:=bm rows) (by rw[hlen];rfl) rfl (li (agg:=false) (a:=[.lst rows]) (.inr rfl)) (fun h i=>rfl) (by have:=hSeg rows ha.1 left h0 h1;simpa only[eV,Nat.add_zero]using this)
theorem cB {k:Nat}{ss:List Seg}(hk:Φ k=some (fF ss))(hss:∀s∈ss,KR Φ ext s):j4 Φ ext k (gI ss):=by
 intro r hr left h0 h1
 refine fS hk ?_
 have hle:=pb ss 5
 obtain⟨m,hm⟩:∃m,E1 5 ss+1-2=m+4:=⟨E1 5 ss-5,by omega⟩
 have hpl:(r.map L.pv).all plain=true:=by simp[plain]
 obtain⟨t',e1,e2⟩:=Lx ss hss (c:=5) (dn:=[]) (row:=r) (t:=V.agg (r.map .pv)::aa .i64 left::V.one (.ptr 0 0 0):: .tup []::aa .i64 0::List.replicate (m+1) (.tup [])) (left:=left) rfl rfl h0 h1 (by omega) (by simp;omega) hr
 have hst:fm Φ ext (fF ss).body (bw (fF ss) [.agg (r.map .pv),aa .i64 left])=some (.ret,⟨t',[.box (r.map .pv)]⟩):=by
  simp only[fm,fF,bw,List.length_cons,List.length_nil,Nat.zero_add,Nat.reduceAdd,hm,aj,ah,aw,aH,bg,bY,Opd.ev,put,List.replicate_succ,List.cons_append,List.nil_append,List.getD_cons_zero,List.set_cons_succ,List.set_cons_zero,V.cells,hpl,if_true]
  exact e1
 rw[hst]
 simp only[done,fF,aU,ar,bz,getD_some e2,List.flatMap_cons,List.flatMap_nil,List.append_nil,V.cells,bP,comp,aK,bu]
 simp[ai]
def jB (Φ:Nat→Option AFn)(ext:Nat→List V→Option V)(k:Nat)(ts:List PTy):Prop:=
 ∀r:List PV,bf ts r→ag Φ ext k [.agg (r.map .pv), .agg (r.map .pv)]=some (au true)
def jN (Φ:Nat→Option AFn)(ext:Nat→List V→Option V)(k:Nat)(ts:List PTy):Prop:=
 ∀rows:List (List PV),nE (.lst ts) (.lst rows)→ag Φ ext k [bm rows,bm rows]=some (au true)
def PJ (Φ:Nat→Option AFn)(ext:Nat→List V→Option V):Seg→Prop
 | .c t=>t.flatT=true
 | .s ts K=>jB Φ ext K.ke ts
 | .l ts K=>jN Φ ext K.ke ts
theorem xS :∀(ss:List Seg)(c:Nat),c≤Mp c ss
 |[],c=>Nat.le_refl _
 | .c _::ss,c=>Nat.le_trans (by omega) (xS ss (c+5))
 | .s _ _::ss,c=>Nat.le_trans (by omega) (xS ss (c+6))
 | .l _ _::ss,c=>Nat.le_trans (by omega) (xS ss (c+6))
theorem KW :∀(ss:List Seg),(∀s∈ss,PJ Φ ext s)→∀{c:Nat}{dn row:List PV}{t:List V},
 t[2]? =some (.one (.ptr 0 0 0))→t[3]? =some (.one (.ptr 1 0 0))→5≤c→Mp c ss≤t.length→bf (gI ss) row→
 ∃t',aj (ag Φ ext) av (Nt c dn.length ss) ⟨t,[.box ((dn++row).map .pv), .box ((dn++row).map .pv)]⟩=some (.ret,⟨t',[.box ((dn++row).map .pv), .box ((dn++row).map .pv)]⟩)∧t'[4]? =some (au true)
 |[],_,c,dn,row,t,t2,t3,hc,hN,hr=>by
  simp only[Mp]at hN
  refine⟨t.set 4 (au true),?_,List.getElem?_set_self (by omega)⟩
  simp only[Nt,aj,ah,aw,aH,bg,Opd.ev,put]
 |sg::ss,hss,c,dn,row,t,t2,t3,hc,hN,hr=>by
  obtain⟨a,b,rfl,ha,hb⟩:=j0 (ts:=sg.ts) hr
  have hal:=jl ha
  have hSeg:=hss sg (by simp)
  have ih:=fun{c dn row t}=>KW ss (fun s m=>hss s (by simp[m])) (c:=c) (dn:=dn) (row:=row) (t:=t)
  rw[←List.append_assoc]
  generalize hh:[AObj.box ((dn++a++b).map L.pv), .box ((dn++a++b).map L.pv)]=hp
  have go:∀{ops:List AOper}{cn:Nat}{t':List V},Nt c dn.length (sg::ss)= .seq (.seq (.region ops) (.cond (.tmp cn) II .skip)) (Nt (cn+1) (dn++a).length ss)→Mp c (sg::ss)=Mp (cn+1) ss→4≤cn→
   ah (ag Φ ext) ops ⟨t,hp⟩=some ⟨t',hp⟩→t'.length=t.length→t'[cn]? =some (au false)→t'[2]? =t[2]? →t'[3]? =t[3]? →
   ∃t',aj (ag Φ ext) av (Nt c dn.length (sg::ss)) ⟨t,hp⟩=some (.ret,⟨t',hp⟩)∧t'[4]? =some (au true):=by
   intro ops cn t' e1 e2 e3 e4 e5 e6 e7 e8
   obtain⟨t'',f1,f2⟩:=ih (c:=cn+1) (dn:=dn++a) (row:=b) (t:=t') (e7.trans t2) (e8.trans t3) (by omega) (by rw[e5,←e2];exact hN) hb
   rw[hh]at f1
   refine⟨t'',?_,f2⟩
   rw[e1]
   simp only[aj,e4,Opd.ev,getD_some e6,isBool,Bool.false_eq_true,if_false]
   exact f1
  have hb0:hp[0]? =some (.box ((dn++a++b).map .pv)):=by rw[←hh];rfl
  have hb1:hp[1]? =some (.box ((dn++a++b).map .pv)):=by rw[←hh];rfl
  have ld:∀{n:Nat}{agg:Bool}{v:V},gr agg n dn.length ((dn++a++b).map .pv)=some v→c+3<t.length→∃T,ah (ag Φ ext) (k7 c 2 dn.length n agg++k7 (c+2) 3 dn.length n agg) ⟨t,hp⟩=some ⟨T,hp⟩∧T.length=t.length∧T.getD (c+1) (.tup [])=v∧T.getD (c+3) (.tup [])=v∧T[2]? =t[2]? ∧T[3]? =t[3]? :=by
   intro n agg v hcut hlt
   have el1:=o7 (t:=t) (h:=hp) t2 (c:=c) (by omega) (by omega) hb0 hcut (ag Φ ext)
   have el2:=o7 (t:=(t.set c (.one (.ptr 0 0 dn.length))).set (c+1) v) (h:=hp) (x:=3) (ox:=1) (by rw[List.getElem?_set_ne (by omega),List.getElem?_set_ne (by omega)];exact t3) (c:=c+2) (by omega) (by simp;omega) hb1 hcut (ag Φ ext)
   refine⟨_,(bL _ _ _ el1).trans el2,by simp,?_,?_,?_,?_⟩
   ·rw[dd (by omega),dd (by omega)];exact aA (by simp;omega)
   ·exact aA (by simp;omega)
   ·rw[List.getElem?_set_ne (by omega),List.getElem?_set_ne (by omega),List.getElem?_set_ne (by omega),List.getElem?_set_ne (by omega)]
   ·rw[List.getElem?_set_ne (by omega),List.getElem?_set_ne (by omega),List.getElem?_set_ne (by omega),List.getElem?_set_ne (by omega)]
  have call:∀{n:Nat}{agg:Bool}{k:Nat}{v:V},Nt c dn.length (sg::ss)= .seq (.seq (.region (k7 c 2 dn.length n agg++(k7 (c+2) 3 dn.length n agg++[⟨some (c+4), .call k [.tmp (c+1), .tmp (c+3)] true false,none⟩,⟨some (c+5), .un .not (.tmp (c+4)),none⟩]))) (.cond (.tmp (c+5)) II .skip)) (Nt (c+6) (dn++a).length ss)→Mp c (sg::ss)=Mp (c+6) ss→
   gr agg n dn.length ((dn++(a++b)).map .pv)=some v→(∀h,ap h [v,v]=some [v,v])→ag Φ ext k [v,v]=some (au true)→
   ∃t',aj (ag Φ ext) av (Nt c dn.length (sg::ss)) ⟨t,hp⟩=some (.ret,⟨t',hp⟩)∧t'[4]? =some (au true):=by
   intro n agg k v e1 e2 e3 e4 e5
   have hcl:c+6≤t.length:=by have:=xS ss (c+6);omega
   rw[←List.append_assoc]at e3
   obtain⟨T,g1,g2,g3,g4,g5,g6⟩:=ld e3 (by omega)
   have q1:(T.set (c+4) (au true)).getD (c+4) (.tup [])=au true:=aA (by omega)
   refine go (cn:=c+5) (t':=(T.set (c+4) (au true)).set (c+5) (au false)) e1 e2 (by omega) ?_ (by simp[g2]) (List.getElem?_set_self (by simp;omega)) (by rw[List.getElem?_set_ne (by omega),List.getElem?_set_ne (by omega)];exact g5) (by rw[List.getElem?_set_ne (by omega),List.getElem?_set_ne (by omega)];exact g6)
   rw[←List.append_assoc,bL _ _ _ g1]
   simp only[ah,aw,aH,bg,Opd.ev,g3,g4,put,Bool.true_or,if_true,List.map_cons,List.map_nil,e4,e5,V.flat,L.flat,Bool.not_true,Bool.and_false,Bool.false_eq_true,if_false,dJ,dk,q1,un]
  cases sg with
  |c ty=>
   simp only[Seg.ts,List.length_singleton]at hal ha
   obtain⟨p,rfl⟩:=List.length_eq_one_iff.1 hal
   have hlen:(dn++[p]).length=dn.length+1:=by simp
   have hcl:c+5≤t.length:=by have:=xS ss (c+5);simp only[Mp]at hN;omega
   have hcut:gr false 1 dn.length ((dn++[p]++b).map .pv)=some (.one (.pv p)):=by rw[List.append_assoc];exact li (agg:=false) (a:=[p]) (.inr rfl)
   obtain⟨T,g1,g2,g3,g4,g5,g6⟩:=ld hcut (by omega)
   refine go (cn:=c+4) (t':=T.set (c+4) (au false)) (by rw[hlen];rfl) rfl (by omega) ?_ (by simp[g2]) (List.getElem?_set_self (by omega)) (by rw[List.getElem?_set_ne (by omega)];exact g5) (by rw[List.getElem?_set_ne (by omega)];exact g6)
   rw[←List.append_assoc,bL _ _ _ g1]
   cases ty with
   |lst us=>cases hSeg
   |int k=>obtain⟨n,rfl⟩:=kd ha.1;simp only[ah,aw,aH,bg,EV,Opd.ev,g3,g4,put,bin,if_true,bN,bne_self_eq_false]
   |bool=>obtain⟨n,rfl⟩:=j3 ha.1;simp only[ah,aw,aH,bg,EV,Opd.ev,g3,g4,put,isBool,if_true,beq_self_eq_true,Bool.not_true]
   |str=>obtain⟨n,rfl⟩:=la ha.1;simp only[ah,aw,aH,bg,EV,Opd.ev,g3,g4,put,bin,iB,beq_self_eq_true,Bool.not_true]
  |s ts K=>
   simp only[Seg.ts]at hal ha
   have hlen:(dn++a).length=dn.length+ts.length:=by simp[hal]
   exact call (n:=ts.length) (agg:=true) (v:= .agg (a.map .pv)) (by rw[hlen];rfl) rfl (by rw[←hal];exact li (agg:=true) (.inl rfl)) (fun h=>by simp only[ap,qD]) (hSeg a ha)
  |l ts K=>
   simp only[Seg.ts,List.length_singleton]at hal ha
   obtain⟨p,rfl⟩:=List.length_eq_one_iff.1 hal
   obtain⟨rows,rfl⟩:=mV ha.1
   have hlen:(dn++[PV.lst rows]).length=dn.length+1:=by simp
   exact call (n:=1) (agg:=false) (v:=bm rows) (by rw[hlen];rfl) rfl (li (agg:=false) (a:=[.lst rows]) (.inr rfl)) (fun h=>rfl) (hSeg rows ha.1)
theorem cf {k:Nat}{ss:List Seg}(hk:Φ k=some (fo ss))(hss:∀s∈ss,PJ Φ ext s):jB Φ ext k (gI ss):=by
 intro r hr
 refine fS hk ?_
 have hle:=xS ss 5
 obtain⟨m,hm⟩:∃m,Mp 5 ss-2=m+3:=⟨Mp 5 ss-5,by omega⟩
 have hpl:(r.map L.pv).all plain=true:=by simp[plain]
 obtain⟨t',e1,e2⟩:=KW ss hss (c:=5) (dn:=[]) (row:=r) (t:=V.agg (r.map .pv)::V.agg (r.map .pv)::V.one (.ptr 0 0 0)::V.one (.ptr 1 0 0)::au false::List.replicate m (.tup [])) rfl rfl (by omega) (by simp;omega) hr
 have hst:fm Φ ext (fo ss).body (bw (fo ss) [.agg (r.map .pv), .agg (r.map .pv)])=some (.ret,⟨t',[.box (r.map .pv), .box (r.map .pv)]⟩):=by
  simp only[fm,fo,bw,List.length_cons,List.length_nil,Nat.zero_add,Nat.reduceAdd,hm,aj,ah,aw,aH,bg,bY,Opd.ev,put,List.replicate_succ,List.cons_append,List.nil_append,List.getD_cons_zero,List.getD_cons_succ,List.set_cons_succ,List.set_cons_zero,V.cells,hpl,if_true]
  exact e1
 rw[hst]
 simp only[done,fo,aU,ar,bz,getD_some e2,List.flatMap_cons,List.flatMap_nil,List.append_nil,V.cells,bP,comp,aK,bu]
 simp[ai]
def QA (P:Seg→Prop):List Seg→Prop
 |[]=>True
 |s::ss=>P s∧QA P ss
theorem bd {P:Seg→Prop}:∀{ss:List Seg},QA P ss→∀s∈ss,P s
 |[],_,_,h=>by cases h
 |x::xs,h,s,hm=>by
  rcases List.mem_cons.1 hm with rfl|hm
  ·exact h.1
  ·exact bd h.2 s hm
theorem jh {k z kx:Nat}{ts:List PTy}(hk:Φ k=some (G2 z kx))(hz:ts.length=z)(hx:j4 Φ ext kx ts):jO Φ ext k ts:=by
 intro rows h left h0 h1
 obtain⟨hl,hr⟩:=aL h
 rw[jZ]
 exact Qm hk (fun r m=>by rw[jl (hr r m),hz]) hl (fun r m=>hx r (hr r m)) h0 h1
theorem BC {k:Nat}{ts:List PTy}(hk:Φ k=some PS)(ha:ts.all PTy.small=true):jO Φ ext k ts:=by
 intro rows h left h0 h1
 obtain⟨hl,hr⟩:=aL h
 rw[jZ,Ak ha hr]
 exact Ql hk hl h0 h1
theorem gU {k z kx:Nat}{ts:List PTy}(hk:Φ k=some (na 27 (fa z kx)))(hz:ts.length=z)(hx:jB Φ ext kx ts):jN Φ ext k ts:=by
 intro rows h
 obtain⟨hl,hr⟩:=aL h
 exact P8 hk (fun r m=>by rw[jl (hr r m),hz]) hl (fun r m=>hx r (hr r m))
theorem Ge {k:Nat}{t:PTy}(hk:Φ k=some (na 26 nL))(ht:t.easy=true):jN Φ ext k [t]:=by
 intro rows h
 obtain⟨hl,hr⟩:=aL h
 obtain⟨qs,rfl⟩:=Lw hr
 exact P7 hk (Qg ht hr) (by simpa using hl)
end
end Gi
