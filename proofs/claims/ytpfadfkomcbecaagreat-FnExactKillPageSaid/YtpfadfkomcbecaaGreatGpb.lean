/- Of this proof. -/
import Derived.Test.YtpfadfkomcbecaaGreatGpd
set_option linter.unusedSimpArgs false
set_option linter.unusedVariables false
namespace Gi
open Go Go.RowKit
def Et (c ks:Nat):List AOper:=[⟨some (c+2), .mv (.tmp 1),none⟩,⟨some (c+3), .call ks [.tmp (c+1), .tmp (c+2)] true false,none⟩,⟨some 1, .mv (.tmp (c+3)),none⟩]
def HZ :Nat→Nat→List Seg→ACode
 |c,_,[]=> .seq (.region [⟨some c, .mv (.tmp 1),none⟩,⟨some 4, .mv (.tmp c),none⟩]) .ret
 |c,off, .c .str::ss=> .seq (.region (⟨some c, .mv (.tmp 1),none⟩::li (c+1) 2 off 1 false++[⟨some (c+3), .lenS (.tmp (c+2)),none⟩,⟨some (c+4), .bin .sub (.tmp c) (.tmp (c+3)),none⟩,⟨some 1, .mv (.tmp (c+4)),none⟩])) (.seq (nZ (c+5)) (HZ (c+7) (off+1) ss))
 |c,off, .c _::ss=>HZ c (off+1) ss
 |c,off, .s ts K::ss=>if K.ks=0 then HZ c (off+ts.length) ss else .seq (.region (li c 2 off ts.length true++Et c K.ks)) (.seq (nZ (c+4)) (HZ (c+6) (off+ts.length) ss))
 |c,off, .l _ K::ss=> .seq (.region (li c 2 off 1 false++Et c K.ks)) (.seq (nZ (c+4)) (HZ (c+6) (off+1) ss))
def FV :Nat→List Seg→Nat
 |c,[]=>c
 |c, .c .str::ss=>FV (c+7) ss
 |c, .c _::ss=>FV c ss
 |c, .s _ K::ss=>if K.ks=0 then FV c ss else FV (c+6) ss
 |c, .l _ _::ss=>FV (c+6) ss
def fA (ss:List Seg):AFn:=⟨FV 5 ss+1,[.tmp 4], .seq (.region [⟨some 2, .box (.tmp 0),none⟩,⟨some 4, .mv (.pv (.int .i64 0)),none⟩]) (HZ 5 0 ss)⟩
def JR :ACode:= .seq (.region [⟨some 4, .mv (.pv (.bool false)),none⟩]) .ret
def FM (t:PTy)(x y:Opd):AOp:=match t with
 | .bool=> .eqB true x y
 |_=> .bin .neq x y
def OR :Nat→Nat→List Seg→ACode
 |_,_,[]=> .seq (.region [⟨some 4, .mv (.pv (.bool true)),none⟩]) .ret
 |c,off, .c t::ss=> .seq (.seq (.region (li c 2 off 1 false++(li (c+2) 3 off 1 false++[⟨some (c+4),FM t (.tmp (c+1)) (.tmp (c+3)),none⟩]))) (.cond (.tmp (c+4)) JR .skip)) (OR (c+5) (off+1) ss)
 |c,off, .s ts K::ss=> .seq (.seq (.region (li c 2 off ts.length true++(li (c+2) 3 off ts.length true++[⟨some (c+4), .call K.ke [.tmp (c+1), .tmp (c+3)] true false,none⟩,⟨some (c+5), .un .not (.tmp (c+4)),none⟩]))) (.cond (.tmp (c+5)) JR .skip)) (OR (c+6) (off+ts.length) ss)
 |c,off, .l _ K::ss=> .seq (.seq (.region (li c 2 off 1 false++(li (c+2) 3 off 1 false++[⟨some (c+4), .call K.ke [.tmp (c+1), .tmp (c+3)] true false,none⟩,⟨some (c+5), .un .not (.tmp (c+4)),none⟩]))) (.cond (.tmp (c+5)) JR .skip)) (OR (c+6) (off+1) ss)
def NJ :Nat→List Seg→Nat
 |c,[]=>c
 |c, .c _::ss=>NJ (c+5) ss
 |c,_::ss=>NJ (c+6) ss
def fg (ss:List Seg):AFn:=⟨NJ 5 ss,[.tmp 4], .seq (.region [⟨some 2, .box (.tmp 0),none⟩,⟨some 3, .box (.tmp 1),none⟩,⟨some 4, .mv (.pv (.bool false)),none⟩]) (OR 5 0 ss)⟩
section
variable {Φ:Nat→Option AFn}{ext:Nat→List V→Option V}
def kd (Φ:Nat→Option AFn)(ext:Nat→List V→Option V)(k:Nat)(ts:List PTy):Prop:=∀r:List PV,aZ ts r→Cd Φ ext k r
def jT (Φ:Nat→Option AFn)(ext:Nat→List V→Option V)(k:Nat)(ts:List PTy):Prop:=
 ∀rows:List (List PV),nv (.lst ts) (.lst rows)→∀left:Int,0≤left→left≤1048576→ag Φ ext k [bu rows,aa .i64 left]=some (aa .i64 (less left (sz (.lst rows))))
def L9 (Φ:Nat→Option AFn)(ext:Nat→List V→Option V):Seg→Prop
 | .c t=>t.flatT=true
 | .s ts K=>if K.ks=0 then ts.all PTy.small=true else kd Φ ext K.ks ts
 | .l ts K=>jT Φ ext K.ks ts
theorem Q4 {call:Nat→List V→Option V}{lp}{c:Nat}{t:List V}{h:List AObj}{l:Int}(h1:t[1]? =some (aa .i64 l))(hl:l<0)(hc:5≤c)(hlt:c+1<t.length):
 ∃t',aj call lp (nZ c) ⟨t,h⟩=some (.ret,⟨t',h⟩)∧t'[4]? =some (aa .i64 (-1)):=by
 have e1:t.getD 1 (.tup [])=aa .i64 l:=getD_some h1
 have e2:(t.set c (aa .i64 l)).getD c (.tup [])=aa .i64 l:=aB (by omega)
 have e3:((t.set c (aa .i64 l)).set (c+1) (ar true)).getD (c+1) (.tup [])=ar true:=aB (by simp;omega)
 refine⟨((t.set c (aa .i64 l)).set (c+1) (ar true)).set 4 (aa .i64 (-1)),?_,List.getElem?_set_self (by simp;omega)⟩
 simp only[nZ,aj,ah,az,aH,bf,Opd.ev,e1,put,e2,bin,if_true,bM,hl,decide_true,e3,isBool]
theorem MH {call:Nat→List V→Option V}{lp}{c:Nat}{t:List V}{h:List AObj}{l:Int}(h1:t[1]? =some (aa .i64 l))(hl:¬l<0)(hlt:c+1<t.length):
 aj call lp (nZ c) ⟨t,h⟩=some (.normal,⟨(t.set c (aa .i64 l)).set (c+1) (ar false),h⟩):=by
 have e1:t.getD 1 (.tup [])=aa .i64 l:=getD_some h1
 have e2:(t.set c (aa .i64 l)).getD c (.tup [])=aa .i64 l:=aB (by omega)
 have e3:((t.set c (aa .i64 l)).set (c+1) (ar false)).getD (c+1) (.tup [])=ar false:=aB (by simp;omega)
 simp only[nZ,aj,ah,az,aH,bf,Opd.ev,e1,put,e2,bin,if_true,bM,hl,decide_false,e3,isBool,Bool.false_eq_true,if_false]
theorem pt :∀(ss:List Seg)(c:Nat),c≤FV c ss
 |[],c=>Nat.le_refl _
 | .c .str::ss,c=>Nat.le_trans (by omega) (pt ss (c+7))
 | .c (.int _)::ss,c=>pt ss c
 | .c .bool::ss,c=>pt ss c
 | .c (.lst _)::ss,c=>pt ss c
 | .s _ K::ss,c=>by
  simp only[FV]
  split
  ·exact pt ss c
  ·exact Nat.le_trans (by omega) (pt ss (c+6))
 | .l _ _::ss,c=>Nat.le_trans (by omega) (pt ss (c+6))
theorem MP :∀(ss:List Seg),(∀s∈ss,L9 Φ ext s)→∀{c:Nat}{dn row:List PV}{t:List V}{left:Int},
 t[1]? =some (aa .i64 left)→t[2]? =some (.one (.ptr 0 0 0))→0≤left→left≤1048576→5≤c→FV c ss<t.length→aZ (gK ss) row→
 ∃t',aj (ag Φ ext) av (HZ c dn.length ss) ⟨t,[.box ((dn++row).map .pv)]⟩=some (.ret,⟨t',[.box ((dn++row).map .pv)]⟩)∧t'[4]? =some (aa .i64 (less left (eK row)))
 |[],_,c,dn,row,t,left,t1,t2,h0,h1,hc,hN,hr=>by
  obtain rfl:=fm hr
  simp only[FV]at hN
  have e1:t.getD 1 (.tup [])=aa .i64 left:=getD_some t1
  have e2:(t.set c (aa .i64 left)).getD c (.tup [])=aa .i64 left:=aB hN
  have hl:less left (eK [])=left:=by
   have e0:eK []=0:=by simp only[eK]
   rw[e0];unfold less;rw[if_neg (by omega)];omega
  refine⟨(t.set c (aa .i64 left)).set 4 (aa .i64 left),?_,by rw[hl];exact List.getElem?_set_self (by simp;omega)⟩
  simp only[HZ,aj,ah,az,aH,bf,Opd.ev,e1,put,e2]
 |sg::ss,hss,c,dn,row,t,left,t1,t2,h0,h1,hc,hN,hr=>by
  obtain⟨a,b,rfl,ha,hb⟩:=j8 (ts:=sg.ts) hr
  have hal:=jp ha
  have hsz:=Ev a b
  have hSeg:=hss sg (by simp)
  have ih:=fun{c dn row t left}=>MP ss (fun s m=>hss s (by simp[m])) (c:=c) (dn:=dn) (row:=row) (t:=t) (left:=left)
  rw[←List.append_assoc]
  have skip:∀{c':Nat},eK a=0→HZ c dn.length (sg::ss)=HZ c (dn++a).length ss→FV c (sg::ss)=FV c ss→
   ∃t',aj (ag Φ ext) av (HZ c dn.length (sg::ss)) ⟨t,[.box ((dn++a++b).map .pv)]⟩=some (.ret,⟨t',[.box ((dn++a++b).map .pv)]⟩)∧t'[4]? =some (aa .i64 (less left (eK (a++b)))):=by
   intro _ e0 e1 e2
   rw[e1,hsz,e0,Nat.zero_add]
   exact ih t1 t2 h0 h1 hc (by rw[←e2];exact hN) hb
  have go:∀{ops:List AOper}{cn cm:Nat}{t':List V}{l:Int},HZ c dn.length (sg::ss)= .seq (.region ops) (.seq (nZ cn) (HZ (cn+2) (dn++a).length ss))→FV c (sg::ss)=FV (cn+2) ss→5≤cn→
   ah (ag Φ ext) ops ⟨t,[.box ((dn++a++b).map .pv)]⟩=some ⟨t',[.box ((dn++a++b).map .pv)]⟩→t'.length=t.length→t'[1]? =some (aa .i64 l)→t'[2]? =some (.one (.ptr 0 0 0))→(l<0→less left (eK a)= -1)→(¬l<0→l=less left (eK a))→
   ∃t',aj (ag Φ ext) av (HZ c dn.length (sg::ss)) ⟨t,[.box ((dn++a++b).map .pv)]⟩=some (.ret,⟨t',[.box ((dn++a++b).map .pv)]⟩)∧t'[4]? =some (aa .i64 (less left (eK (a++b)))):=by
   intro ops cn cm t' l e1 e2 e3 e4 e5 e6 e7 e8 e9
   have hcl:cn+1<t'.length:=by have:=pt ss (cn+2);omega
   rw[e1,hsz]
   by_cases hn:l<0
   ·obtain⟨t'',g1,g2⟩:=Q4 (call:=ag Φ ext) (lp:=av) (h:=[.box ((dn++a++b).map .pv)]) e6 hn e3 hcl
    refine⟨t'',?_,?_⟩
    ·simp only[aj,e4,g1]
    ·rw[g2,Jz (b:=eK b) h0 (by rw[e8 hn];omega)]
   ·have g1:=MH (call:=ag Φ ext) (lp:=av) (h:=[.box ((dn++a++b).map .pv)]) e6 hn hcl
    have hge:0≤less left (eK a):=by rw[←e9 hn];omega
    obtain⟨t'',f1,f2⟩:=ih (c:=cn+2) (dn:=dn++a) (row:=b) (t:=(t'.set cn (aa .i64 l)).set (cn+1) (ar false)) (left:=l) (by rw[List.getElem?_set_ne (by omega),List.getElem?_set_ne (by omega)];exact e6) (by rw[List.getElem?_set_ne (by omega),List.getElem?_set_ne (by omega)];exact e7) (by omega) (by have:=My (a:=eK a) h0;rw[e9 hn];omega) (by omega) (by simp[e5];rw[←e2];exact hN) hb
    refine⟨t'',?_,?_⟩
    ·simp only[aj,e4,g1]
     exact f1
    ·rw[f2,←qF hge,e9 hn]
  have call:∀{n:Nat}{agg:Bool}{k:Nat}{v:V},HZ c dn.length (sg::ss)= .seq (.region (li c 2 dn.length n agg++Et c k)) (.seq (nZ (c+4)) (HZ (c+6) (dn++a).length ss))→FV c (sg::ss)=FV (c+6) ss→
   gu agg n dn.length ((dn++(a++b)).map .pv)=some v→(∀h i,ap h [v,aa .i64 i]=some [v,aa .i64 i])→ag Φ ext k [v,aa .i64 left]=some (aa .i64 (less left (eK a)))→
   ∃t',aj (ag Φ ext) av (HZ c dn.length (sg::ss)) ⟨t,[.box ((dn++a++b).map .pv)]⟩=some (.ret,⟨t',[.box ((dn++a++b).map .pv)]⟩)∧t'[4]? =some (aa .i64 (less left (eK (a++b)))):=by
   intro n agg k v e1 e2 e3 e4 e5
   have hcl:c+5<t.length:=by have:=pt ss (c+6);omega
   rw[←List.append_assoc]at e3
   have el:=pp (t:=t) (h:=[.box ((dn++a++b).map .pv)]) t2 (c:=c) (by omega) (by omega) rfl e3 (ag Φ ext)
   generalize hh:[AObj.box ((dn++a++b).map L.pv)]=hp at el go⊢
   have q1:((t.set c (V.one (.ptr 0 0 dn.length))).set (c+1) v).getD 1 (.tup [])=aa .i64 left:=by rw[da (by omega),da (by omega)];exact getD_some t1
   have q2:(((t.set c (V.one (.ptr 0 0 dn.length))).set (c+1) v).set (c+2) (aa .i64 left)).getD (c+1) (.tup [])=v:=by rw[da (by omega)];exact aB (by simp;omega)
   have q3:(((t.set c (V.one (.ptr 0 0 dn.length))).set (c+1) v).set (c+2) (aa .i64 left)).getD (c+2) (.tup [])=aa .i64 left:=aB (by simp;omega)
   have q4:((((t.set c (V.one (.ptr 0 0 dn.length))).set (c+1) v).set (c+2) (aa .i64 left)).set (c+3) (aa .i64 (less left (eK a)))).getD (c+3) (.tup [])=aa .i64 (less left (eK a)):=aB (by simp;omega)
   refine go (ops:=li c 2 dn.length n agg++Et c k) (cn:=c+4) (cm:=0) (l:=less left (eK a)) (t':=((((t.set c (V.one (.ptr 0 0 dn.length))).set (c+1) v).set (c+2) (aa .i64 left)).set (c+3) (aa .i64 (less left (eK a)))).set 1 (aa .i64 (less left (eK a)))) e1 e2 (by omega) ?_ (by simp) (List.getElem?_set_self (by simp;omega)) ?_ (fun hn=>Mx hn h0) (fun _=>rfl)
   ·rw[bJ _ _ _ el]
    simp only[Et,ah,az,aH,bf,Opd.ev,q1,put,Bool.true_or,if_true,List.map_cons,List.map_nil,q2,q3,e4,e5,V.flat,L.flat,Bool.not_true,Bool.and_false,Bool.false_eq_true,if_false,dG,dk,q4]
   ·rw[List.getElem?_set_ne (by omega),List.getElem?_set_ne (by omega),List.getElem?_set_ne (by omega),List.getElem?_set_ne (by omega),List.getElem?_set_ne (by omega)];exact t2
  cases sg with
  |c ty=>
   simp only[Seg.ts,List.length_singleton]at hal ha
   obtain⟨p,rfl⟩:=List.length_eq_one_iff.1 hal
   have hlen:(dn++[p]).length=dn.length+1:=by simp
   cases ty with
   |lst us=>cases hSeg
   |int k=>
    obtain⟨n,rfl⟩:=km ha.1
    exact skip (c':=0) (by simp only[eK,sz]) (by rw[hlen];rfl) rfl
   |bool=>
    obtain⟨n,rfl⟩:=j9 ha.1
    exact skip (c':=0) (by simp only[eK,sz]) (by rw[hlen];rfl) rfl
   |str=>
    obtain⟨s,rfl⟩:=lu ha.1
    have hs:s.length≤maxLen:=ha.1
    unfold maxLen at hs
    have hza:eK [PV.str s]=s.length:=by simp only[eK,sz,Nat.add_zero]
    have hcl:c+7<t.length:=by have:=pt ss (c+7);simp only[FV]at hN;omega
    have hw:IntKind.i64.wrap (left-(s.length:Int))=left-s.length:=by rw[IntKind.wrap_i64];omega
    have hcut:gu false 1 dn.length ((dn++[PV.str s]++b).map .pv)=some (fJ s):=by rw[List.append_assoc];exact lB (agg:=false) (a:=[.str s]) (.inr rfl)
    have el:=pp (x:=2) (ox:=0) (t:=t.set c (aa .i64 left)) (h:=[.box ((dn++[PV.str s]++b).map .pv)]) (by rw[List.getElem?_set_ne (by omega)];exact t2) (c:=c+1) (by omega) (by simp;omega) rfl hcut (ag Φ ext)
    generalize hh:[AObj.box ((dn++[PV.str s]++b).map L.pv)]=hp at el go⊢
    have q1:t.getD 1 (.tup [])=aa .i64 left:=getD_some t1
    generalize hT:((t.set c (aa .i64 left)).set (c+1) (V.one (.ptr 0 0 dn.length))).set (c+1+1) (fJ s)=T at el
    have lT:T.length=t.length:=by rw[←hT];simp
    have q2:T.getD (c+2) (.tup [])=fJ s:=by rw[←hT];exact aB (by simp;omega)
    have q3:(T.set (c+3) (aa .i64 s.length)).getD c (.tup [])=aa .i64 left:=by rw[da (by omega),←hT,da (by omega),da (by omega)];exact aB (by omega)
    have q4:(T.set (c+3) (aa .i64 s.length)).getD (c+3) (.tup [])=aa .i64 s.length:=aB (by omega)
    have q5:((T.set (c+3) (aa .i64 s.length)).set (c+4) (aa .i64 (left-s.length))).getD (c+4) (.tup [])=aa .i64 (left-s.length):=aB (by simp;omega)
    refine go (cn:=c+5) (cm:=0) (l:=left-s.length) (t':=((T.set (c+3) (aa .i64 s.length)).set (c+4) (aa .i64 (left-s.length))).set 1 (aa .i64 (left-s.length))) (by rw[hlen];rfl) rfl (by omega) ?_ (by simp[lT]) (List.getElem?_set_self (by simp;omega)) ?_ (fun hn=>by rw[hza];exact Q0 (by omega)) (fun hn=>by rw[hza];unfold less;rw[if_neg (by omega)])
    ·simp only[List.cons_append,ah]
     simp only[az,aH,bf,Opd.ev,q1,put]
     rw[bJ _ _ _ el]
     simp only[ah,az,aH,bf,Opd.ev,q2,isStr,put,q3,q4,bin,if_true,bM,hw,q5]
    ·rw[List.getElem?_set_ne (by omega),List.getElem?_set_ne (by omega),List.getElem?_set_ne (by omega),←hT,List.getElem?_set_ne (by omega),List.getElem?_set_ne (by omega),List.getElem?_set_ne (by omega)];exact t2
  |s ts K=>
   simp only[Seg.ts]at hal ha
   have hlen:(dn++a).length=dn.length+ts.length:=by simp[hal]
   by_cases hk:K.ks=0
   ·simp only[L9,hk,if_true]at hSeg
    exact skip (c':=0) (Ew hSeg ha) (by rw[hlen];simp only[HZ,hk,if_true]) (by simp only[FV,hk,if_true])
   ·simp only[L9,hk,if_false]at hSeg
    exact call (n:=ts.length) (agg:=true) (v:= .agg (a.map .pv)) (by rw[hlen];simp only[HZ,hk,if_false]) (by simp only[FV,hk,if_false]) (by rw[←hal];exact lB (agg:=true) (.inl rfl)) (fun h i=>by simp only[ap,qT];rfl) (hSeg a ha left h0 h1)
  |l ts K=>
   simp only[Seg.ts,List.length_singleton]at hal ha
   obtain⟨p,rfl⟩:=List.length_eq_one_iff.1 hal
   obtain⟨rows,rfl⟩:=ng ha.1
   have hlen:(dn++[PV.lst rows]).length=dn.length+1:=by simp
   exact call (n:=1) (agg:=false) (v:=bu rows) (by rw[hlen];rfl) rfl (lB (agg:=false) (a:=[.lst rows]) (.inr rfl)) (fun h i=>rfl) (by have:=hSeg rows ha.1 left h0 h1;simpa only[eK,Nat.add_zero]using this)
theorem cB {k:Nat}{ss:List Seg}(hk:Φ k=some (fA ss))(hss:∀s∈ss,L9 Φ ext s):kd Φ ext k (gK ss):=by
 intro r hr left h0 h1
 refine fQ hk ?_
 have hle:=pt ss 5
 obtain⟨m,hm⟩:∃m,FV 5 ss+1-2=m+4:=⟨FV 5 ss-5,by omega⟩
 have hpl:(r.map L.pv).all plain=true:=by simp[plain]
 obtain⟨t',e1,e2⟩:=MP ss hss (c:=5) (dn:=[]) (row:=r) (t:=V.agg (r.map .pv)::aa .i64 left::V.one (.ptr 0 0 0):: .tup []::aa .i64 0::List.replicate (m+1) (.tup [])) (left:=left) rfl rfl h0 h1 (by omega) (by simp;omega) hr
 have hst:ft Φ ext (fA ss).body (start (fA ss) [.agg (r.map .pv),aa .i64 left])=some (.ret,⟨t',[.box (r.map .pv)]⟩):=by
  simp only[ft,fA,start,List.length_cons,List.length_nil,Nat.zero_add,Nat.reduceAdd,hm,aj,ah,az,aH,bf,bU,Opd.ev,put,List.replicate_succ,List.cons_append,List.nil_append,List.getD_cons_zero,List.set_cons_succ,List.set_cons_zero,V.cells,hpl,if_true]
  exact e1
 rw[hst]
 simp only[done,fA,aV,au,bE,getD_some e2,List.flatMap_cons,List.flatMap_nil,List.append_nil,V.cells,bN,comp,aK,bq]
 simp[ai]
def jD (Φ:Nat→Option AFn)(ext:Nat→List V→Option V)(k:Nat)(ts:List PTy):Prop:=
 ∀r:List PV,aZ ts r→ag Φ ext k [.agg (r.map .pv), .agg (r.map .pv)]=some (ar true)
def jS (Φ:Nat→Option AFn)(ext:Nat→List V→Option V)(k:Nat)(ts:List PTy):Prop:=
 ∀rows:List (List PV),nv (.lst ts) (.lst rows)→ag Φ ext k [bu rows,bu rows]=some (ar true)
def Rj (Φ:Nat→Option AFn)(ext:Nat→List V→Option V):Seg→Prop
 | .c t=>t.flatT=true
 | .s ts K=>jD Φ ext K.ke ts
 | .l ts K=>jS Φ ext K.ke ts
theorem yr :∀(ss:List Seg)(c:Nat),c≤NJ c ss
 |[],c=>Nat.le_refl _
 | .c _::ss,c=>Nat.le_trans (by omega) (yr ss (c+5))
 | .s _ _::ss,c=>Nat.le_trans (by omega) (yr ss (c+6))
 | .l _ _::ss,c=>Nat.le_trans (by omega) (yr ss (c+6))
theorem Mf :∀(ss:List Seg),(∀s∈ss,Rj Φ ext s)→∀{c:Nat}{dn row:List PV}{t:List V},
 t[2]? =some (.one (.ptr 0 0 0))→t[3]? =some (.one (.ptr 1 0 0))→5≤c→NJ c ss≤t.length→aZ (gK ss) row→
 ∃t',aj (ag Φ ext) av (OR c dn.length ss) ⟨t,[.box ((dn++row).map .pv), .box ((dn++row).map .pv)]⟩=some (.ret,⟨t',[.box ((dn++row).map .pv), .box ((dn++row).map .pv)]⟩)∧t'[4]? =some (ar true)
 |[],_,c,dn,row,t,t2,t3,hc,hN,hr=>by
  simp only[NJ]at hN
  refine⟨t.set 4 (ar true),?_,List.getElem?_set_self (by omega)⟩
  simp only[OR,aj,ah,az,aH,bf,Opd.ev,put]
 |sg::ss,hss,c,dn,row,t,t2,t3,hc,hN,hr=>by
  obtain⟨a,b,rfl,ha,hb⟩:=j8 (ts:=sg.ts) hr
  have hal:=jp ha
  have hSeg:=hss sg (by simp)
  have ih:=fun{c dn row t}=>Mf ss (fun s m=>hss s (by simp[m])) (c:=c) (dn:=dn) (row:=row) (t:=t)
  rw[←List.append_assoc]
  generalize hh:[AObj.box ((dn++a++b).map L.pv), .box ((dn++a++b).map L.pv)]=hp
  have go:∀{ops:List AOper}{cn:Nat}{t':List V},OR c dn.length (sg::ss)= .seq (.seq (.region ops) (.cond (.tmp cn) JR .skip)) (OR (cn+1) (dn++a).length ss)→NJ c (sg::ss)=NJ (cn+1) ss→4≤cn→
   ah (ag Φ ext) ops ⟨t,hp⟩=some ⟨t',hp⟩→t'.length=t.length→t'[cn]? =some (ar false)→t'[2]? =t[2]? →t'[3]? =t[3]? →
   ∃t',aj (ag Φ ext) av (OR c dn.length (sg::ss)) ⟨t,hp⟩=some (.ret,⟨t',hp⟩)∧t'[4]? =some (ar true):=by
   intro ops cn t' e1 e2 e3 e4 e5 e6 e7 e8
   obtain⟨t'',f1,f2⟩:=ih (c:=cn+1) (dn:=dn++a) (row:=b) (t:=t') (e7.trans t2) (e8.trans t3) (by omega) (by rw[e5,←e2];exact hN) hb
   rw[hh]at f1
   refine⟨t'',?_,f2⟩
   rw[e1]
   simp only[aj,e4,Opd.ev,getD_some e6,isBool,Bool.false_eq_true,if_false]
   exact f1
  have hb0:hp[0]? =some (.box ((dn++a++b).map .pv)):=by rw[←hh];rfl
  have hb1:hp[1]? =some (.box ((dn++a++b).map .pv)):=by rw[←hh];rfl
  have ld:∀{n:Nat}{agg:Bool}{v:V},gu agg n dn.length ((dn++a++b).map .pv)=some v→c+3<t.length→∃T,ah (ag Φ ext) (li c 2 dn.length n agg++li (c+2) 3 dn.length n agg) ⟨t,hp⟩=some ⟨T,hp⟩∧T.length=t.length∧T.getD (c+1) (.tup [])=v∧T.getD (c+3) (.tup [])=v∧T[2]? =t[2]? ∧T[3]? =t[3]? :=by
   intro n agg v hcut hlt
   have el1:=pp (t:=t) (h:=hp) t2 (c:=c) (by omega) (by omega) hb0 hcut (ag Φ ext)
   have el2:=pp (t:=(t.set c (.one (.ptr 0 0 dn.length))).set (c+1) v) (h:=hp) (x:=3) (ox:=1) (by rw[List.getElem?_set_ne (by omega),List.getElem?_set_ne (by omega)];exact t3) (c:=c+2) (by omega) (by simp;omega) hb1 hcut (ag Φ ext)
   refine⟨_,(bJ _ _ _ el1).trans el2,by simp,?_,?_,?_,?_⟩
   ·rw[da (by omega),da (by omega)];exact aB (by simp;omega)
   ·exact aB (by simp;omega)
   ·rw[List.getElem?_set_ne (by omega),List.getElem?_set_ne (by omega),List.getElem?_set_ne (by omega),List.getElem?_set_ne (by omega)]
   ·rw[List.getElem?_set_ne (by omega),List.getElem?_set_ne (by omega),List.getElem?_set_ne (by omega),List.getElem?_set_ne (by omega)]
  have call:∀{n:Nat}{agg:Bool}{k:Nat}{v:V},OR c dn.length (sg::ss)= .seq (.seq (.region (li c 2 dn.length n agg++(li (c+2) 3 dn.length n agg++[⟨some (c+4), .call k [.tmp (c+1), .tmp (c+3)] true false,none⟩,⟨some (c+5), .un .not (.tmp (c+4)),none⟩]))) (.cond (.tmp (c+5)) JR .skip)) (OR (c+6) (dn++a).length ss)→NJ c (sg::ss)=NJ (c+6) ss→
   gu agg n dn.length ((dn++(a++b)).map .pv)=some v→(∀h,ap h [v,v]=some [v,v])→ag Φ ext k [v,v]=some (ar true)→
   ∃t',aj (ag Φ ext) av (OR c dn.length (sg::ss)) ⟨t,hp⟩=some (.ret,⟨t',hp⟩)∧t'[4]? =some (ar true):=by
   intro n agg k v e1 e2 e3 e4 e5
   have hcl:c+6≤t.length:=by have:=yr ss (c+6);omega
   rw[←List.append_assoc]at e3
   obtain⟨T,g1,g2,g3,g4,g5,g6⟩:=ld e3 (by omega)
   have q1:(T.set (c+4) (ar true)).getD (c+4) (.tup [])=ar true:=aB (by omega)
   refine go (cn:=c+5) (t':=(T.set (c+4) (ar true)).set (c+5) (ar false)) e1 e2 (by omega) ?_ (by simp[g2]) (List.getElem?_set_self (by simp;omega)) (by rw[List.getElem?_set_ne (by omega),List.getElem?_set_ne (by omega)];exact g5) (by rw[List.getElem?_set_ne (by omega),List.getElem?_set_ne (by omega)];exact g6)
   rw[←List.append_assoc,bJ _ _ _ g1]
   simp only[ah,az,aH,bf,Opd.ev,g3,g4,put,Bool.true_or,if_true,List.map_cons,List.map_nil,e4,e5,V.flat,L.flat,Bool.not_true,Bool.and_false,Bool.false_eq_true,if_false,dG,dk,q1,un]
  cases sg with
  |c ty=>
   simp only[Seg.ts,List.length_singleton]at hal ha
   obtain⟨p,rfl⟩:=List.length_eq_one_iff.1 hal
   have hlen:(dn++[p]).length=dn.length+1:=by simp
   have hcl:c+5≤t.length:=by have:=yr ss (c+5);simp only[NJ]at hN;omega
   have hcut:gu false 1 dn.length ((dn++[p]++b).map .pv)=some (.one (.pv p)):=by rw[List.append_assoc];exact lB (agg:=false) (a:=[p]) (.inr rfl)
   obtain⟨T,g1,g2,g3,g4,g5,g6⟩:=ld hcut (by omega)
   refine go (cn:=c+4) (t':=T.set (c+4) (ar false)) (by rw[hlen];rfl) rfl (by omega) ?_ (by simp[g2]) (List.getElem?_set_self (by omega)) (by rw[List.getElem?_set_ne (by omega)];exact g5) (by rw[List.getElem?_set_ne (by omega)];exact g6)
   rw[←List.append_assoc,bJ _ _ _ g1]
   cases ty with
   |lst us=>cases hSeg
   |int k=>obtain⟨n,rfl⟩:=km ha.1;simp only[ah,az,aH,bf,FM,Opd.ev,g3,g4,put,bin,if_true,bM,bne_self_eq_false]
   |bool=>obtain⟨n,rfl⟩:=j9 ha.1;simp only[ah,az,aH,bf,FM,Opd.ev,g3,g4,put,isBool,if_true,beq_self_eq_true,Bool.not_true]
   |str=>obtain⟨n,rfl⟩:=lu ha.1;simp only[ah,az,aH,bf,FM,Opd.ev,g3,g4,put,bin,iF,beq_self_eq_true,Bool.not_true]
  |s ts K=>
   simp only[Seg.ts]at hal ha
   have hlen:(dn++a).length=dn.length+ts.length:=by simp[hal]
   exact call (n:=ts.length) (agg:=true) (v:= .agg (a.map .pv)) (by rw[hlen];rfl) rfl (by rw[←hal];exact lB (agg:=true) (.inl rfl)) (fun h=>by simp only[ap,qT]) (hSeg a ha)
  |l ts K=>
   simp only[Seg.ts,List.length_singleton]at hal ha
   obtain⟨p,rfl⟩:=List.length_eq_one_iff.1 hal
   obtain⟨rows,rfl⟩:=ng ha.1
   have hlen:(dn++[PV.lst rows]).length=dn.length+1:=by simp
   exact call (n:=1) (agg:=false) (v:=bu rows) (by rw[hlen];rfl) rfl (lB (agg:=false) (a:=[.lst rows]) (.inr rfl)) (fun h=>rfl) (hSeg rows ha.1)
theorem cd {k:Nat}{ss:List Seg}(hk:Φ k=some (fg ss))(hss:∀s∈ss,Rj Φ ext s):jD Φ ext k (gK ss):=by
 intro r hr
 refine fQ hk ?_
 have hle:=yr ss 5
 obtain⟨m,hm⟩:∃m,NJ 5 ss-2=m+3:=⟨NJ 5 ss-5,by omega⟩
 have hpl:(r.map L.pv).all plain=true:=by simp[plain]
 obtain⟨t',e1,e2⟩:=Mf ss hss (c:=5) (dn:=[]) (row:=r) (t:=V.agg (r.map .pv)::V.agg (r.map .pv)::V.one (.ptr 0 0 0)::V.one (.ptr 1 0 0)::ar false::List.replicate m (.tup [])) rfl rfl (by omega) (by simp;omega) hr
 have hst:ft Φ ext (fg ss).body (start (fg ss) [.agg (r.map .pv), .agg (r.map .pv)])=some (.ret,⟨t',[.box (r.map .pv), .box (r.map .pv)]⟩):=by
  simp only[ft,fg,start,List.length_cons,List.length_nil,Nat.zero_add,Nat.reduceAdd,hm,aj,ah,az,aH,bf,bU,Opd.ev,put,List.replicate_succ,List.cons_append,List.nil_append,List.getD_cons_zero,List.getD_cons_succ,List.set_cons_succ,List.set_cons_zero,V.cells,hpl,if_true]
  exact e1
 rw[hst]
 simp only[done,fg,aV,au,bE,getD_some e2,List.flatMap_cons,List.flatMap_nil,List.append_nil,V.cells,bN,comp,aK,bq]
 simp[ai]
def Si (P:Seg→Prop):List Seg→Prop
 |[]=>True
 |s::ss=>P s∧Si P ss
theorem bc {P:Seg→Prop}:∀{ss:List Seg},Si P ss→∀s∈ss,P s
 |[],_,_,h=>by cases h
 |x::xs,h,s,hm=>by
  rcases List.mem_cons.1 hm with rfl|hm
  ·exact h.1
  ·exact bc h.2 s hm
theorem jm {k z kx:Nat}{ts:List PTy}(hk:Φ k=some (H7 z kx))(hz:ts.length=z)(hx:kd Φ ext kx ts):jT Φ ext k ts:=by
 intro rows h left h0 h1
 obtain⟨hl,hr⟩:=aL h
 rw[jc]
 exact R4 hk (fun r m=>by rw[jp (hr r m),hz]) hl (fun r m=>hx r (hr r m)) h0 h1
theorem Cc {k:Nat}{ts:List PTy}(hk:Φ k=some Rt)(ha:ts.all PTy.small=true):jT Φ ext k ts:=by
 intro rows h left h0 h1
 obtain⟨hl,hr⟩:=aL h
 rw[jc,AS ha hr]
 exact R3 hk hl h0 h1
theorem gW {k z kx:Nat}{ts:List PTy}(hk:Φ k=some (ny 27 (eV z kx)))(hz:ts.length=z)(hx:jD Φ ext kx ts):jS Φ ext k ts:=by
 intro rows h
 obtain⟨hl,hr⟩:=aL h
 exact RK hk (fun r m=>by rw[jp (hr r m),hz]) hl (fun r m=>hx r (hr r m))
theorem Ha {k:Nat}{t:PTy}(hk:Φ k=some (ny 26 nY))(ht:t.easy=true):jS Φ ext k [t]:=by
 intro rows h
 obtain⟨hl,hr⟩:=aL h
 obtain⟨qs,rfl⟩:=MO hr
 exact RJ hk (RV ht hr) (by simpa using hl)
end
end Gi
