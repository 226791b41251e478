/- Of this proof. -/
import Derived.Test.YtbeaonmepfkmmaaGreatGpd
set_option linter.unusedSimpArgs false
set_option linter.unusedVariables false
namespace Gi
open Go Go.RowKit
def EL (c ks:Nat):List AOper:=[⟨some (c+2), .mv (.tmp 1),none⟩,⟨some (c+3), .call ks [.tmp (c+1), .tmp (c+2)] true false,none⟩,⟨some 1, .mv (.tmp (c+3)),none⟩]
def Ir :Nat→Nat→List Seg→ACode
 |c,_,[]=> .seq (.region [⟨some c, .mv (.tmp 1),none⟩,⟨some 4, .mv (.tmp c),none⟩]) .ret
 |c,off, .c .str::ss=> .seq (.region (⟨some c, .mv (.tmp 1),none⟩::mz (c+1) 2 off 1 false++[⟨some (c+3), .lenS (.tmp (c+2)),none⟩,⟨some (c+4), .bin .sub (.tmp c) (.tmp (c+3)),none⟩,⟨some 1, .mv (.tmp (c+4)),none⟩])) (.seq (tJ (c+5)) (Ir (c+7) (off+1) ss))
 |c,off, .c _::ss=>Ir c (off+1) ss
 |c,off, .s ts K::ss=>if K.ks=0 then Ir c (off+ts.length) ss else .seq (.region (mz c 2 off ts.length true++EL c K.ks)) (.seq (tJ (c+4)) (Ir (c+6) (off+ts.length) ss))
 |c,off, .l _ K::ss=> .seq (.region (mz c 2 off 1 false++EL c K.ks)) (.seq (tJ (c+4)) (Ir (c+6) (off+1) ss))
def F8 :Nat→List Seg→Nat
 |c,[]=>c
 |c, .c .str::ss=>F8 (c+7) ss
 |c, .c _::ss=>F8 c ss
 |c, .s _ K::ss=>if K.ks=0 then F8 c ss else F8 (c+6) ss
 |c, .l _ _::ss=>F8 (c+6) ss
def gm (ss:List Seg):AFn:=⟨F8 5 ss+1,[.tmp 4], .seq (.region [⟨some 2, .box (.tmp 0),none⟩,⟨some 4, .mv (.pv (.int .i64 0)),none⟩]) (Ir 5 0 ss)⟩
def Kt :ACode:= .seq (.region [⟨some 4, .mv (.pv (.bool false)),none⟩]) .ret
def Sk (t:PTy)(x y:Opd):AOp:=match t with
 | .bool=> .eqB true x y
 |_=> .bin .neq x y
def PE :Nat→Nat→List Seg→ACode
 |_,_,[]=> .seq (.region [⟨some 4, .mv (.pv (.bool true)),none⟩]) .ret
 |c,off, .c t::ss=> .seq (.seq (.region (mz c 2 off 1 false++(mz (c+2) 3 off 1 false++[⟨some (c+4),Sk t (.tmp (c+1)) (.tmp (c+3)),none⟩]))) (.cond (.tmp (c+4)) Kt .skip)) (PE (c+5) (off+1) ss)
 |c,off, .s ts K::ss=> .seq (.seq (.region (mz c 2 off ts.length true++(mz (c+2) 3 off ts.length true++[⟨some (c+4), .call K.ke [.tmp (c+1), .tmp (c+3)] true false,none⟩,⟨some (c+5), .un .not (.tmp (c+4)),none⟩]))) (.cond (.tmp (c+5)) Kt .skip)) (PE (c+6) (off+ts.length) ss)
 |c,off, .l _ K::ss=> .seq (.seq (.region (mz c 2 off 1 false++(mz (c+2) 3 off 1 false++[⟨some (c+4), .call K.ke [.tmp (c+1), .tmp (c+3)] true false,none⟩,⟨some (c+5), .un .not (.tmp (c+4)),none⟩]))) (.cond (.tmp (c+5)) Kt .skip)) (PE (c+6) (off+1) ss)
def Ov :Nat→List Seg→Nat
 |c,[]=>c
 |c, .c _::ss=>Ov (c+5) ss
 |c,_::ss=>Ov (c+6) ss
def fS (ss:List Seg):AFn:=⟨Ov 5 ss,[.tmp 4], .seq (.region [⟨some 2, .box (.tmp 0),none⟩,⟨some 3, .box (.tmp 1),none⟩,⟨some 4, .mv (.pv (.bool false)),none⟩]) (PE 5 0 ss)⟩
section
variable {Φ:Nat→Option AFn}{ext:Nat→List V→Option V}
def la (Φ:Nat→Option AFn)(ext:Nat→List V→Option V)(k:Nat)(ts:List PTy):Prop:=∀r:List PV,cP ts r→CP Φ ext k r
def kT (Φ:Nat→Option AFn)(ext:Nat→List V→Option V)(k:Nat)(ts:List PTy):Prop:=
 ∀rows:List (List PV),zB (.lst ts) (.lst rows)→∀left:Int,0≤left→left≤1048576→ag Φ ext k [bi rows,ai .i64 left]=some (ai .i64 (less left (sz (.lst rows))))
def MP (Φ:Nat→Option AFn)(ext:Nat→List V→Option V):Seg→Prop
 | .c t=>t.flatT=true
 | .s ts K=>if K.ks=0 then ts.all PTy.small=true else la Φ ext K.ks ts
 | .l ts K=>kT Φ ext K.ks ts
theorem Sj {call:Nat→List V→Option V}{lp}{c:Nat}{t:List V}{h:List AObj}{l:Int}(h1:t[1]? =some (ai .i64 l))(hl:l<0)(hc:5≤c)(hlt:c+1<t.length):
 ∃t',aG call lp (tJ c) ⟨t,h⟩=some (.ret,⟨t',h⟩)∧t'[4]? =some (ai .i64 (-1)):=by
 have e1:t.getD 1 (.tup [])=ai .i64 l:=getD_some h1
 have e2:(t.set c (ai .i64 l)).getD c (.tup [])=ai .i64 l:=eh (by omega)
 have e3:((t.set c (ai .i64 l)).set (c+1) (aD true)).getD (c+1) (.tup [])=aD true:=eh (by simp;omega)
 refine⟨((t.set c (ai .i64 l)).set (c+1) (aD true)).set 4 (ai .i64 (-1)),?_,List.getElem?_set_self (by simp;omega)⟩
 simp only[tJ,aG,aK,bA,cI,bZ,Opd.ev,e1,put,e2,bin,if_true,ee,hl,decide_true,e3,isBool]
theorem Si {call:Nat→List V→Option V}{lp}{c:Nat}{t:List V}{h:List AObj}{l:Int}(h1:t[1]? =some (ai .i64 l))(hl:¬l<0)(hlt:c+1<t.length):
 aG call lp (tJ c) ⟨t,h⟩=some (.normal,⟨(t.set c (ai .i64 l)).set (c+1) (aD false),h⟩):=by
 have e1:t.getD 1 (.tup [])=ai .i64 l:=getD_some h1
 have e2:(t.set c (ai .i64 l)).getD c (.tup [])=ai .i64 l:=eh (by omega)
 have e3:((t.set c (ai .i64 l)).set (c+1) (aD false)).getD (c+1) (.tup [])=aD false:=eh (by simp;omega)
 simp only[tJ,aG,aK,bA,cI,bZ,Opd.ev,e1,put,e2,bin,if_true,ee,hl,decide_false,e3,isBool,Bool.false_eq_true,if_false]
theorem qF :∀(ss:List Seg)(c:Nat),c≤F8 c ss
 |[],c=>Nat.le_refl _
 | .c .str::ss,c=>Nat.le_trans (by omega) (qF ss (c+7))
 | .c (.int _)::ss,c=>qF ss c
 | .c .bool::ss,c=>qF ss c
 | .c (.lst _)::ss,c=>qF ss c
 | .s _ K::ss,c=>by
  simp only[F8]
  split
  ·exact qF ss c
  ·exact Nat.le_trans (by omega) (qF ss (c+6))
 | .l _ _::ss,c=>Nat.le_trans (by omega) (qF ss (c+6))
theorem NH :∀(ss:List Seg),(∀s∈ss,MP Φ ext s)→∀{c:Nat}{dn row:List PV}{t:List V}{left:Int},
 t[1]? =some (ai .i64 left)→t[2]? =some (.one (.ptr 0 0 0))→0≤left→left≤1048576→5≤c→F8 c ss<t.length→cP (iA ss) row→
 ∃t',aG (ag Φ ext) aV (Ir c dn.length ss) ⟨t,[.box ((dn++row).map .pv)]⟩=some (.ret,⟨t',[.box ((dn++row).map .pv)]⟩)∧t'[4]? =some (ai .i64 (less left (gM row)))
 |[],_,c,dn,row,t,left,t1,t2,h0,h1,hc,hN,hr=>by
  obtain rfl:=ju hr
  simp only[F8]at hN
  have e1:t.getD 1 (.tup [])=ai .i64 left:=getD_some t1
  have e2:(t.set c (ai .i64 left)).getD c (.tup [])=ai .i64 left:=eh hN
  have hl:less left (gM [])=left:=by
   have e0:gM []=0:=by simp only[gM]
   rw[e0];unfold less;rw[if_neg (by omega)];omega
  refine⟨(t.set c (ai .i64 left)).set 4 (ai .i64 left),?_,by rw[hl];exact List.getElem?_set_self (by simp;omega)⟩
  simp only[Ir,aG,aK,bA,cI,bZ,Opd.ev,e1,put,e2]
 |sg::ss,hss,c,dn,row,t,left,t1,t2,h0,h1,hc,hN,hr=>by
  obtain⟨a,b,rfl,ha,hb⟩:=xO (ts:=sg.ts) hr
  have hal:=p5 ha
  have hsz:=EN a b
  have hSeg:=hss sg (by simp)
  have ih:=fun{c dn row t left}=>NH ss (fun s m=>hss s (by simp[m])) (c:=c) (dn:=dn) (row:=row) (t:=t) (left:=left)
  rw[←List.append_assoc]
  have skip:∀{c':Nat},gM a=0→Ir c dn.length (sg::ss)=Ir c (dn++a).length ss→F8 c (sg::ss)=F8 c ss→
   ∃t',aG (ag Φ ext) aV (Ir c dn.length (sg::ss)) ⟨t,[.box ((dn++a++b).map .pv)]⟩=some (.ret,⟨t',[.box ((dn++a++b).map .pv)]⟩)∧t'[4]? =some (ai .i64 (less left (gM (a++b)))):=by
   intro _ e0 e1 e2
   rw[e1,hsz,e0,Nat.zero_add]
   exact ih t1 t2 h0 h1 hc (by rw[←e2];exact hN) hb
  have go:∀{ops:List AOper}{cn cm:Nat}{t':List V}{l:Int},Ir c dn.length (sg::ss)= .seq (.region ops) (.seq (tJ cn) (Ir (cn+2) (dn++a).length ss))→F8 c (sg::ss)=F8 (cn+2) ss→5≤cn→
   aK (ag Φ ext) ops ⟨t,[.box ((dn++a++b).map .pv)]⟩=some ⟨t',[.box ((dn++a++b).map .pv)]⟩→t'.length=t.length→t'[1]? =some (ai .i64 l)→t'[2]? =some (.one (.ptr 0 0 0))→(l<0→less left (gM a)= -1)→(¬l<0→l=less left (gM a))→
   ∃t',aG (ag Φ ext) aV (Ir c dn.length (sg::ss)) ⟨t,[.box ((dn++a++b).map .pv)]⟩=some (.ret,⟨t',[.box ((dn++a++b).map .pv)]⟩)∧t'[4]? =some (ai .i64 (less left (gM (a++b)))):=by
   intro ops cn cm t' l e1 e2 e3 e4 e5 e6 e7 e8 e9
   have hcl:cn+1<t'.length:=by have:=qF ss (cn+2);omega
   rw[e1,hsz]
   by_cases hn:l<0
   ·obtain⟨t'',g1,g2⟩:=Sj (call:=ag Φ ext) (lp:=aV) (h:=[.box ((dn++a++b).map .pv)]) e6 hn e3 hcl
    refine⟨t'',?_,?_⟩
    ·simp only[aG,e4,g1]
    ·rw[g2,J2 (b:=gM b) h0 (by rw[e8 hn];omega)]
   ·have g1:=Si (call:=ag Φ ext) (lp:=aV) (h:=[.box ((dn++a++b).map .pv)]) e6 hn hcl
    have hge:0≤less left (gM a):=by rw[←e9 hn];omega
    obtain⟨t'',f1,f2⟩:=ih (c:=cn+2) (dn:=dn++a) (row:=b) (t:=(t'.set cn (ai .i64 l)).set (cn+1) (aD false)) (left:=l) (by rw[List.getElem?_set_ne (by omega),List.getElem?_set_ne (by omega)];exact e6) (by rw[List.getElem?_set_ne (by omega),List.getElem?_set_ne (by omega)];exact e7) (by omega) (by have:=Nj (a:=gM a) h0;rw[e9 hn];omega) (by omega) (by simp[e5];rw[←e2];exact hN) hb
    refine⟨t'',?_,?_⟩
    ·simp only[aG,e4,g1]
     exact f1
    ·rw[f2,←sF hge,e9 hn]
  have call:∀{n:Nat}{agg:Bool}{k:Nat}{v:V},Ir c dn.length (sg::ss)= .seq (.region (mz c 2 dn.length n agg++EL c k)) (.seq (tJ (c+4)) (Ir (c+6) (dn++a).length ss))→F8 c (sg::ss)=F8 (c+6) ss→
   gD agg n dn.length ((dn++(a++b)).map .pv)=some v→(∀h i,au h [v,ai .i64 i]=some [v,ai .i64 i])→ag Φ ext k [v,ai .i64 left]=some (ai .i64 (less left (gM a)))→
   ∃t',aG (ag Φ ext) aV (Ir c dn.length (sg::ss)) ⟨t,[.box ((dn++a++b).map .pv)]⟩=some (.ret,⟨t',[.box ((dn++a++b).map .pv)]⟩)∧t'[4]? =some (ai .i64 (less left (gM (a++b)))):=by
   intro n agg k v e1 e2 e3 e4 e5
   have hcl:c+5<t.length:=by have:=qF ss (c+6);omega
   rw[←List.append_assoc]at e3
   have el:=qA (t:=t) (h:=[.box ((dn++a++b).map .pv)]) t2 (c:=c) (by omega) (by omega) rfl e3 (ag Φ ext)
   generalize hh:[AObj.box ((dn++a++b).map L.pv)]=hp at el go⊢
   have q1:((t.set c (V.one (.ptr 0 0 dn.length))).set (c+1) v).getD 1 (.tup [])=ai .i64 left:=by rw[n8 (by omega),n8 (by omega)];exact getD_some t1
   have q2:(((t.set c (V.one (.ptr 0 0 dn.length))).set (c+1) v).set (c+2) (ai .i64 left)).getD (c+1) (.tup [])=v:=by rw[n8 (by omega)];exact eh (by simp;omega)
   have q3:(((t.set c (V.one (.ptr 0 0 dn.length))).set (c+1) v).set (c+2) (ai .i64 left)).getD (c+2) (.tup [])=ai .i64 left:=eh (by simp;omega)
   have q4:((((t.set c (V.one (.ptr 0 0 dn.length))).set (c+1) v).set (c+2) (ai .i64 left)).set (c+3) (ai .i64 (less left (gM a)))).getD (c+3) (.tup [])=ai .i64 (less left (gM a)):=eh (by simp;omega)
   refine go (ops:=mz c 2 dn.length n agg++EL c k) (cn:=c+4) (cm:=0) (l:=less left (gM a)) (t':=((((t.set c (V.one (.ptr 0 0 dn.length))).set (c+1) v).set (c+2) (ai .i64 left)).set (c+3) (ai .i64 (less left (gM a)))).set 1 (ai .i64 (less left (gM a)))) e1 e2 (by omega) ?_ (by simp) (List.getElem?_set_self (by simp;omega)) ?_ (fun hn=>Ni hn h0) (fun _=>rfl)
   ·rw[iw _ _ _ el]
    simp only[EL,aK,bA,cI,bZ,Opd.ev,q1,put,Bool.true_or,if_true,List.map_cons,List.map_nil,q2,q3,e4,e5,V.flat,L.flat,Bool.not_true,Bool.and_false,Bool.false_eq_true,if_false,cZ,cV,q4]
   ·rw[List.getElem?_set_ne (by omega),List.getElem?_set_ne (by omega),List.getElem?_set_ne (by omega),List.getElem?_set_ne (by omega),List.getElem?_set_ne (by omega)];exact t2
  cases sg with
  |c ty=>
   simp only[Seg.ts,List.length_singleton]at hal ha
   obtain⟨p,rfl⟩:=List.length_eq_one_iff.1 hal
   have hlen:(dn++[p]).length=dn.length+1:=by simp
   cases ty with
   |lst us=>cases hSeg
   |int k=>
    obtain⟨n,rfl⟩:=qU ha.1
    exact skip (c':=0) (by simp only[gM,sz]) (by rw[hlen];rfl) rfl
   |bool=>
    obtain⟨n,rfl⟩:=p6 ha.1
    exact skip (c':=0) (by simp only[gM,sz]) (by rw[hlen];rfl) rfl
   |str=>
    obtain⟨s,rfl⟩:=py ha.1
    have hs:s.length≤maxLen:=ha.1
    unfold maxLen at hs
    have hza:gM [PV.str s]=s.length:=by simp only[gM,sz,Nat.add_zero]
    have hcl:c+7<t.length:=by have:=qF ss (c+7);simp only[F8]at hN;omega
    have hw:IntKind.i64.wrap (left-(s.length:Int))=left-s.length:=by rw[IntKind.wrap_i64];omega
    have hcut:gD false 1 dn.length ((dn++[PV.str s]++b).map .pv)=some (di s):=by rw[List.append_assoc];exact pB (agg:=false) (a:=[.str s]) (.inr rfl)
    have el:=qA (x:=2) (ox:=0) (t:=t.set c (ai .i64 left)) (h:=[.box ((dn++[PV.str s]++b).map .pv)]) (by rw[List.getElem?_set_ne (by omega)];exact t2) (c:=c+1) (by omega) (by simp;omega) rfl hcut (ag Φ ext)
    generalize hh:[AObj.box ((dn++[PV.str s]++b).map L.pv)]=hp at el go⊢
    have q1:t.getD 1 (.tup [])=ai .i64 left:=getD_some t1
    generalize hT:((t.set c (ai .i64 left)).set (c+1) (V.one (.ptr 0 0 dn.length))).set (c+1+1) (di s)=T at el
    have lT:T.length=t.length:=by rw[←hT];simp
    have q2:T.getD (c+2) (.tup [])=di s:=by rw[←hT];exact eh (by simp;omega)
    have q3:(T.set (c+3) (ai .i64 s.length)).getD c (.tup [])=ai .i64 left:=by rw[n8 (by omega),←hT,n8 (by omega),n8 (by omega)];exact eh (by omega)
    have q4:(T.set (c+3) (ai .i64 s.length)).getD (c+3) (.tup [])=ai .i64 s.length:=eh (by omega)
    have q5:((T.set (c+3) (ai .i64 s.length)).set (c+4) (ai .i64 (left-s.length))).getD (c+4) (.tup [])=ai .i64 (left-s.length):=eh (by simp;omega)
    refine go (cn:=c+5) (cm:=0) (l:=left-s.length) (t':=((T.set (c+3) (ai .i64 s.length)).set (c+4) (ai .i64 (left-s.length))).set 1 (ai .i64 (left-s.length))) (by rw[hlen];rfl) rfl (by omega) ?_ (by simp[lT]) (List.getElem?_set_self (by simp;omega)) ?_ (fun hn=>by rw[hza];exact Se (by omega)) (fun hn=>by rw[hza];unfold less;rw[if_neg (by omega)])
    ·simp only[List.cons_append,aK]
     simp only[bA,cI,bZ,Opd.ev,q1,put]
     rw[iw _ _ _ el]
     simp only[aK,bA,cI,bZ,Opd.ev,q2,isStr,put,q3,q4,bin,if_true,ee,hw,q5]
    ·rw[List.getElem?_set_ne (by omega),List.getElem?_set_ne (by omega),List.getElem?_set_ne (by omega),←hT,List.getElem?_set_ne (by omega),List.getElem?_set_ne (by omega),List.getElem?_set_ne (by omega)];exact t2
  |s ts K=>
   simp only[Seg.ts]at hal ha
   have hlen:(dn++a).length=dn.length+ts.length:=by simp[hal]
   by_cases hk:K.ks=0
   ·simp only[MP,hk,if_true]at hSeg
    exact skip (c':=0) (EO hSeg ha) (by rw[hlen];simp only[Ir,hk,if_true]) (by simp only[F8,hk,if_true])
   ·simp only[MP,hk,if_false]at hSeg
    exact call (n:=ts.length) (agg:=true) (v:= .agg (a.map .pv)) (by rw[hlen];simp only[Ir,hk,if_false]) (by simp only[F8,hk,if_false]) (by rw[←hal];exact pB (agg:=true) (.inl rfl)) (fun h i=>by simp only[au,vw];rfl) (hSeg a ha left h0 h1)
  |l ts K=>
   simp only[Seg.ts,List.length_singleton]at hal ha
   obtain⟨p,rfl⟩:=List.length_eq_one_iff.1 hal
   obtain⟨rows,rfl⟩:=vy ha.1
   have hlen:(dn++[PV.lst rows]).length=dn.length+1:=by simp
   exact call (n:=1) (agg:=false) (v:=bi rows) (by rw[hlen];rfl) rfl (pB (agg:=false) (a:=[.lst rows]) (.inr rfl)) (fun h i=>rfl) (by have:=hSeg rows ha.1 left h0 h1;simpa only[gM,Nat.add_zero]using this)
theorem dh {k:Nat}{ss:List Seg}(hk:Φ k=some (gm ss))(hss:∀s∈ss,MP Φ ext s):la Φ ext k (iA ss):=by
 intro r hr left h0 h1
 refine gA hk ?_
 have hle:=qF ss 5
 obtain⟨m,hm⟩:∃m,F8 5 ss+1-2=m+4:=⟨F8 5 ss-5,by omega⟩
 have hpl:(r.map L.pv).all plain=true:=by simp[plain]
 obtain⟨t',e1,e2⟩:=NH ss hss (c:=5) (dn:=[]) (row:=r) (t:=V.agg (r.map .pv)::ai .i64 left::V.one (.ptr 0 0 0):: .tup []::ai .i64 0::List.replicate (m+1) (.tup [])) (left:=left) rfl rfl h0 h1 (by omega) (by simp;omega) hr
 have hst:mr Φ ext (gm ss).body (start (gm ss) [.agg (r.map .pv),ai .i64 left])=some (.ret,⟨t',[.box (r.map .pv)]⟩):=by
  simp only[mr,gm,start,List.length_cons,List.length_nil,Nat.zero_add,Nat.reduceAdd,hm,aG,aK,bA,cI,bZ,cJ,Opd.ev,put,List.replicate_succ,List.cons_append,List.nil_append,List.getD_cons_zero,List.set_cons_succ,List.set_cons_zero,V.cells,hpl,if_true]
  exact e1
 rw[hst]
 simp only[done,gm,aT,az,dO,getD_some e2,List.flatMap_cons,List.flatMap_nil,List.append_nil,V.cells,b6,comp,aN,bU]
 simp[aw]
def kD (Φ:Nat→Option AFn)(ext:Nat→List V→Option V)(k:Nat)(ts:List PTy):Prop:=
 ∀r:List PV,cP ts r→ag Φ ext k [.agg (r.map .pv), .agg (r.map .pv)]=some (aD true)
def kS (Φ:Nat→Option AFn)(ext:Nat→List V→Option V)(k:Nat)(ts:List PTy):Prop:=
 ∀rows:List (List PV),zB (.lst ts) (.lst rows)→ag Φ ext k [bi rows,bi rows]=some (aD true)
def SD (Φ:Nat→Option AFn)(ext:Nat→List V→Option V):Seg→Prop
 | .c t=>t.flatT=true
 | .s ts K=>kD Φ ext K.ke ts
 | .l ts K=>kS Φ ext K.ke ts
theorem zR :∀(ss:List Seg)(c:Nat),c≤Ov c ss
 |[],c=>Nat.le_refl _
 | .c _::ss,c=>Nat.le_trans (by omega) (zR ss (c+5))
 | .s _ _::ss,c=>Nat.le_trans (by omega) (zR ss (c+6))
 | .l _ _::ss,c=>Nat.le_trans (by omega) (zR ss (c+6))
theorem M4 :∀(ss:List Seg),(∀s∈ss,SD Φ ext s)→∀{c:Nat}{dn row:List PV}{t:List V},
 t[2]? =some (.one (.ptr 0 0 0))→t[3]? =some (.one (.ptr 1 0 0))→5≤c→Ov c ss≤t.length→cP (iA ss) row→
 ∃t',aG (ag Φ ext) aV (PE c dn.length ss) ⟨t,[.box ((dn++row).map .pv), .box ((dn++row).map .pv)]⟩=some (.ret,⟨t',[.box ((dn++row).map .pv), .box ((dn++row).map .pv)]⟩)∧t'[4]? =some (aD true)
 |[],_,c,dn,row,t,t2,t3,hc,hN,hr=>by
  simp only[Ov]at hN
  refine⟨t.set 4 (aD true),?_,List.getElem?_set_self (by omega)⟩
  simp only[PE,aG,aK,bA,cI,bZ,Opd.ev,put]
 |sg::ss,hss,c,dn,row,t,t2,t3,hc,hN,hr=>by
  obtain⟨a,b,rfl,ha,hb⟩:=xO (ts:=sg.ts) hr
  have hal:=p5 ha
  have hSeg:=hss sg (by simp)
  have ih:=fun{c dn row t}=>M4 ss (fun s m=>hss s (by simp[m])) (c:=c) (dn:=dn) (row:=row) (t:=t)
  rw[←List.append_assoc]
  generalize hh:[AObj.box ((dn++a++b).map L.pv), .box ((dn++a++b).map L.pv)]=hp
  have go:∀{ops:List AOper}{cn:Nat}{t':List V},PE c dn.length (sg::ss)= .seq (.seq (.region ops) (.cond (.tmp cn) Kt .skip)) (PE (cn+1) (dn++a).length ss)→Ov c (sg::ss)=Ov (cn+1) ss→4≤cn→
   aK (ag Φ ext) ops ⟨t,hp⟩=some ⟨t',hp⟩→t'.length=t.length→t'[cn]? =some (aD false)→t'[2]? =t[2]? →t'[3]? =t[3]? →
   ∃t',aG (ag Φ ext) aV (PE c dn.length (sg::ss)) ⟨t,hp⟩=some (.ret,⟨t',hp⟩)∧t'[4]? =some (aD true):=by
   intro ops cn t' e1 e2 e3 e4 e5 e6 e7 e8
   obtain⟨t'',f1,f2⟩:=ih (c:=cn+1) (dn:=dn++a) (row:=b) (t:=t') (e7.trans t2) (e8.trans t3) (by omega) (by rw[e5,←e2];exact hN) hb
   rw[hh]at f1
   refine⟨t'',?_,f2⟩
   rw[e1]
   simp only[aG,e4,Opd.ev,getD_some e6,isBool,Bool.false_eq_true,if_false]
   exact f1
  have hb0:hp[0]? =some (.box ((dn++a++b).map .pv)):=by rw[←hh];rfl
  have hb1:hp[1]? =some (.box ((dn++a++b).map .pv)):=by rw[←hh];rfl
  have ld:∀{n:Nat}{agg:Bool}{v:V},gD agg n dn.length ((dn++a++b).map .pv)=some v→c+3<t.length→∃T,aK (ag Φ ext) (mz c 2 dn.length n agg++mz (c+2) 3 dn.length n agg) ⟨t,hp⟩=some ⟨T,hp⟩∧T.length=t.length∧T.getD (c+1) (.tup [])=v∧T.getD (c+3) (.tup [])=v∧T[2]? =t[2]? ∧T[3]? =t[3]? :=by
   intro n agg v hcut hlt
   have el1:=qA (t:=t) (h:=hp) t2 (c:=c) (by omega) (by omega) hb0 hcut (ag Φ ext)
   have el2:=qA (t:=(t.set c (.one (.ptr 0 0 dn.length))).set (c+1) v) (h:=hp) (x:=3) (ox:=1) (by rw[List.getElem?_set_ne (by omega),List.getElem?_set_ne (by omega)];exact t3) (c:=c+2) (by omega) (by simp;omega) hb1 hcut (ag Φ ext)
   refine⟨_,(iw _ _ _ el1).trans el2,by simp,?_,?_,?_,?_⟩
   ·rw[n8 (by omega),n8 (by omega)];exact eh (by simp;omega)
   ·exact eh (by simp;omega)
   ·rw[List.getElem?_set_ne (by omega),List.getElem?_set_ne (by omega),List.getElem?_set_ne (by omega),List.getElem?_set_ne (by omega)]
   ·rw[List.getElem?_set_ne (by omega),List.getElem?_set_ne (by omega),List.getElem?_set_ne (by omega),List.getElem?_set_ne (by omega)]
  have call:∀{n:Nat}{agg:Bool}{k:Nat}{v:V},PE c dn.length (sg::ss)= .seq (.seq (.region (mz c 2 dn.length n agg++(mz (c+2) 3 dn.length n agg++[⟨some (c+4), .call k [.tmp (c+1), .tmp (c+3)] true false,none⟩,⟨some (c+5), .un .not (.tmp (c+4)),none⟩]))) (.cond (.tmp (c+5)) Kt .skip)) (PE (c+6) (dn++a).length ss)→Ov c (sg::ss)=Ov (c+6) ss→
   gD agg n dn.length ((dn++(a++b)).map .pv)=some v→(∀h,au h [v,v]=some [v,v])→ag Φ ext k [v,v]=some (aD true)→
   ∃t',aG (ag Φ ext) aV (PE c dn.length (sg::ss)) ⟨t,hp⟩=some (.ret,⟨t',hp⟩)∧t'[4]? =some (aD true):=by
   intro n agg k v e1 e2 e3 e4 e5
   have hcl:c+6≤t.length:=by have:=zR ss (c+6);omega
   rw[←List.append_assoc]at e3
   obtain⟨T,g1,g2,g3,g4,g5,g6⟩:=ld e3 (by omega)
   have q1:(T.set (c+4) (aD true)).getD (c+4) (.tup [])=aD true:=eh (by omega)
   refine go (cn:=c+5) (t':=(T.set (c+4) (aD true)).set (c+5) (aD false)) e1 e2 (by omega) ?_ (by simp[g2]) (List.getElem?_set_self (by simp;omega)) (by rw[List.getElem?_set_ne (by omega),List.getElem?_set_ne (by omega)];exact g5) (by rw[List.getElem?_set_ne (by omega),List.getElem?_set_ne (by omega)];exact g6)
   rw[←List.append_assoc,iw _ _ _ g1]
   simp only[aK,bA,cI,bZ,Opd.ev,g3,g4,put,Bool.true_or,if_true,List.map_cons,List.map_nil,e4,e5,V.flat,L.flat,Bool.not_true,Bool.and_false,Bool.false_eq_true,if_false,cZ,cV,q1,un]
  cases sg with
  |c ty=>
   simp only[Seg.ts,List.length_singleton]at hal ha
   obtain⟨p,rfl⟩:=List.length_eq_one_iff.1 hal
   have hlen:(dn++[p]).length=dn.length+1:=by simp
   have hcl:c+5≤t.length:=by have:=zR ss (c+5);simp only[Ov]at hN;omega
   have hcut:gD false 1 dn.length ((dn++[p]++b).map .pv)=some (.one (.pv p)):=by rw[List.append_assoc];exact pB (agg:=false) (a:=[p]) (.inr rfl)
   obtain⟨T,g1,g2,g3,g4,g5,g6⟩:=ld hcut (by omega)
   refine go (cn:=c+4) (t':=T.set (c+4) (aD false)) (by rw[hlen];rfl) rfl (by omega) ?_ (by simp[g2]) (List.getElem?_set_self (by omega)) (by rw[List.getElem?_set_ne (by omega)];exact g5) (by rw[List.getElem?_set_ne (by omega)];exact g6)
   rw[←List.append_assoc,iw _ _ _ g1]
   cases ty with
   |lst us=>cases hSeg
   |int k=>obtain⟨n,rfl⟩:=qU ha.1;simp only[aK,bA,cI,bZ,Sk,Opd.ev,g3,g4,put,bin,if_true,ee,bne_self_eq_false]
   |bool=>obtain⟨n,rfl⟩:=p6 ha.1;simp only[aK,bA,cI,bZ,Sk,Opd.ev,g3,g4,put,isBool,if_true,beq_self_eq_true,Bool.not_true]
   |str=>obtain⟨n,rfl⟩:=py ha.1;simp only[aK,bA,cI,bZ,Sk,Opd.ev,g3,g4,put,bin,j3,beq_self_eq_true,Bool.not_true]
  |s ts K=>
   simp only[Seg.ts]at hal ha
   have hlen:(dn++a).length=dn.length+ts.length:=by simp[hal]
   exact call (n:=ts.length) (agg:=true) (v:= .agg (a.map .pv)) (by rw[hlen];rfl) rfl (by rw[←hal];exact pB (agg:=true) (.inl rfl)) (fun h=>by simp only[au,vw]) (hSeg a ha)
  |l ts K=>
   simp only[Seg.ts,List.length_singleton]at hal ha
   obtain⟨p,rfl⟩:=List.length_eq_one_iff.1 hal
   obtain⟨rows,rfl⟩:=vy ha.1
   have hlen:(dn++[PV.lst rows]).length=dn.length+1:=by simp
   exact call (n:=1) (agg:=false) (v:=bi rows) (by rw[hlen];rfl) rfl (pB (agg:=false) (a:=[.lst rows]) (.inr rfl)) (fun h=>rfl) (hSeg rows ha.1)
theorem cW {k:Nat}{ss:List Seg}(hk:Φ k=some (fS ss))(hss:∀s∈ss,SD Φ ext s):kD Φ ext k (iA ss):=by
 intro r hr
 refine gA hk ?_
 have hle:=zR ss 5
 obtain⟨m,hm⟩:∃m,Ov 5 ss-2=m+3:=⟨Ov 5 ss-5,by omega⟩
 have hpl:(r.map L.pv).all plain=true:=by simp[plain]
 obtain⟨t',e1,e2⟩:=M4 ss hss (c:=5) (dn:=[]) (row:=r) (t:=V.agg (r.map .pv)::V.agg (r.map .pv)::V.one (.ptr 0 0 0)::V.one (.ptr 1 0 0)::aD false::List.replicate m (.tup [])) rfl rfl (by omega) (by simp;omega) hr
 have hst:mr Φ ext (fS ss).body (start (fS ss) [.agg (r.map .pv), .agg (r.map .pv)])=some (.ret,⟨t',[.box (r.map .pv), .box (r.map .pv)]⟩):=by
  simp only[mr,fS,start,List.length_cons,List.length_nil,Nat.zero_add,Nat.reduceAdd,hm,aG,aK,bA,cI,bZ,cJ,Opd.ev,put,List.replicate_succ,List.cons_append,List.nil_append,List.getD_cons_zero,List.getD_cons_succ,List.set_cons_succ,List.set_cons_zero,V.cells,hpl,if_true]
  exact e1
 rw[hst]
 simp only[done,fS,aT,az,dO,getD_some e2,List.flatMap_cons,List.flatMap_nil,List.append_nil,V.cells,b6,comp,aN,bU]
 simp[aw]
def TQ (P:Seg→Prop):List Seg→Prop
 |[]=>True
 |s::ss=>P s∧TQ P ss
theorem bL {P:Seg→Prop}:∀{ss:List Seg},TQ P ss→∀s∈ss,P s
 |[],_,_,h=>by cases h
 |x::xs,h,s,hm=>by
  rcases List.mem_cons.1 hm with rfl|hm
  ·exact h.1
  ·exact bL h.2 s hm
theorem jX {k z kx:Nat}{ts:List PTy}(hk:Φ k=some (Ix z kx))(hz:ts.length=z)(hx:la Φ ext kx ts):kT Φ ext k ts:=by
 intro rows h left h0 h1
 obtain⟨hl,hr⟩:=bz h
 rw[pj]
 exact Tz hk (fun r m=>by rw[p5 (hr r m),hz]) hl (fun r m=>hx r (hr r m)) h0 h1
theorem CL {k:Nat}{ts:List PTy}(hk:Φ k=some S0)(ha:ts.all PTy.small=true):kT Φ ext k ts:=by
 intro rows h left h0 h1
 obtain⟨hl,hr⟩:=bz h
 rw[pj,Bx ha hr]
 exact Ty hk hl h0 h1
theorem iL {k z kx:Nat}{ts:List PTy}(hk:Φ k=some (oV 27 (fC z kx)))(hz:ts.length=z)(hx:kD Φ ext kx ts):kS Φ ext k ts:=by
 intro rows h
 obtain⟨hl,hr⟩:=bz h
 exact Tk hk (fun r m=>by rw[p5 (hr r m),hz]) hl (fun r m=>hx r (hr r m))
theorem Hs {k:Nat}{t:PTy}(hk:Φ k=some (oV 26 pD))(ht:t.easy=true):kS Φ ext k [t]:=by
 intro rows h
 obtain⟨hl,hr⟩:=bz h
 obtain⟨qs,rfl⟩:=NG hr
 exact Ti hk (Tr ht hr) (by simpa using hl)
end
section
variable (mT:Int→List UInt8)
mutual
def UQ :PV→Int→PV×Int
 | .int κ _,k=>(.int κ (κ.wrap k),k+1)
 | .bool _,k=>(.bool (k.tmod 3==0),k+1)
 | .str _,k=>(.str (mT k),k+1)
 | .lst rows,k=>(.lst (Rz rows k).1,(Rz rows k).2)
def Ug :List PV→Int→List PV×Int
 |[],k=>([],k)
 |p::ps,k=>((UQ p k).1::(Ug ps (UQ p k).2).1,(Ug ps (UQ p k).2).2)
def Rz :List (List PV)→Int→List (List PV)×Int
 |[],k=>([],k)
 |r::rs,k=>((Ug r k).1::(Rz rs (Ug r k).2).1,(Rz rs (Ug r k).2).2)
end
end
structure MC where
 p:List Nat
 f:Nat
section
variable {Φ:Nat→Option AFn}{ext:Nat→List V→Option V}{mT:Int→List UInt8}{mt:Nat}
structure MkSt (i:Nat) (k:Int) (t:List V):Prop where
 t0:t[0]? =some (.one (.arr 0))
 t1:t[1]? =some (ai .i64 k)
 t5:t[5]? =some (ai .i64 i)
end
section
variable {Φ:Nat→Option AFn}{ext:Nat→List V→Option V}{mT:Int→List UInt8}{mt:Nat}
end
section
variable (mT:Int→List UInt8)
end
def S3 :List PTy→List PV→List AObj
 | .lst us::ts, .lst rows::ps=> .zarr us.length rows::S3 ts ps
 |_::ts,_::ps=>S3 ts ps
 |_,_=>[]
def RN :Nat→List PTy→List PV→List L
 |j, .lst us::ts, .lst rows::ps=> .arr j::RN (j+1) ts ps
 |j,_::ts,p::ps=> .pv p::RN j ts ps
 |_,_,_=>[]
theorem vS {P:List PTy→List PV→Prop}(nil:P [] [])(lst:∀us rows ts ps,zB (.lst us) (.lst rows)→cP ts ps→P ts ps→P (.lst us::ts) (.lst rows::ps))(flat:∀t p ts ps,zB t p→t.flatT=true→p.flat=true→cP ts ps→P ts ps→P (t::ts) (p::ps)):∀(ts:List PTy)(ps:List PV),cP ts ps→P ts ps
 |[],ps,h=>by rw[ju h];exact nil
 | .lst us::ts,ps,h=>by
  obtain⟨p,r,rfl,h1,h2⟩:=fk h
  obtain⟨rows,rfl⟩:=vy h1
  exact lst us rows ts r h1 h2 (vS nil lst flat ts r h2)
 | .int κ::ts,ps,h=>by
  obtain⟨p,r,rfl,h1,h2⟩:=fk h
  obtain⟨n,rfl⟩:=qU h1
  exact flat _ _ ts r h1 rfl rfl h2 (vS nil lst flat ts r h2)
 | .bool::ts,ps,h=>by
  obtain⟨p,r,rfl,h1,h2⟩:=fk h
  obtain⟨n,rfl⟩:=p6 h1
  exact flat _ _ ts r h1 rfl rfl h2 (vS nil lst flat ts r h2)
 | .str::ts,ps,h=>by
  obtain⟨p,r,rfl,h1,h2⟩:=fk h
  obtain⟨n,rfl⟩:=py h1
  exact flat _ _ ts r h1 rfl rfl h2 (vS nil lst flat ts r h2)
theorem Rw {t:PTy}{p:PV}{ts:List PTy}{ps:List PV}(ht:t.flatT=true):S3 (t::ts) (p::ps)=S3 ts ps:=by cases t<;>first|rfl|cases ht
theorem P2 {t:PTy}{p:PV}{ts:List PTy}{ps:List PV}{j:Nat}(ht:t.flatT=true):RN j (t::ts) (p::ps)= .pv p::RN j ts ps:=by cases t<;>first|rfl|cases ht
inductive MS where
 |k (ts:List PTy)
 |s (ts:List PTy) (f:Nat)
 |l (us:List PTy) (f:Nat)
def MS.ts :MS→List PTy
 | .k ts=>ts
 | .s ts _=>ts
 | .l us _=>[.lst us]
def Uh :List MS→List PTy
 |[]=>[]
 |s::ss=>s.ts++Uh ss
def UO (c off:Nat)(g:Bool)(n f:Nat):List AOper:=[⟨some c, .fieldA (.tmp 2) off,none⟩,⟨some (c+1), .loadZ g n (.tmp c),none⟩,⟨some (c+2), .mv (.tmp 1),none⟩,⟨some (c+3), .callM f (.tmp (c+1)) (.tmp (c+2)),none⟩,⟨some 1, .mv (.tmp (c+3)),none⟩]
def Uf :Nat→Nat→List MS→ACode
 |c,_,[]=> .seq (.region [⟨some c, .mv (.tmp 1),none⟩,⟨some 4, .mv (.tmp c),none⟩]) .ret
 |c,off, .k ts::ss=>Uf c (off+ts.length) ss
 |c,off, .s ts f::ss=> .seq (.region (UO c off true ts.length f)) (Uf (c+4) (off+ts.length) ss)
 |c,off, .l _ f::ss=> .seq (.region (UO c off false 1 f)) (Uf (c+4) (off+1) ss)
def Us :Nat→List MS→Nat
 |c,[]=>c
 |c, .k _::ss=>Us c ss
 |c,_::ss=>Us (c+4) ss
def Ue (ss:List MS):AFn:=⟨Us 5 ss+1,[.tmp 4], .seq (.region [⟨some 2, .box (.tmp 0),none⟩,⟨some 4, .mv (.pv (.int .i64 0)),none⟩]) (Uf 5 0 ss)⟩
section
variable {Φ:Nat→Option AFn}{ext:Nat→List V→Option V}{mT:Int→List UInt8}{mt:Nat}
end
def T0 :Nat→Nat→List UInt8→List UInt8
 |0,_,o=>o
 |n+1,k,o=>if k=0 then o else T0 n (k/10) (UInt8.ofNat (48+k%10)::o)
def GA (k:Int):List UInt8:=if k≤0 then [109,48]else 109::T0 13 k.toNat []
section
variable {Φ:Nat→Option AFn}{ext:Nat→List V→Option V}
end
section
variable {Φ:Nat→Option AFn}{ext:Nat→List V→Option V}{mT:Int→List UInt8}{mt:Nat}
structure HdSt (rows:List (List PV)) (i:Nat) (k:Int) (t:List V):Prop where
 t0:t[0]? =some (bi rows)
 t1:t[1]? =some (ai .i64 k)
 t5:t[5]? =some (ai .i64 i)
end
end Gi
