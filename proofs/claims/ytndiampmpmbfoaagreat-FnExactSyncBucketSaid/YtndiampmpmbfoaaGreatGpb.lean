/- A part. -/
import Derived.Test.YtndiampmpmbfoaaGreatGpd
set_option linter.all false
namespace Gi
open Go Go.RowKit
def Hl (c ks:Nat):List Z0:=[⟨some (c+2), .mv (.tmp 1),none⟩,⟨some (c+3), .call ks [.tmp (c+1), .tmp (c+2)] true false,none⟩,⟨some 1, .mv (.tmp (c+3)),none⟩]
def K4 :Nat->Nat->List Seg->Y5
 |c,_,[]=> .seq (.region [⟨some c, .mv (.tmp 1),none⟩,⟨some 4, .mv (.tmp c),none⟩]) .ret
 |c,off, .c .str::ss=> .seq (.region (⟨some c, .mv (.tmp 1),none⟩::nl (c+1) 2 off 1 false++[⟨some (c+3), .cH (.tmp (c+2)),none⟩,⟨some (c+4), .bin .sub (.tmp c) (.tmp (c+3)),none⟩,⟨some 1, .mv (.tmp (c+4)),none⟩])) (.seq (p7 (c+5)) (K4 (c+7) (off+1) ss))
 |c,off, .c _::ss=>K4 c (off+1) ss
 |c,off, .s ts K::ss=>if K.ks=0 then K4 c (off+ts.length) ss else .seq (.region (nl c 2 off ts.length true++Hl c K.ks)) (.seq (p7 (c+4)) (K4 (c+6) (off+ts.length) ss))
 |c,off, .l _ K::ss=> .seq (.region (nl c 2 off 1 false++Hl c K.ks)) (.seq (p7 (c+4)) (K4 (c+6) (off+1) ss))
def IP :Nat->List Seg->Nat
 |c,[]=>c
 |c, .c .str::ss=>IP (c+7) ss
 |c, .c _::ss=>IP c ss
 |c, .s _ K::ss=>if K.ks=0 then IP c ss else IP (c+6) ss
 |c, .l _ _::ss=>IP (c+6) ss
def gA (ss:List Seg):AFn:=⟨IP 5 ss+1,[.tmp 4], .seq (.region [⟨some 2, .box (.tmp 0),none⟩,⟨some 4, .mv (.pv (.int .i64 0)),none⟩]) (K4 5 0 ss)⟩
def Nb :Y5:= .seq (.region [⟨some 4, .mv (.pv (.bool false)),none⟩]) .ret
def IH (t:PTy)(x y:Opd):AOp:=match t with
 | .bool=> .cQ true x y
 |_=> .bin .neq x y
def SG :Nat->Nat->List Seg->Y5
 |_,_,[]=> .seq (.region [⟨some 4, .mv (.pv (.bool true)),none⟩]) .ret
 |c,off, .c t::ss=> .seq (.seq (.region (nl c 2 off 1 false++(nl (c+2) 3 off 1 false++[⟨some (c+4),IH t (.tmp (c+1)) (.tmp (c+3)),none⟩]))) (.cond (.tmp (c+4)) Nb .skip)) (SG (c+5) (off+1) ss)
 |c,off, .s ts K::ss=> .seq (.seq (.region (nl c 2 off ts.length true++(nl (c+2) 3 off ts.length true++[⟨some (c+4), .call K.ke [.tmp (c+1), .tmp (c+3)] true false,none⟩,⟨some (c+5), .un .not (.tmp (c+4)),none⟩]))) (.cond (.tmp (c+5)) Nb .skip)) (SG (c+6) (off+ts.length) ss)
 |c,off, .l _ K::ss=> .seq (.seq (.region (nl c 2 off 1 false++(nl (c+2) 3 off 1 false++[⟨some (c+4), .call K.ke [.tmp (c+1), .tmp (c+3)] true false,none⟩,⟨some (c+5), .un .not (.tmp (c+4)),none⟩]))) (.cond (.tmp (c+5)) Nb .skip)) (SG (c+6) (off+1) ss)
def Rn :Nat->List Seg->Nat
 |c,[]=>c
 |c, .c _::ss=>Rn (c+5) ss
 |c,_::ss=>Rn (c+6) ss
def gi (ss:List Seg):AFn:=⟨Rn 5 ss,[.tmp 4], .seq (.region [⟨some 2, .box (.tmp 0),none⟩,⟨some 3, .box (.tmp 1),none⟩,⟨some 4, .mv (.pv (.bool false)),none⟩]) (SG 5 0 ss)⟩
section
variable {Φ:Nat->Option AFn}{ext:Nat->List V->Option V}
def mb (Φ:Nat->Option AFn)(ext:Nat->List V->Option V)(k:Nat)(ts:List PTy):Prop:=∀r:List PV,bF ts r->ET Φ ext k r
def lL (Φ:Nat->Option AFn)(ext:Nat->List V->Option V)(k:Nat)(ts:List PTy):Prop:=
 ∀rows:List (List PV),oq (.lst ts) (.lst rows)->∀left:Int,0<=left->left<=1048576->ag Φ ext k [bY rows,aa .i64 left]=some (aa .i64 (less left (sz (.lst rows))))
def PM (Φ:Nat->Option AFn)(ext:Nat->List V->Option V):Seg->Prop
 | .c t=>t.flatT=true
 | .s ts K=>if K.ks=0 then ts.all PTy.small=true else mb Φ ext K.ks ts
 | .l ts K=>lL Φ ext K.ks ts
def U8 {call:Nat->List V->Option V}{lp}{c:Nat}{t:List V}{h:List Y0}{l:Int}(h1:t[1]? =some (aa .i64 l))(hl:l<0)(hc:5<=c)(ae:c+1<t.length):
 ∃t',ap call lp (p7 c) ⟨t,h⟩=some (.ret,⟨t',h⟩)/\ t'[4]? =some (aa .i64 (-1)):=by
 have e1:t.getD 1 (.b9 [])=aa .i64 l:=getD_some h1
 have e2:(t.set c (aa .i64 l)).getD c (.b9 [])=aa .i64 l:=aI (by omega)
 have e3:((t.set c (aa .i64 l)).set (c+1) (az true)).getD (c+1) (.b9 [])=az true:=aI (by simp;omega)
 refine⟨((t.set c (aa .i64 l)).set (c+1) (az true)).set 4 (aa .i64 (-1)),?_,Zd (by simp;omega)⟩
 simp only[p7,ap,ah,aG,bc,bG,Opd.ev,e1,put,e2,bin,if_true,cG,hl,decide_true,e3,isBool]
def Qi {call:Nat->List V->Option V}{lp}{c:Nat}{t:List V}{h:List Y0}{l:Int}(h1:t[1]? =some (aa .i64 l))(hl:¬l<0)(ae:c+1<t.length):
 ap call lp (p7 c) ⟨t,h⟩=some (.normal,⟨(t.set c (aa .i64 l)).set (c+1) (az false),h⟩):=by
 have e1:t.getD 1 (.b9 [])=aa .i64 l:=getD_some h1
 have e2:(t.set c (aa .i64 l)).getD c (.b9 [])=aa .i64 l:=aI (by omega)
 have e3:((t.set c (aa .i64 l)).set (c+1) (az false)).getD (c+1) (.b9 [])=az false:=aI (by simp;omega)
 simp only[p7,ap,ah,aG,bc,bG,Opd.ev,e1,put,e2,bin,if_true,cG,hl,decide_false,e3,isBool,Zy,if_false]
def rn :∀(ss:List Seg)(c:Nat),c<=IP c ss
 |[],c=>Zn _
 | .c .str::ss,c=>Zc (by omega) (rn ss (c+7))
 | .c (.int _)::ss,c=>rn ss c
 | .c .bool::ss,c=>rn ss c
 | .c (.lst _)::ss,c=>rn ss c
 | .s _ K::ss,c=>by
  simp only[IP]
  split
  ·exact rn ss c
  ·exact Zc (by omega) (rn ss (c+6))
 | .l _ _::ss,c=>Zc (by omega) (rn ss (c+6))
def Qw :∀(ss:List Seg),(∀s∈ss,PM Φ ext s)->∀{c:Nat}{dn row:List PV}{t:List V}{left:Int},
 t[1]? =some (aa .i64 left)->t[2]? =some (.one (.ptr 0 0 0))->0<=left->left<=1048576->5<=c->IP c ss<t.length->bF (iO ss) row->
 ∃t',ap (ag Φ ext) aF (K4 c dn.length ss) ⟨t,[.box ((dn++row).map .pv)]⟩=some (.ret,⟨t',[.box ((dn++row).map .pv)]⟩)/\ t'[4]? =some (aa .i64 (less left (eN row)))
 |[],_,c,dn,row,t,left,t1,t2,h0,h1,hc,hN,hr=>by
  obtain rfl:=fv hr
  simp only[IP]at hN
  have e1:t.getD 1 (.b9 [])=aa .i64 left:=getD_some t1
  have e2:(t.set c (aa .i64 left)).getD c (.b9 [])=aa .i64 left:=aI hN
  have hl:less left (eN [])=left:=by
   have e0:eN []=0:=by simp only[eN]
   rw[e0];unfold less;rw[if_neg (by omega)];omega
  refine⟨(t.set c (aa .i64 left)).set 4 (aa .i64 left),?_,by rw[hl];exact Zd (by simp;omega)⟩
  simp only[K4,ap,ah,aG,bc,bG,Opd.ev,e1,put,e2]
 |sg::ss,a6,c,dn,row,t,left,t1,t2,h0,h1,hc,hN,hr=>by
  obtain⟨a,b,rfl,ha,hb⟩:=lZ (ts:=sg.ts) hr
  have a2:=kN ha
  have af:=Hn a b
  have a1:=a6 sg (by simp)
  have ih:=fun{c dn row t left}=>Qw ss (fun s m=>a6 s (by simp[m])) (c:=c) (dn:=dn) (row:=row) (t:=t) (left:=left)
  rw[<-List.append_assoc]
  have skip:∀{c':Nat},eN a=0->K4 c dn.length (sg::ss)=K4 c (dn++a).length ss->IP c (sg::ss)=IP c ss->
   ∃t',ap (ag Φ ext) aF (K4 c dn.length (sg::ss)) ⟨t,[.box ((dn++a++b).map .pv)]⟩=some (.ret,⟨t',[.box ((dn++a++b).map .pv)]⟩)/\ t'[4]? =some (aa .i64 (less left (eN (a++b)))):=by
   intro _ e0 e1 e2
   rw[e1,af,e0,ZO]
   exact ih t1 t2 h0 h1 hc (by rw[<-e2];exact hN) hb
  have go:∀{ops:List Z0}{cn cm:Nat}{t':List V}{l:Int},K4 c dn.length (sg::ss)= .seq (.region ops) (.seq (p7 cn) (K4 (cn+2) (dn++a).length ss))->IP c (sg::ss)=IP (cn+2) ss->5<=cn->
   ah (ag Φ ext) ops ⟨t,[.box ((dn++a++b).map .pv)]⟩=some ⟨t',[.box ((dn++a++b).map .pv)]⟩->t'.length=t.length->t'[1]? =some (aa .i64 l)->t'[2]? =some (.one (.ptr 0 0 0))->(l<0->less left (eN a)= -1)->(¬l<0->l=less left (eN a))->
   ∃t',ap (ag Φ ext) aF (K4 c dn.length (sg::ss)) ⟨t,[.box ((dn++a++b).map .pv)]⟩=some (.ret,⟨t',[.box ((dn++a++b).map .pv)]⟩)/\ t'[4]? =some (aa .i64 (less left (eN (a++b)))):=by
   intro ops cn cm t' l e1 e2 e3 e4 e5 e6 e7 e8 e9
   have a7:cn+1<t'.length:=by have:=rn ss (cn+2);omega
   rw[e1,af]
   by_cases hn:l<0
   ·obtain⟨a8,g1,g2⟩:=U8 (call:=ag Φ ext) (lp:=aF) (h:=[.box ((dn++a++b).map .pv)]) e6 hn e3 a7
    refine⟨a8,?_,?_⟩
    ·simp only[ap,e4,g1]
    ·rw[g2,MQ (b:=eN b) h0 (by rw[e8 hn];omega)]
   ·have g1:=Qi (call:=ag Φ ext) (lp:=aF) (h:=[.box ((dn++a++b).map .pv)]) e6 hn a7
    have ak:0<=less left (eN a):=by rw[<-e9 hn];omega
    obtain⟨a8,f1,f2⟩:=ih (c:=cn+2) (dn:=dn++a) (row:=b) (t:=(t'.set cn (aa .i64 l)).set (cn+1) (az false)) (left:=l) (by rw[Za (by omega),Za (by omega)];exact e6) (by rw[Za (by omega),Za (by omega)];exact e7) (by omega) (by have:=Qb (a:=eN a) h0;rw[e9 hn];omega) (by omega) (by simp[e5];rw[<-e2];exact hN) hb
    refine⟨a8,?_,?_⟩
    ·simp only[ap,e4,g1]
     exact f1
    ·rw[f2,<-tH ak,e9 hn]
  have call:∀{n:Nat}{agg:Bool}{k:Nat}{v:V},K4 c dn.length (sg::ss)= .seq (.region (nl c 2 dn.length n agg++Hl c k)) (.seq (p7 (c+4)) (K4 (c+6) (dn++a).length ss))->IP c (sg::ss)=IP (c+6) ss->
   gv agg n dn.length ((dn++(a++b)).map .pv)=some v->(∀h i,al h [v,aa .i64 i]=some [v,aa .i64 i])->ag Φ ext k [v,aa .i64 left]=some (aa .i64 (less left (eN a)))->
   ∃t',ap (ag Φ ext) aF (K4 c dn.length (sg::ss)) ⟨t,[.box ((dn++a++b).map .pv)]⟩=some (.ret,⟨t',[.box ((dn++a++b).map .pv)]⟩)/\ t'[4]? =some (aa .i64 (less left (eN (a++b)))):=by
   intro n agg k v e1 e2 e3 e4 e5
   have a7:c+5<t.length:=by have:=rn ss (c+6);omega
   rw[<-List.append_assoc]at e3
   have el:=rj (t:=t) (h:=[.box ((dn++a++b).map .pv)]) t2 (c:=c) (by omega) (by omega) rfl e3 (ag Φ ext)
   generalize hh:[Y0.box ((dn++a++b).map L.pv)]=hp at el go⊢
   have q1:((t.set c (V.one (.ptr 0 0 dn.length))).set (c+1) v).getD 1 (.b9 [])=aa .i64 left:=by rw[dV (by omega),dV (by omega)];exact getD_some t1
   have q2:(((t.set c (V.one (.ptr 0 0 dn.length))).set (c+1) v).set (c+2) (aa .i64 left)).getD (c+1) (.b9 [])=v:=by rw[dV (by omega)];exact aI (by simp;omega)
   have q3:(((t.set c (V.one (.ptr 0 0 dn.length))).set (c+1) v).set (c+2) (aa .i64 left)).getD (c+2) (.b9 [])=aa .i64 left:=aI (by simp;omega)
   have q4:((((t.set c (V.one (.ptr 0 0 dn.length))).set (c+1) v).set (c+2) (aa .i64 left)).set (c+3) (aa .i64 (less left (eN a)))).getD (c+3) (.b9 [])=aa .i64 (less left (eN a)):=aI (by simp;omega)
   refine go (ops:=nl c 2 dn.length n agg++Hl c k) (cn:=c+4) (cm:=0) (l:=less left (eN a)) (t':=((((t.set c (V.one (.ptr 0 0 dn.length))).set (c+1) v).set (c+2) (aa .i64 left)).set (c+3) (aa .i64 (less left (eN a)))).set 1 (aa .i64 (less left (eN a)))) e1 e2 (by omega) ?_ (by simp) (Zd (by simp;omega)) ?_ (fun hn=>Qa hn h0) (fun _=>rfl)
   ·rw[cA _ _ _ el]
    simp only[Hl,ah,aG,bc,bG,Opd.ev,q1,put,Zb7,if_true,Zv,Zz,q2,q3,e4,e5,V.flat,L.flat,Zb8,G',Zy,if_false,da,df,q4]
   ·rw[Za (by omega),Za (by omega),Za (by omega),Za (by omega),Za (by omega)];exact t2
  cases sg with
  |c ty=>
   simp only[Seg.ts,ZN]at a2 ha
   obtain⟨p,rfl⟩:=ZR.1 a2
   have hlen:(dn++[p]).length=dn.length+1:=by simp
   cases ty with
   |lst us=>cases a1
   |int k=>
    obtain⟨n,rfl⟩:=mp ha.1
    exact skip (c':=0) (by simp only[eN,sz]) (by rw[hlen];rfl) rfl
   |bool=>
    obtain⟨n,rfl⟩:=ma ha.1
    exact skip (c':=0) (by simp only[eN,sz]) (by rw[hlen];rfl) rfl
   |str=>
    obtain⟨s,rfl⟩:=lu ha.1
    have hs:s.length<=maxLen:=ha.1
    unfold maxLen at hs
    have ai:eN [PV.str s]=s.length:=by simp only[eN,sz,Za7]
    have a7:c+7<t.length:=by have:=rn ss (c+7);simp only[IP]at hN;omega
    have hw:IntKind.i64.wrap (left-(s.length:Int))=left-s.length:=by rw[IntKind.wrap_i64];omega
    have a5:gv false 1 dn.length ((dn++[PV.str s]++b).map .pv)=some (eE s):=by rw[List.append_assoc];exact nB (agg:=false) (a:=[.str s]) (.inr rfl)
    have el:=rj (x:=2) (ox:=0) (t:=t.set c (aa .i64 left)) (h:=[.box ((dn++[PV.str s]++b).map .pv)]) (by rw[Za (by omega)];exact t2) (c:=c+1) (by omega) (by simp;omega) rfl a5 (ag Φ ext)
    generalize hh:[Y0.box ((dn++[PV.str s]++b).map L.pv)]=hp at el go⊢
    have q1:t.getD 1 (.b9 [])=aa .i64 left:=getD_some t1
    generalize hT:((t.set c (aa .i64 left)).set (c+1) (V.one (.ptr 0 0 dn.length))).set (c+1+1) (eE s)=T at el
    have lT:T.length=t.length:=by rw[<-hT];simp
    have q2:T.getD (c+2) (.b9 [])=eE s:=by rw[<-hT];exact aI (by simp;omega)
    have q3:(T.set (c+3) (aa .i64 s.length)).getD c (.b9 [])=aa .i64 left:=by rw[dV (by omega),<-hT,dV (by omega),dV (by omega)];exact aI (by omega)
    have q4:(T.set (c+3) (aa .i64 s.length)).getD (c+3) (.b9 [])=aa .i64 s.length:=aI (by omega)
    have q5:((T.set (c+3) (aa .i64 s.length)).set (c+4) (aa .i64 (left-s.length))).getD (c+4) (.b9 [])=aa .i64 (left-s.length):=aI (by simp;omega)
    refine go (cn:=c+5) (cm:=0) (l:=left-s.length) (t':=((T.set (c+3) (aa .i64 s.length)).set (c+4) (aa .i64 (left-s.length))).set 1 (aa .i64 (left-s.length))) (by rw[hlen];rfl) rfl (by omega) ?_ (by simp[lT]) (Zd (by simp;omega)) ?_ (fun hn=>by rw[ai];exact U3 (by omega)) (fun hn=>by rw[ai];unfold less;rw[if_neg (by omega)])
    ·simp only[Zg,ah]
     simp only[aG,bc,bG,Opd.ev,q1,put]
     rw[cA _ _ _ el]
     simp only[ah,aG,bc,bG,Opd.ev,q2,isStr,put,q3,q4,bin,if_true,cG,hw,q5]
    ·rw[Za (by omega),Za (by omega),Za (by omega),<-hT,Za (by omega),Za (by omega),Za (by omega)];exact t2
  |s ts K=>
   simp only[Seg.ts]at a2 ha
   have hlen:(dn++a).length=dn.length+ts.length:=by simp[a2]
   by_cases hk:K.ks=0
   ·simp only[PM,hk,if_true]at a1
    exact skip (c':=0) (Ho a1 ha) (by rw[hlen];simp only[K4,hk,if_true]) (by simp only[IP,hk,if_true])
   ·simp only[PM,hk,if_false]at a1
    exact call (n:=ts.length) (agg:=true) (v:= .agg (a.map .pv)) (by rw[hlen];simp only[K4,hk,if_false]) (by simp only[IP,hk,if_false]) (by rw[<-a2];exact nB (agg:=true) (.inl rfl)) (fun h i=>by simp only[al,t7];rfl) (a1 a ha left h0 h1)
  |l ts K=>
   simp only[Seg.ts,ZN]at a2 ha
   obtain⟨p,rfl⟩:=ZR.1 a2
   obtain⟨rows,rfl⟩:=pg ha.1
   have hlen:(dn++[PV.lst rows]).length=dn.length+1:=by simp
   exact call (n:=1) (agg:=false) (v:=bY rows) (by rw[hlen];rfl) rfl (nB (agg:=false) (a:=[.lst rows]) (.inr rfl)) (fun h i=>rfl) (by have:=a1 rows ha.1 left h0 h1;simpa only[eN,Za7]using this)
def du {k:Nat}{ss:List Seg}(hk:Φ k=some (gA ss))(a6:∀s∈ss,PM Φ ext s):mb Φ ext k (iO ss):=by
 intro r hr left h0 h1
 refine fW hk ?_
 have hle:=rn ss 5
 obtain⟨m,hm⟩:∃m,IP 5 ss+1-2=m+4:=⟨IP 5 ss-5,by omega⟩
 have ab:(r.map L.pv).all plain=true:=by simp[plain]
 obtain⟨t',e1,e2⟩:=Qw ss a6 (c:=5) (dn:=[]) (row:=r) (t:=V.agg (r.map .pv)::aa .i64 left::V.one (.ptr 0 0 0):: .b9 []::aa .i64 0::List.replicate (m+1) (.b9 [])) (left:=left) rfl rfl h0 h1 (by omega) (by simp;omega) hr
 have ad:fB Φ ext (gA ss).body (start (gA ss) [.agg (r.map .pv),aa .i64 left])=some (.ret,⟨t',[.box (r.map .pv)]⟩):=by
  simp only[fB,gA,start,Zo,Zx,ZO,Nat.reduceAdd,hm,ap,ah,aG,bc,bG,cz,Opd.ev,put,List.replicate_succ,Zg,Zi,Zb0,U',ZT,V.cells,ab,if_true]
  exact e1
 rw[ad]
 simp only[done,gA,aZ,am,cj,getD_some e2,Y',Zb3,Zw,V.cells,bS,comp,aO,bJ]
 simp[aj]
def lq (Φ:Nat->Option AFn)(ext:Nat->List V->Option V)(k:Nat)(ts:List PTy):Prop:=
 ∀r:List PV,bF ts r->ag Φ ext k [.agg (r.map .pv), .agg (r.map .pv)]=some (az true)
def lK (Φ:Nat->Option AFn)(ext:Nat->List V->Option V)(k:Nat)(ts:List PTy):Prop:=
 ∀rows:List (List PV),oq (.lst ts) (.lst rows)->ag Φ ext k [bY rows,bY rows]=some (az true)
def Vz (Φ:Nat->Option AFn)(ext:Nat->List V->Option V):Seg->Prop
 | .c t=>t.flatT=true
 | .s ts K=>lq Φ ext K.ke ts
 | .l ts K=>lK Φ ext K.ke ts
def Bk :∀(ss:List Seg)(c:Nat),c<=Rn c ss
 |[],c=>Zn _
 | .c _::ss,c=>Zc (by omega) (Bk ss (c+5))
 | .s _ _::ss,c=>Zc (by omega) (Bk ss (c+6))
 | .l _ _::ss,c=>Zc (by omega) (Bk ss (c+6))
def PS :∀(ss:List Seg),(∀s∈ss,Vz Φ ext s)->∀{c:Nat}{dn row:List PV}{t:List V},
 t[2]? =some (.one (.ptr 0 0 0))->t[3]? =some (.one (.ptr 1 0 0))->5<=c->Rn c ss<=t.length->bF (iO ss) row->
 ∃t',ap (ag Φ ext) aF (SG c dn.length ss) ⟨t,[.box ((dn++row).map .pv), .box ((dn++row).map .pv)]⟩=some (.ret,⟨t',[.box ((dn++row).map .pv), .box ((dn++row).map .pv)]⟩)/\ t'[4]? =some (az true)
 |[],_,c,dn,row,t,t2,t3,hc,hN,hr=>by
  simp only[Rn]at hN
  refine⟨t.set 4 (az true),?_,Zd (by omega)⟩
  simp only[SG,ap,ah,aG,bc,bG,Opd.ev,put]
 |sg::ss,a6,c,dn,row,t,t2,t3,hc,hN,hr=>by
  obtain⟨a,b,rfl,ha,hb⟩:=lZ (ts:=sg.ts) hr
  have a2:=kN ha
  have a1:=a6 sg (by simp)
  have ih:=fun{c dn row t}=>PS ss (fun s m=>a6 s (by simp[m])) (c:=c) (dn:=dn) (row:=row) (t:=t)
  rw[<-List.append_assoc]
  generalize hh:[Y0.box ((dn++a++b).map L.pv), .box ((dn++a++b).map L.pv)]=hp
  have go:∀{ops:List Z0}{cn:Nat}{t':List V},SG c dn.length (sg::ss)= .seq (.seq (.region ops) (.cond (.tmp cn) Nb .skip)) (SG (cn+1) (dn++a).length ss)->Rn c (sg::ss)=Rn (cn+1) ss->4<=cn->
   ah (ag Φ ext) ops ⟨t,hp⟩=some ⟨t',hp⟩->t'.length=t.length->t'[cn]? =some (az false)->t'[2]? =t[2]? ->t'[3]? =t[3]? ->
   ∃t',ap (ag Φ ext) aF (SG c dn.length (sg::ss)) ⟨t,hp⟩=some (.ret,⟨t',hp⟩)/\ t'[4]? =some (az true):=by
   intro ops cn t' e1 e2 e3 e4 e5 e6 e7 e8
   obtain⟨a8,f1,f2⟩:=ih (c:=cn+1) (dn:=dn++a) (row:=b) (t:=t') (e7.trans t2) (e8.trans t3) (by omega) (by rw[e5,<-e2];exact hN) hb
   rw[hh]at f1
   refine⟨a8,?_,f2⟩
   rw[e1]
   simp only[ap,e4,Opd.ev,getD_some e6,isBool,Zy,if_false]
   exact f1
  have an:hp[0]? =some (.box ((dn++a++b).map .pv)):=by rw[<-hh];rfl
  have ao:hp[1]? =some (.box ((dn++a++b).map .pv)):=by rw[<-hh];rfl
  have ld:∀{n:Nat}{agg:Bool}{v:V},gv agg n dn.length ((dn++a++b).map .pv)=some v->c+3<t.length->∃T,ah (ag Φ ext) (nl c 2 dn.length n agg++nl (c+2) 3 dn.length n agg) ⟨t,hp⟩=some ⟨T,hp⟩/\ T.length=t.length/\ T.getD (c+1) (.b9 [])=v/\ T.getD (c+3) (.b9 [])=v/\ T[2]? =t[2]? /\ T[3]? =t[3]? :=by
   intro n agg v a5 ae
   have aq:=rj (t:=t) (h:=hp) t2 (c:=c) (by omega) (by omega) an a5 (ag Φ ext)
   have ar:=rj (t:=(t.set c (.one (.ptr 0 0 dn.length))).set (c+1) v) (h:=hp) (x:=3) (ox:=1) (by rw[Za (by omega),Za (by omega)];exact t3) (c:=c+2) (by omega) (by simp;omega) ao a5 (ag Φ ext)
   refine⟨_,(cA _ _ _ aq).trans ar,by simp,?_,?_,?_,?_⟩
   ·rw[dV (by omega),dV (by omega)];exact aI (by simp;omega)
   ·exact aI (by simp;omega)
   ·rw[Za (by omega),Za (by omega),Za (by omega),Za (by omega)]
   ·rw[Za (by omega),Za (by omega),Za (by omega),Za (by omega)]
  have call:∀{n:Nat}{agg:Bool}{k:Nat}{v:V},SG c dn.length (sg::ss)= .seq (.seq (.region (nl c 2 dn.length n agg++(nl (c+2) 3 dn.length n agg++[⟨some (c+4), .call k [.tmp (c+1), .tmp (c+3)] true false,none⟩,⟨some (c+5), .un .not (.tmp (c+4)),none⟩]))) (.cond (.tmp (c+5)) Nb .skip)) (SG (c+6) (dn++a).length ss)->Rn c (sg::ss)=Rn (c+6) ss->
   gv agg n dn.length ((dn++(a++b)).map .pv)=some v->(∀h,al h [v,v]=some [v,v])->ag Φ ext k [v,v]=some (az true)->
   ∃t',ap (ag Φ ext) aF (SG c dn.length (sg::ss)) ⟨t,hp⟩=some (.ret,⟨t',hp⟩)/\ t'[4]? =some (az true):=by
   intro n agg k v e1 e2 e3 e4 e5
   have a7:c+6<=t.length:=by have:=Bk ss (c+6);omega
   rw[<-List.append_assoc]at e3
   obtain⟨T,g1,g2,g3,g4,g5,g6⟩:=ld e3 (by omega)
   have q1:(T.set (c+4) (az true)).getD (c+4) (.b9 [])=az true:=aI (by omega)
   refine go (cn:=c+5) (t':=(T.set (c+4) (az true)).set (c+5) (az false)) e1 e2 (by omega) ?_ (by simp[g2]) (Zd (by simp;omega)) (by rw[Za (by omega),Za (by omega)];exact g5) (by rw[Za (by omega),Za (by omega)];exact g6)
   rw[<-List.append_assoc,cA _ _ _ g1]
   simp only[ah,aG,bc,bG,Opd.ev,g3,g4,put,Zb7,if_true,Zv,Zz,e4,e5,V.flat,L.flat,Zb8,G',Zy,if_false,da,df,q1,un]
  cases sg with
  |c ty=>
   simp only[Seg.ts,ZN]at a2 ha
   obtain⟨p,rfl⟩:=ZR.1 a2
   have hlen:(dn++[p]).length=dn.length+1:=by simp
   have a7:c+5<=t.length:=by have:=Bk ss (c+5);simp only[Rn]at hN;omega
   have a5:gv false 1 dn.length ((dn++[p]++b).map .pv)=some (.one (.pv p)):=by rw[List.append_assoc];exact nB (agg:=false) (a:=[p]) (.inr rfl)
   obtain⟨T,g1,g2,g3,g4,g5,g6⟩:=ld a5 (by omega)
   refine go (cn:=c+4) (t':=T.set (c+4) (az false)) (by rw[hlen];rfl) rfl (by omega) ?_ (by simp[g2]) (Zd (by omega)) (by rw[Za (by omega)];exact g5) (by rw[Za (by omega)];exact g6)
   rw[<-List.append_assoc,cA _ _ _ g1]
   cases ty with
   |lst us=>cases a1
   |int k=>obtain⟨n,rfl⟩:=mp ha.1;simp only[ah,aG,bc,bG,IH,Opd.ev,g3,g4,put,bin,if_true,cG,bne_self_eq_false]
   |bool=>obtain⟨n,rfl⟩:=ma ha.1;simp only[ah,aG,bc,bG,IH,Opd.ev,g3,g4,put,isBool,if_true,beq_self_eq_true,Zb8]
   |str=>obtain⟨n,rfl⟩:=lu ha.1;simp only[ah,aG,bc,bG,IH,Opd.ev,g3,g4,put,bin,jN,beq_self_eq_true,Zb8]
  |s ts K=>
   simp only[Seg.ts]at a2 ha
   have hlen:(dn++a).length=dn.length+ts.length:=by simp[a2]
   exact call (n:=ts.length) (agg:=true) (v:= .agg (a.map .pv)) (by rw[hlen];rfl) rfl (by rw[<-a2];exact nB (agg:=true) (.inl rfl)) (fun h=>by simp only[al,t7]) (a1 a ha)
  |l ts K=>
   simp only[Seg.ts,ZN]at a2 ha
   obtain⟨p,rfl⟩:=ZR.1 a2
   obtain⟨rows,rfl⟩:=pg ha.1
   have hlen:(dn++[PV.lst rows]).length=dn.length+1:=by simp
   exact call (n:=1) (agg:=false) (v:=bY rows) (by rw[hlen];rfl) rfl (nB (agg:=false) (a:=[.lst rows]) (.inr rfl)) (fun h=>rfl) (a1 rows ha.1)
def cY {k:Nat}{ss:List Seg}(hk:Φ k=some (gi ss))(a6:∀s∈ss,Vz Φ ext s):lq Φ ext k (iO ss):=by
 intro r hr
 refine fW hk ?_
 have hle:=Bk ss 5
 obtain⟨m,hm⟩:∃m,Rn 5 ss-2=m+3:=⟨Rn 5 ss-5,by omega⟩
 have ab:(r.map L.pv).all plain=true:=by simp[plain]
 obtain⟨t',e1,e2⟩:=PS ss a6 (c:=5) (dn:=[]) (row:=r) (t:=V.agg (r.map .pv)::V.agg (r.map .pv)::V.one (.ptr 0 0 0)::V.one (.ptr 1 0 0)::az false::List.replicate m (.b9 [])) rfl rfl (by omega) (by simp;omega) hr
 have ad:fB Φ ext (gi ss).body (start (gi ss) [.agg (r.map .pv), .agg (r.map .pv)])=some (.ret,⟨t',[.box (r.map .pv), .box (r.map .pv)]⟩):=by
  simp only[fB,gi,start,Zo,Zx,ZO,Nat.reduceAdd,hm,ap,ah,aG,bc,bG,cz,Opd.ev,put,List.replicate_succ,Zg,Zi,Zb0,List.getD_cons_succ,U',ZT,V.cells,ab,if_true]
  exact e1
 rw[ad]
 simp only[done,gi,aZ,am,cj,getD_some e2,Y',Zb3,Zw,V.cells,bS,comp,aO,bJ]
 simp[aj]
def WV (P:Seg->Prop):List Seg->Prop
 |[]=>True
 |s::ss=>P s/\ WV P ss
def bK {P:Seg->Prop}:∀{ss:List Seg},WV P ss->∀s∈ss,P s
 |[],_,_,h=>by cases h
 |x::xs,h,s,hm=>by
  rcases ZL.1 hm with rfl|hm
  ·exact h.1
  ·exact bK h.2 s hm
def kH {k z kx:Nat}{ts:List PTy}(hk:Φ k=some (La z kx))(hz:ts.length=z)(hx:mb Φ ext kx ts):lL Φ ext k ts:=by
 intro rows h left h0 h1
 obtain⟨hl,hr⟩:=bi h
 rw[lY]
 exact WC hk (fun r m=>by rw[kN (hr r m),hz]) hl (fun r m=>hx r (hr r m)) h0 h1
def ER {k:Nat}{ts:List PTy}(hk:Φ k=some VT)(ha:ts.all PTy.small=true):lL Φ ext k ts:=by
 intro rows h left h0 h1
 obtain⟨hl,hr⟩:=bi h
 rw[lY,Ds ha hr]
 exact WB hk hl h0 h1
def iZ {k z kx:Nat}{ts:List PTy}(hk:Φ k=some (pC 27 (fR z kx)))(hz:ts.length=z)(hx:lq Φ ext kx ts):lK Φ ext k ts:=by
 intro rows h
 obtain⟨hl,hr⟩:=bi h
 exact Wb hk (fun r m=>by rw[kN (hr r m),hz]) hl (fun r m=>hx r (hr r m))
def J2 {k:Nat}{t:PTy}(hk:Φ k=some (pC 26 p4))(ht:t.cg=true):lK Φ ext k [t]:=by
 intro rows h
 obtain⟨hl,hr⟩:=bi h
 obtain⟨qs,rfl⟩:=Qt hr
 exact Wa hk (Wn ht hr) (by simpa using hl)
end
end Gi
