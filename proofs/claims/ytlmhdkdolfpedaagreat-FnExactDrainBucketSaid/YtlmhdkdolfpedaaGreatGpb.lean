/- Of this proof. -/
import Derived.Test.YtlmhdkdolfpedaaGreatGpd
set_option linter.all false
namespace Gi
open Go Go.RowKit
def Kb (c ks:Nat):List X2:=[⟨some (c+2), .mv (.tmp 1),none⟩,⟨some (c+3), .call ks [.tmp (c+1), .tmp (c+2)] true false,none⟩,⟨some 1, .mv (.tmp (c+3)),none⟩]
def Oe :Nat->Nat->List Seg->Q6
 |c,_,[]=> .seq (.region [⟨some c, .mv (.tmp 1),none⟩,⟨some 4, .mv (.tmp c),none⟩]) .ret
 |c,off, .c .str::ss=> .seq (.region (⟨some c, .mv (.tmp 1),none⟩::qd (c+1) 2 off 1 false++[⟨some (c+3), .cG (.tmp (c+2)),none⟩,⟨some (c+4), .bin .sub (.tmp c) (.tmp (c+3)),none⟩,⟨some 1, .mv (.tmp (c+4)),none⟩])) (.seq (t9 (c+5)) (Oe (c+7) (off+1) ss))
 |c,off, .c _::ss=>Oe c (off+1) ss
 |c,off, .s ts K::ss=>if K.ks=0 then Oe c (off+ts.length) ss else .seq (.region (qd c 2 off ts.length true++Kb c K.ks)) (.seq (t9 (c+4)) (Oe (c+6) (off+ts.length) ss))
 |c,off, .l _ K::ss=> .seq (.region (qd c 2 off 1 false++Kb c K.ks)) (.seq (t9 (c+4)) (Oe (c+6) (off+1) ss))
def LH :Nat->List Seg->Nat
 |c,[]=>c
 |c, .c .str::ss=>LH (c+7) ss
 |c, .c _::ss=>LH c ss
 |c, .s _ K::ss=>if K.ks=0 then LH c ss else LH (c+6) ss
 |c, .l _ _::ss=>LH (c+6) ss
def jG (ss:List Seg):AFn:=⟨LH 5 ss+1,[.tmp 4], .seq (.region [⟨some 2, .box (.tmp 0),none⟩,⟨some 4, .mv (.pv (.int .i64 0)),none⟩]) (Oe 5 0 ss)⟩
def Rs :Q6:= .seq (.region [⟨some 4, .mv (.pv (.bool false)),none⟩]) .ret
def Lz (t:PTy)(x y:Opd):AOp:=match t with
 | .bool=> .cP true x y
 |_=> .bin .neq x y
def WV :Nat->Nat->List Seg->Q6
 |_,_,[]=> .seq (.region [⟨some 4, .mv (.pv (.bool true)),none⟩]) .ret
 |c,off, .c t::ss=> .seq (.seq (.region (qd c 2 off 1 false++(qd (c+2) 3 off 1 false++[⟨some (c+4),Lz t (.tmp (c+1)) (.tmp (c+3)),none⟩]))) (.cond (.tmp (c+4)) Rs .skip)) (WV (c+5) (off+1) ss)
 |c,off, .s ts K::ss=> .seq (.seq (.region (qd c 2 off ts.length true++(qd (c+2) 3 off ts.length true++[⟨some (c+4), .call K.ke [.tmp (c+1), .tmp (c+3)] true false,none⟩,⟨some (c+5), .un .not (.tmp (c+4)),none⟩]))) (.cond (.tmp (c+5)) Rs .skip)) (WV (c+6) (off+ts.length) ss)
 |c,off, .l _ K::ss=> .seq (.seq (.region (qd c 2 off 1 false++(qd (c+2) 3 off 1 false++[⟨some (c+4), .call K.ke [.tmp (c+1), .tmp (c+3)] true false,none⟩,⟨some (c+5), .un .not (.tmp (c+4)),none⟩]))) (.cond (.tmp (c+5)) Rs .skip)) (WV (c+6) (off+1) ss)
def VH :Nat->List Seg->Nat
 |c,[]=>c
 |c, .c _::ss=>VH (c+5) ss
 |c,_::ss=>VH (c+6) ss
def jt (ss:List Seg):AFn:=⟨VH 5 ss,[.tmp 4], .seq (.region [⟨some 2, .box (.tmp 0),none⟩,⟨some 3, .box (.tmp 1),none⟩,⟨some 4, .mv (.pv (.bool false)),none⟩]) (WV 5 0 ss)⟩
section
variable {Φ:Nat->Option AFn}{ext:Nat->List V->Option V}
def o7 (Φ:Nat->Option AFn)(ext:Nat->List V->Option V)(k:Nat)(ts:List PTy):Prop:=∀r:List PV,dW ts r->HZ Φ ext k r
def oI (Φ:Nat->Option AFn)(ext:Nat->List V->Option V)(k:Nat)(ts:List PTy):Prop:=
 ∀rows:List (List PV),qa (.lst ts) (.lst rows)->∀left:Int,0<=left->left<=1048576->cf Φ ext k [eQ rows,ce .i64 left]=some (ce .i64 (less left (sz (.lst rows))))
def T7 (Φ:Nat->Option AFn)(ext:Nat->List V->Option V):Seg->Prop
 | .c t=>t.flatT=true
 | .s ts K=>if K.ks=0 then ts.all PTy.small=true else o7 Φ ext K.ks ts
 | .l ts K=>oI Φ ext K.ks ts
def acq {call:Nat->List V->Option V}{lp}{c:Nat}{t:List V}{h:List Q0}{l:Int}(h1:t[1]? =some (ce .i64 l))(hl:l<0)(hc:5<=c)(hlt:c+1<t.length):
 ∃t',cD call lp (t9 c) ⟨t,h⟩=some (.ret,⟨t',h⟩)/\ t'[4]? =some (ce .i64 (-1)):=by have e1:t.getD 1 (.b8 [])=ce .i64 l:=getD_some h1;have e2:(t.set c (ce .i64 l)).getD c (.b8 [])=ce .i64 l:=db (by omega);have e3:((t.set c (ce .i64 l)).set (c+1) (cK true)).getD (c+1) (.b8 [])=cK true:=db (by simp;omega);refine⟨((t.set c (ce .i64 l)).set (c+1) (cK true)).set 4 (ce .i64 (-1)),?_,Zd (by simp;omega)⟩;simp only[t9,cD,cj,cS,dy,dX,Opd.ev,e1,put,e2,bin,if_true,ff,hl,decide_true,e3,isBool]
def UD {call:Nat->List V->Option V}{lp}{c:Nat}{t:List V}{h:List Q0}{l:Int}(h1:t[1]? =some (ce .i64 l))(hl:¬l<0)(hlt:c+1<t.length):
 cD call lp (t9 c) ⟨t,h⟩=some (.normal,⟨(t.set c (ce .i64 l)).set (c+1) (cK false),h⟩):=by have e1:t.getD 1 (.b8 [])=ce .i64 l:=getD_some h1;have e2:(t.set c (ce .i64 l)).getD c (.b8 [])=ce .i64 l:=db (by omega);have e3:((t.set c (ce .i64 l)).set (c+1) (cK false)).getD (c+1) (.b8 [])=cK false:=db (by simp;omega);simp only[t9,cD,cj,cS,dy,dX,Opd.ev,e1,put,e2,bin,if_true,ff,hl,decide_false,e3,isBool,Zz,if_false]
def vw :∀(ss:List Seg)(c:Nat),c<=LH c ss
 |[],c=>Zi _
 | .c .str::ss,c=>Zc (by omega) (vw ss (c+7))
 | .c (.int _)::ss,c=>vw ss c
 | .c .bool::ss,c=>vw ss c
 | .c (.lst _)::ss,c=>vw ss c
 | .s _ K::ss,c=>by simp only[LH];split;exact vw ss c;exact Zc (by omega) (vw ss (c+6))
 | .l _ _::ss,c=>Zc (by omega) (vw ss (c+6))
def US :∀(ss:List Seg),(∀s∈ss,T7 Φ ext s)->∀{c:Nat}{dn row:List PV}{t:List V}{left:Int},
 t[1]? =some (ce .i64 left)->t[2]? =some (.one (.ptr 0 0 0))->0<=left->left<=1048576->5<=c->LH c ss<t.length->dW (kY ss) row->
 ∃t',cD (cf Φ ext) cR (Oe c dn.length ss) ⟨t,[.box ((dn++row).map .pv)]⟩=some (.ret,⟨t',[.box ((dn++row).map .pv)]⟩)/\ t'[4]? =some (ce .i64 (less left (gT row)))
 |[],_,c,dn,row,t,left,t1,t2,h0,h1,hc,hN,hr=>by
  obtain rfl:=ja hr;simp only[LH]at hN;have e1:t.getD 1 (.b8 [])=ce .i64 left:=getD_some t1;have e2:(t.set c (ce .i64 left)).getD c (.b8 [])=ce .i64 left:=db hN;have hl:less left (gT [])=left:=by
   have e0:gT []=0:=by simp only[gT]
   rw[e0];unfold less;rw[if_neg (by omega)];omega
  refine⟨(t.set c (ce .i64 left)).set 4 (ce .i64 left),?_,by rw[hl];exact Zd (by simp;omega)⟩;simp only[Oe,cD,cj,cS,dy,dX,Opd.ev,e1,put,e2]
 |sg::ss,a6,c,dn,row,t,left,t1,t2,h0,h1,hc,hN,hr=>by
  obtain⟨a,b,rfl,ha,hb⟩:=oY (ts:=sg.ts) hr;have a2:=nK ha;have ad:=Kd a b;have a1:=a6 sg (by simp);have ih:=fun{c dn row t left}=>US ss (fun s m=>a6 s (by simp[m])) (c:=c) (dn:=dn) (row:=row) (t:=t) (left:=left);rw[<-List.append_assoc];have skip:∀{c':Nat},gT a=0->Oe c dn.length (sg::ss)=Oe c (dn++a).length ss->LH c (sg::ss)=LH c ss->
   ∃t',cD (cf Φ ext) cR (Oe c dn.length (sg::ss)) ⟨t,[.box ((dn++a++b).map .pv)]⟩=some (.ret,⟨t',[.box ((dn++a++b).map .pv)]⟩)/\ t'[4]? =some (ce .i64 (less left (gT (a++b)))):=by intro _ e0 e1 e2;rw[e1,ad,e0,ZJ];exact ih t1 t2 h0 h1 hc (by rw[<-e2];exact hN) hb
  have go:∀{ops:List X2}{cn cm:Nat}{t':List V}{l:Int},Oe c dn.length (sg::ss)= .seq (.region ops) (.seq (t9 cn) (Oe (cn+2) (dn++a).length ss))->LH c (sg::ss)=LH (cn+2) ss->5<=cn->
   cj (cf Φ ext) ops ⟨t,[.box ((dn++a++b).map .pv)]⟩=some ⟨t',[.box ((dn++a++b).map .pv)]⟩->t'.length=t.length->t'[1]? =some (ce .i64 l)->t'[2]? =some (.one (.ptr 0 0 0))->(l<0->less left (gT a)= -1)->(¬l<0->l=less left (gT a))->
   ∃t',cD (cf Φ ext) cR (Oe c dn.length (sg::ss)) ⟨t,[.box ((dn++a++b).map .pv)]⟩=some (.ret,⟨t',[.box ((dn++a++b).map .pv)]⟩)/\ t'[4]? =some (ce .i64 (less left (gT (a++b)))):=by
   intro ops cn cm t' l e1 e2 e3 e4 e5 e6 e7 e8 e9;have a7:cn+1<t'.length:=by have:=vw ss (cn+2);omega
   rw[e1,ad];by_cases hn:l<0;obtain⟨a8,g1,g2⟩:=acq (call:=cf Φ ext) (lp:=cR) (h:=[.box ((dn++a++b).map .pv)]) e6 hn e3 a7;refine⟨a8,?_,?_⟩;simp only[cD,e4,g1];rw[g2,P9 (b:=gT b) h0 (by rw[e8 hn];omega)];have g1:=UD (call:=cf Φ ext) (lp:=cR) (h:=[.box ((dn++a++b).map .pv)]) e6 hn a7;have af:0<=less left (gT a):=by rw[<-e9 hn];omega
   obtain⟨a8,f1,f2⟩:=ih (c:=cn+2) (dn:=dn++a) (row:=b) (t:=(t'.set cn (ce .i64 l)).set (cn+1) (cK false)) (left:=l) (by rw[Za (by omega),Za (by omega)];exact e6) (by rw[Za (by omega),Za (by omega)];exact e7) (by omega) (by have:=Uw (a:=gT a) h0;rw[e9 hn];omega) (by omega) (by simp[e5];rw[<-e2];exact hN) hb;refine⟨a8,?_,?_⟩;simp only[cD,e4,g1];exact f1;rw[f2,<-xg af,e9 hn]
  have call:∀{n:Nat}{agg:Bool}{k:Nat}{v:V},Oe c dn.length (sg::ss)= .seq (.region (qd c 2 dn.length n agg++Kb c k)) (.seq (t9 (c+4)) (Oe (c+6) (dn++a).length ss))->LH c (sg::ss)=LH (c+6) ss->
   iZ agg n dn.length ((dn++(a++b)).map .pv)=some v->(∀h i,cy h [v,ce .i64 i]=some [v,ce .i64 i])->cf Φ ext k [v,ce .i64 left]=some (ce .i64 (less left (gT a)))->
   ∃t',cD (cf Φ ext) cR (Oe c dn.length (sg::ss)) ⟨t,[.box ((dn++a++b).map .pv)]⟩=some (.ret,⟨t',[.box ((dn++a++b).map .pv)]⟩)/\ t'[4]? =some (ce .i64 (less left (gT (a++b)))):=by
   intro n agg k v e1 e2 e3 e4 e5;have a7:c+5<t.length:=by have:=vw ss (c+6);omega
   rw[<-List.append_assoc]at e3;have el:=vq (t:=t) (h:=[.box ((dn++a++b).map .pv)]) t2 (c:=c) (by omega) (by omega) rfl e3 (cf Φ ext);generalize hh:[Q0.box ((dn++a++b).map L.pv)]=hp at el go⊢;have q1:((t.set c (V.one (.ptr 0 0 dn.length))).set (c+1) v).getD 1 (.b8 [])=ce .i64 left:=by rw[gI (by omega),gI (by omega)];exact getD_some t1
   have q2:(((t.set c (V.one (.ptr 0 0 dn.length))).set (c+1) v).set (c+2) (ce .i64 left)).getD (c+1) (.b8 [])=v:=by rw[gI (by omega)];exact db (by simp;omega)
   have q3:(((t.set c (V.one (.ptr 0 0 dn.length))).set (c+1) v).set (c+2) (ce .i64 left)).getD (c+2) (.b8 [])=ce .i64 left:=db (by simp;omega);have q4:((((t.set c (V.one (.ptr 0 0 dn.length))).set (c+1) v).set (c+2) (ce .i64 left)).set (c+3) (ce .i64 (less left (gT a)))).getD (c+3) (.b8 [])=ce .i64 (less left (gT a)):=db (by simp;omega);refine go (ops:=qd c 2 dn.length n agg++Kb c k) (cn:=c+4) (cm:=0) (l:=less left (gT a)) (t':=((((t.set c (V.one (.ptr 0 0 dn.length))).set (c+1) v).set (c+2) (ce .i64 left)).set (c+3) (ce .i64 (less left (gT a)))).set 1 (ce .i64 (less left (gT a)))) e1 e2 (by omega) ?_ (by simp) (Zd (by simp;omega)) ?_ (fun hn=>Uv hn h0) (fun _=>rfl);rw[fe _ _ _ el];simp only[Kb,cj,cS,dy,dX,Opd.ev,q1,put,YI,if_true,Zt,Zy,q2,q3,e4,e5,V.flat,L.flat,Yv,ZY,Zz,if_false,fb,ft,q4];rw[Za (by omega),Za (by omega),Za (by omega),Za (by omega),Za (by omega)];exact t2
  cases sg with
  |c ty=>
   simp only[Seg.ts,ZI]at a2 ha;obtain⟨p,rfl⟩:=ZN.1 a2;have hlen:(dn++[p]).length=dn.length+1:=by simp
   cases ty with
   |lst us=>cases a1
   |int k=>obtain⟨n,rfl⟩:=qh ha.1;exact skip (c':=0) (by simp only[gT,sz]) (by rw[hlen];rfl) rfl
   |bool=>obtain⟨n,rfl⟩:=oZ ha.1;exact skip (c':=0) (by simp only[gT,sz]) (by rw[hlen];rfl) rfl
   |str=>
    obtain⟨s,rfl⟩:=oh ha.1;have hs:s.length<=maxLen:=ha.1;unfold maxLen at hs;have ae:gT [PV.str s]=s.length:=by simp only[gT,sz,Yx]
    have a7:c+7<t.length:=by have:=vw ss (c+7);simp only[LH]at hN;omega
    have hw:IntKind.i64.wrap (left-(s.length:Int))=left-s.length:=by rw[IntKind.wrap_i64];omega
    have a5:iZ false 1 dn.length ((dn++[PV.str s]++b).map .pv)=some (fY s):=by rw[List.append_assoc];exact ql (agg:=false) (a:=[.str s]) (.inr rfl)
    have el:=vq (x:=2) (ox:=0) (t:=t.set c (ce .i64 left)) (h:=[.box ((dn++[PV.str s]++b).map .pv)]) (by rw[Za (by omega)];exact t2) (c:=c+1) (by omega) (by simp;omega) rfl a5 (cf Φ ext);generalize hh:[Q0.box ((dn++[PV.str s]++b).map L.pv)]=hp at el go⊢;have q1:t.getD 1 (.b8 [])=ce .i64 left:=getD_some t1;generalize hT:((t.set c (ce .i64 left)).set (c+1) (V.one (.ptr 0 0 dn.length))).set (c+1+1) (fY s)=T at el;have lT:T.length=t.length:=by rw[<-hT];simp
    have q2:T.getD (c+2) (.b8 [])=fY s:=by rw[<-hT];exact db (by simp;omega)
    have q3:(T.set (c+3) (ce .i64 s.length)).getD c (.b8 [])=ce .i64 left:=by rw[gI (by omega),<-hT,gI (by omega),gI (by omega)];exact db (by omega)
    have q4:(T.set (c+3) (ce .i64 s.length)).getD (c+3) (.b8 [])=ce .i64 s.length:=db (by omega);have q5:((T.set (c+3) (ce .i64 s.length)).set (c+4) (ce .i64 (left-s.length))).getD (c+4) (.b8 [])=ce .i64 (left-s.length):=db (by simp;omega);refine go (cn:=c+5) (cm:=0) (l:=left-s.length) (t':=((T.set (c+3) (ce .i64 s.length)).set (c+4) (ce .i64 (left-s.length))).set 1 (ce .i64 (left-s.length))) (by rw[hlen];rfl) rfl (by omega) ?_ (by simp[lT]) (Zd (by simp;omega)) ?_ (fun hn=>by rw[ae];exact acl (by omega)) (fun hn=>by rw[ae];unfold less;rw[if_neg (by omega)]);simp only[Zh,cj];simp only[cS,dy,dX,Opd.ev,q1,put];rw[fe _ _ _ el];simp only[cj,cS,dy,dX,Opd.ev,q2,isStr,put,q3,q4,bin,if_true,ff,hw,q5];rw[Za (by omega),Za (by omega),Za (by omega),<-hT,Za (by omega),Za (by omega),Za (by omega)];exact t2
  |s ts K=>
   simp only[Seg.ts]at a2 ha;have hlen:(dn++a).length=dn.length+ts.length:=by simp[a2]
   by_cases hk:K.ks=0;simp only[T7,hk,if_true]at a1;exact skip (c':=0) (Ke a1 ha) (by rw[hlen];simp only[Oe,hk,if_true]) (by simp only[LH,hk,if_true]);simp only[T7,hk,if_false]at a1;exact call (n:=ts.length) (agg:=true) (v:= .agg (a.map .pv)) (by rw[hlen];simp only[Oe,hk,if_false]) (by simp only[LH,hk,if_false]) (by rw[<-a2];exact ql (agg:=true) (.inl rfl)) (fun h i=>by simp only[cy,xy];rfl) (a1 a ha left h0 h1)
  |l ts K=>
   simp only[Seg.ts,ZI]at a2 ha;obtain⟨p,rfl⟩:=ZN.1 a2;obtain⟨rows,rfl⟩:=sB ha.1;have hlen:(dn++[PV.lst rows]).length=dn.length+1:=by simp
   exact call (n:=1) (agg:=false) (v:=eQ rows) (by rw[hlen];rfl) rfl (ql (agg:=false) (a:=[.lst rows]) (.inr rfl)) (fun h i=>rfl) (by have:=a1 rows ha.1 left h0 h1;simpa only[gT,Yx]using this)
def fX {k:Nat}{ss:List Seg}(hk:Φ k=some (jG ss))(a6:∀s∈ss,T7 Φ ext s):o7 Φ ext k (kY ss):=by
 intro r hr left h0 h1;refine jg hk ?_;have hle:=vw ss 5;obtain⟨m,hm⟩:∃m,LH 5 ss+1-2=m+4:=⟨LH 5 ss-5,by omega⟩;have aa:(r.map L.pv).all plain=true:=by simp[plain]
 obtain⟨t',e1,e2⟩:=US ss a6 (c:=5) (dn:=[]) (row:=r) (t:=V.agg (r.map .pv)::ce .i64 left::V.one (.ptr 0 0 0):: .b8 []::ce .i64 0::List.replicate (m+1) (.b8 [])) (left:=left) rfl rfl h0 h1 (by omega) (by simp;omega) hr;have ab:iI Φ ext (jG ss).body (start (jG ss) [.agg (r.map .pv),ce .i64 left])=some (.ret,⟨t',[.box (r.map .pv)]⟩):=by simp only[iI,jG,start,Zo,Zx,ZJ,Nat.reduceAdd,hm,cD,cj,cS,dy,dX,eX,Opd.ev,put,Qa,Zh,Zj,Yz,Yf,ZP,V.cells,aa,if_true];exact e1
 rw[ab];simp only[done,jG,dd,cu,eY,getD_some e2,Y',YE,Zw,V.cells,ee,comp,cV,dS];simp[cz]
def og (Φ:Nat->Option AFn)(ext:Nat->List V->Option V)(k:Nat)(ts:List PTy):Prop:=
 ∀r:List PV,dW ts r->cf Φ ext k [.agg (r.map .pv), .agg (r.map .pv)]=some (cK true)
def oH (Φ:Nat->Option AFn)(ext:Nat->List V->Option V)(k:Nat)(ts:List PTy):Prop:=
 ∀rows:List (List PV),qa (.lst ts) (.lst rows)->cf Φ ext k [eQ rows,eQ rows]=some (cK true)
def acS (Φ:Nat->Option AFn)(ext:Nat->List V->Option V):Seg->Prop
 | .c t=>t.flatT=true
 | .s ts K=>og Φ ext K.ke ts
 | .l ts K=>oH Φ ext K.ke ts
def Ee :∀(ss:List Seg)(c:Nat),c<=VH c ss
 |[],c=>Zi _
 | .c _::ss,c=>Zc (by omega) (Ee ss (c+5))
 | .s _ _::ss,c=>Zc (by omega) (Ee ss (c+6))
 | .l _ _::ss,c=>Zc (by omega) (Ee ss (c+6))
def Ud :∀(ss:List Seg),(∀s∈ss,acS Φ ext s)->∀{c:Nat}{dn row:List PV}{t:List V},
 t[2]? =some (.one (.ptr 0 0 0))->t[3]? =some (.one (.ptr 1 0 0))->5<=c->VH c ss<=t.length->dW (kY ss) row->
 ∃t',cD (cf Φ ext) cR (WV c dn.length ss) ⟨t,[.box ((dn++row).map .pv), .box ((dn++row).map .pv)]⟩=some (.ret,⟨t',[.box ((dn++row).map .pv), .box ((dn++row).map .pv)]⟩)/\ t'[4]? =some (cK true)
 |[],_,c,dn,row,t,t2,t3,hc,hN,hr=>by simp only[VH]at hN;refine⟨t.set 4 (cK true),?_,Zd (by omega)⟩;simp only[WV,cD,cj,cS,dy,dX,Opd.ev,put]
 |sg::ss,a6,c,dn,row,t,t2,t3,hc,hN,hr=>by
  obtain⟨a,b,rfl,ha,hb⟩:=oY (ts:=sg.ts) hr;have a2:=nK ha;have a1:=a6 sg (by simp);have ih:=fun{c dn row t}=>Ud ss (fun s m=>a6 s (by simp[m])) (c:=c) (dn:=dn) (row:=row) (t:=t);rw[<-List.append_assoc];generalize hh:[Q0.box ((dn++a++b).map L.pv), .box ((dn++a++b).map L.pv)]=hp;have go:∀{ops:List X2}{cn:Nat}{t':List V},WV c dn.length (sg::ss)= .seq (.seq (.region ops) (.cond (.tmp cn) Rs .skip)) (WV (cn+1) (dn++a).length ss)->VH c (sg::ss)=VH (cn+1) ss->4<=cn->
   cj (cf Φ ext) ops ⟨t,hp⟩=some ⟨t',hp⟩->t'.length=t.length->t'[cn]? =some (cK false)->t'[2]? =t[2]? ->t'[3]? =t[3]? ->
   ∃t',cD (cf Φ ext) cR (WV c dn.length (sg::ss)) ⟨t,hp⟩=some (.ret,⟨t',hp⟩)/\ t'[4]? =some (cK true):=by intro ops cn t' e1 e2 e3 e4 e5 e6 e7 e8;obtain⟨a8,f1,f2⟩:=ih (c:=cn+1) (dn:=dn++a) (row:=b) (t:=t') (e7.trans t2) (e8.trans t3) (by omega) (by rw[e5,<-e2];exact hN) hb;rw[hh]at f1;refine⟨a8,?_,f2⟩;rw[e1];simp only[cD,e4,Opd.ev,getD_some e6,isBool,Zz,if_false];exact f1
  have ag:hp[0]? =some (.box ((dn++a++b).map .pv)):=by rw[<-hh];rfl
  have ah:hp[1]? =some (.box ((dn++a++b).map .pv)):=by rw[<-hh];rfl
  have ld:∀{n:Nat}{agg:Bool}{v:V},iZ agg n dn.length ((dn++a++b).map .pv)=some v->c+3<t.length->∃T,cj (cf Φ ext) (qd c 2 dn.length n agg++qd (c+2) 3 dn.length n agg) ⟨t,hp⟩=some ⟨T,hp⟩/\ T.length=t.length/\ T.getD (c+1) (.b8 [])=v/\ T.getD (c+3) (.b8 [])=v/\ T[2]? =t[2]? /\ T[3]? =t[3]? :=by intro n agg v a5 hlt;have ai:=vq (t:=t) (h:=hp) t2 (c:=c) (by omega) (by omega) ag a5 (cf Φ ext);have aj:=vq (t:=(t.set c (.one (.ptr 0 0 dn.length))).set (c+1) v) (h:=hp) (x:=3) (ox:=1) (by rw[Za (by omega),Za (by omega)];exact t3) (c:=c+2) (by omega) (by simp;omega) ah a5 (cf Φ ext);refine⟨_,(fe _ _ _ ai).trans aj,by simp,?_,?_,?_,?_⟩;rw[gI (by omega),gI (by omega)];exact db (by simp;omega);exact db (by simp;omega);rw[Za (by omega),Za (by omega),Za (by omega),Za (by omega)];rw[Za (by omega),Za (by omega),Za (by omega),Za (by omega)]
  have call:∀{n:Nat}{agg:Bool}{k:Nat}{v:V},WV c dn.length (sg::ss)= .seq (.seq (.region (qd c 2 dn.length n agg++(qd (c+2) 3 dn.length n agg++[⟨some (c+4), .call k [.tmp (c+1), .tmp (c+3)] true false,none⟩,⟨some (c+5), .un .not (.tmp (c+4)),none⟩]))) (.cond (.tmp (c+5)) Rs .skip)) (WV (c+6) (dn++a).length ss)->VH c (sg::ss)=VH (c+6) ss->
   iZ agg n dn.length ((dn++(a++b)).map .pv)=some v->(∀h,cy h [v,v]=some [v,v])->cf Φ ext k [v,v]=some (cK true)->
   ∃t',cD (cf Φ ext) cR (WV c dn.length (sg::ss)) ⟨t,hp⟩=some (.ret,⟨t',hp⟩)/\ t'[4]? =some (cK true):=by
   intro n agg k v e1 e2 e3 e4 e5;have a7:c+6<=t.length:=by have:=Ee ss (c+6);omega
   rw[<-List.append_assoc]at e3;obtain⟨T,g1,g2,g3,g4,g5,g6⟩:=ld e3 (by omega);have q1:(T.set (c+4) (cK true)).getD (c+4) (.b8 [])=cK true:=db (by omega);refine go (cn:=c+5) (t':=(T.set (c+4) (cK true)).set (c+5) (cK false)) e1 e2 (by omega) ?_ (by simp[g2]) (Zd (by simp;omega)) (by rw[Za (by omega),Za (by omega)];exact g5) (by rw[Za (by omega),Za (by omega)];exact g6);rw[<-List.append_assoc,fe _ _ _ g1];simp only[cj,cS,dy,dX,Opd.ev,g3,g4,put,YI,if_true,Zt,Zy,e4,e5,V.flat,L.flat,Yv,ZY,Zz,if_false,fb,ft,q1,un]
  cases sg with
  |c ty=>
   simp only[Seg.ts,ZI]at a2 ha;obtain⟨p,rfl⟩:=ZN.1 a2;have hlen:(dn++[p]).length=dn.length+1:=by simp
   have a7:c+5<=t.length:=by have:=Ee ss (c+5);simp only[VH]at hN;omega
   have a5:iZ false 1 dn.length ((dn++[p]++b).map .pv)=some (.one (.pv p)):=by rw[List.append_assoc];exact ql (agg:=false) (a:=[p]) (.inr rfl)
   obtain⟨T,g1,g2,g3,g4,g5,g6⟩:=ld a5 (by omega);refine go (cn:=c+4) (t':=T.set (c+4) (cK false)) (by rw[hlen];rfl) rfl (by omega) ?_ (by simp[g2]) (Zd (by omega)) (by rw[Za (by omega)];exact g5) (by rw[Za (by omega)];exact g6);rw[<-List.append_assoc,fe _ _ _ g1];cases ty with
   |lst us=>cases a1
   |int k=>obtain⟨n,rfl⟩:=qh ha.1;simp only[cj,cS,dy,dX,Lz,Opd.ev,g3,g4,put,bin,if_true,ff,bne_self_eq_false]
   |bool=>obtain⟨n,rfl⟩:=oZ ha.1;simp only[cj,cS,dy,dX,Lz,Opd.ev,g3,g4,put,isBool,if_true,beq_self_eq_true,Yv]
   |str=>obtain⟨n,rfl⟩:=oh ha.1;simp only[cj,cS,dy,dX,Lz,Opd.ev,g3,g4,put,bin,mA,beq_self_eq_true,Yv]
  |s ts K=>
   simp only[Seg.ts]at a2 ha;have hlen:(dn++a).length=dn.length+ts.length:=by simp[a2]
   exact call (n:=ts.length) (agg:=true) (v:= .agg (a.map .pv)) (by rw[hlen];rfl) rfl (by rw[<-a2];exact ql (agg:=true) (.inl rfl)) (fun h=>by simp only[cy,xy]) (a1 a ha)
  |l ts K=>
   simp only[Seg.ts,ZI]at a2 ha;obtain⟨p,rfl⟩:=ZN.1 a2;obtain⟨rows,rfl⟩:=sB ha.1;have hlen:(dn++[PV.lst rows]).length=dn.length+1:=by simp
   exact call (n:=1) (agg:=false) (v:=eQ rows) (by rw[hlen];rfl) rfl (ql (agg:=false) (a:=[.lst rows]) (.inr rfl)) (fun h=>rfl) (a1 rows ha.1)
def fP {k:Nat}{ss:List Seg}(hk:Φ k=some (jt ss))(a6:∀s∈ss,acS Φ ext s):og Φ ext k (kY ss):=by
 intro r hr;refine jg hk ?_;have hle:=Ee ss 5;obtain⟨m,hm⟩:∃m,VH 5 ss-2=m+3:=⟨VH 5 ss-5,by omega⟩;have aa:(r.map L.pv).all plain=true:=by simp[plain]
 obtain⟨t',e1,e2⟩:=Ud ss a6 (c:=5) (dn:=[]) (row:=r) (t:=V.agg (r.map .pv)::V.agg (r.map .pv)::V.one (.ptr 0 0 0)::V.one (.ptr 1 0 0)::cK false::List.replicate m (.b8 [])) rfl rfl (by omega) (by simp;omega) hr;have ab:iI Φ ext (jt ss).body (start (jt ss) [.agg (r.map .pv), .agg (r.map .pv)])=some (.ret,⟨t',[.box (r.map .pv), .box (r.map .pv)]⟩):=by simp only[iI,jt,start,Zo,Zx,ZJ,Nat.reduceAdd,hm,cD,cj,cS,dy,dX,eX,Opd.ev,put,Qa,Zh,Zj,Yz,Qb,Yf,ZP,V.cells,aa,if_true];exact e1
 rw[ab];simp only[done,jt,dd,cu,eY,getD_some e2,Y',YE,Zw,V.cells,ee,comp,cV,dS];simp[cz]
def aeg (P:Seg->Prop):List Seg->Prop
 |[]=>True
 |s::ss=>P s/\ aeg P ss
def eu {P:Seg->Prop}:∀{ss:List Seg},aeg P ss->∀s∈ss,P s
 |[],_,_,h=>by cases h
 |x::xs,h,s,hm=>by rcases ZF.1 hm with rfl|hm;exact h.1;exact eu h.2 s hm
def nD {k z kx:Nat}{ts:List PTy}(hk:Φ k=some (Ol z kx))(hz:ts.length=z)(hx:o7 Φ ext kx ts):oI Φ ext k ts:=by intro rows h left h0 h1;obtain⟨hl,hr⟩:=dJ h;rw[mG];exact adZ hk (fun r m=>by rw[nK (hr r m),hz]) hl (fun r m=>hx r (hr r m)) h0 h1
def HW {k:Nat}{ts:List PTy}(hk:Φ k=some szF)(ha:ts.all PTy.small=true):oI Φ ext k ts:=by intro rows h left h0 h1;obtain⟨hl,hr⟩:=dJ h;rw[mG,Gt ha hr];exact adY hk hl h0 h1
def lw {k z kx:Nat}{ts:List PTy}(hk:Φ k=some (tt 27 (i7 z kx)))(hz:ts.length=z)(hx:og Φ ext kx ts):oH Φ ext k ts:=by intro rows h;obtain⟨hl,hr⟩:=dJ h;exact adz hk (fun r m=>by rw[nK (hr r m),hz]) hl (fun r m=>hx r (hr r m))
def Nc {k:Nat}{t:PTy}(hk:Φ k=some (tt 26 t6))(ht:t.cf=true):oH Φ ext k [t]:=by intro rows h;obtain⟨hl,hr⟩:=dJ h;obtain⟨qs,rfl⟩:=UP hr;exact ady hk (adM ht hr) (by simpa using hl)
end
end Gi
