/- Of this proof. -/
import Derived.Test.YtpnolnkjijmfjaaGreatGpd
set_option linter.all false
namespace Gi
open Go Go.RowKit
def KA (c ks:Nat):List X2:=[⟨some (c+2), .mv (.tmp 1),none⟩,⟨some (c+3), .call ks [.tmp (c+1), .tmp (c+2)] true false,none⟩,⟨some 1, .mv (.tmp (c+3)),none⟩]
def OF :Nat->Nat->List Seg->Q7
 |c,_,[]=> .seq (.region [⟨some c, .mv (.tmp 1),none⟩,⟨some 4, .mv (.tmp c),none⟩]) .ret
 |c,off, .c .str::ss=> .seq (.region (⟨some c, .mv (.tmp 1),none⟩::qn (c+1) 2 off 1 false++[⟨some (c+3), .cN (.tmp (c+2)),none⟩,⟨some (c+4), .bin .sub (.tmp c) (.tmp (c+3)),none⟩,⟨some 1, .mv (.tmp (c+4)),none⟩])) (.seq (uo (c+5)) (OF (c+7) (off+1) ss))
 |c,off, .c _::ss=>OF c (off+1) ss
 |c,off, .s ts K::ss=>if K.ks=0 then OF c (off+ts.length) ss else .seq (.region (qn c 2 off ts.length true++KA c K.ks)) (.seq (uo (c+4)) (OF (c+6) (off+ts.length) ss))
 |c,off, .l _ K::ss=> .seq (.region (qn c 2 off 1 false++KA c K.ks)) (.seq (uo (c+4)) (OF (c+6) (off+1) ss))
def L6 :Nat->List Seg->Nat
 |c,[]=>c
 |c, .c .str::ss=>L6 (c+7) ss
 |c, .c _::ss=>L6 c ss
 |c, .s _ K::ss=>if K.ks=0 then L6 c ss else L6 (c+6) ss
 |c, .l _ _::ss=>L6 (c+6) ss
def jL (ss:List Seg):AFn:=⟨L6 5 ss+1,[.tmp 4], .seq (.region [⟨some 2, .box (.tmp 0),none⟩,⟨some 4, .mv (.pv (.int .i64 0)),none⟩]) (OF 5 0 ss)⟩
def RV :Q7:= .seq (.region [⟨some 4, .mv (.pv (.bool false)),none⟩]) .ret
def LY (t:PTy)(x y:Opd):AOp:=match t with
 | .bool=> .cX true x y
 |_=> .bin .neq x y
def eqC :Nat->Nat->List Seg->Q7
 |_,_,[]=> .seq (.region [⟨some 4, .mv (.pv (.bool true)),none⟩]) .ret
 |c,off, .c t::ss=> .seq (.seq (.region (qn c 2 off 1 false++(qn (c+2) 3 off 1 false++[⟨some (c+4),LY t (.tmp (c+1)) (.tmp (c+3)),none⟩]))) (.cond (.tmp (c+4)) RV .skip)) (eqC (c+5) (off+1) ss)
 |c,off, .s ts K::ss=> .seq (.seq (.region (qn c 2 off ts.length true++(qn (c+2) 3 off ts.length true++[⟨some (c+4), .call K.ke [.tmp (c+1), .tmp (c+3)] true false,none⟩,⟨some (c+5), .un .not (.tmp (c+4)),none⟩]))) (.cond (.tmp (c+5)) RV .skip)) (eqC (c+6) (off+ts.length) ss)
 |c,off, .l _ K::ss=> .seq (.seq (.region (qn c 2 off 1 false++(qn (c+2) 3 off 1 false++[⟨some (c+4), .call K.ke [.tmp (c+1), .tmp (c+3)] true false,none⟩,⟨some (c+5), .un .not (.tmp (c+4)),none⟩]))) (.cond (.tmp (c+5)) RV .skip)) (eqC (c+6) (off+1) ss)
def Wc :Nat->List Seg->Nat
 |c,[]=>c
 |c, .c _::ss=>Wc (c+5) ss
 |c,_::ss=>Wc (c+6) ss
def jx (ss:List Seg):AFn:=⟨Wc 5 ss,[.tmp 4], .seq (.region [⟨some 2, .box (.tmp 0),none⟩,⟨some 3, .box (.tmp 1),none⟩,⟨some 4, .mv (.pv (.bool false)),none⟩]) (eqC 5 0 ss)⟩
section
variable {Φ:Nat->Option AFn}{ext:Nat->List V->Option V}
def ph (Φ:Nat->Option AFn)(ext:Nat->List V->Option V)(k:Nat)(ts:List PTy):Prop:=∀r:List PV,dX ts r->Im Φ ext k r
def oQ (Φ:Nat->Option AFn)(ext:Nat->List V->Option V)(k:Nat)(ts:List PTy):Prop:=
 ∀rows:List (List PV),mY (.lst ts) (.lst rows)->∀left:Int,0<=left->left<=1048576->cf Φ ext k [eW rows,ce .i64 left]=some (ce .i64 (less left (sz (.lst rows))))
def Uu (Φ:Nat->Option AFn)(ext:Nat->List V->Option V):Seg->Prop
 | .c t=>t.flatT=true
 | .s ts K=>if K.ks=0 then ts.all PTy.small=true else ph Φ ext K.ks ts
 | .l ts K=>oQ Φ ext K.ks ts
def acZ {call:Nat->List V->Option V}{lp}{c:Nat}{t:List V}{h:List Q0}{l:Int}(h1:t[1]? =some (ce .i64 l))(hl:l<0)(hc:5<=c)(hlt:c+1<t.length):
 ∃t',cD call lp (uo c) ⟨t,h⟩=some (.ret,⟨t',h⟩)/\ t'[4]? =some (ce .i64 (-1)):=by have e1:t.getD 1 (.b8 [])=ce .i64 l:=getD_some h1;have e2:(t.set c (ce .i64 l)).getD c (.b8 [])=ce .i64 l:=de (by omega);have e3:((t.set c (ce .i64 l)).set (c+1) (cL true)).getD (c+1) (.b8 [])=cL true:=de (by simp;omega);refine⟨((t.set c (ce .i64 l)).set (c+1) (cL true)).set 4 (ce .i64 (-1)),?_,Zd (by simp;omega)⟩;simp only[uo,cD,cj,cT,dG,dY,Opd.ev,e1,put,e2,bin,if_true,ft,hl,decide_true,e3,isBool]
def U2 {call:Nat->List V->Option V}{lp}{c:Nat}{t:List V}{h:List Q0}{l:Int}(h1:t[1]? =some (ce .i64 l))(hl:¬l<0)(hlt:c+1<t.length):
 cD call lp (uo c) ⟨t,h⟩=some (.normal,⟨(t.set c (ce .i64 l)).set (c+1) (cL false),h⟩):=by have e1:t.getD 1 (.b8 [])=ce .i64 l:=getD_some h1;have e2:(t.set c (ce .i64 l)).getD c (.b8 [])=ce .i64 l:=de (by omega);have e3:((t.set c (ce .i64 l)).set (c+1) (cL false)).getD (c+1) (.b8 [])=cL false:=de (by simp;omega);simp only[uo,cD,cj,cT,dG,dY,Opd.ev,e1,put,e2,bin,if_true,ft,hl,decide_false,e3,isBool,ZA,if_false]
def vK :∀(ss:List Seg)(c:Nat),c<=L6 c ss
 |[],c=>Zi _
 | .c .str::ss,c=>Zc (by omega) (vK ss (c+7))
 | .c (.int _)::ss,c=>vK ss c
 | .c .bool::ss,c=>vK ss c
 | .c (.lst _)::ss,c=>vK ss c
 | .s _ K::ss,c=>by simp only[L6];split;exact vK ss c;exact Zc (by omega) (vK ss (c+6))
 | .l _ _::ss,c=>Zc (by omega) (vK ss (c+6))
def Vl :∀(ss:List Seg),(∀s∈ss,Uu Φ ext s)->∀{c:Nat}{dn row:List PV}{t:List V}{left:Int},
 t[1]? =some (ce .i64 left)->t[2]? =some (.one (.ptr 0 0 0))->0<=left->left<=1048576->5<=c->L6 c ss<t.length->dX (lh ss) row->
 ∃t',cD (cf Φ ext) cS (OF c dn.length ss) ⟨t,[.box ((dn++row).map .pv)]⟩=some (.ret,⟨t',[.box ((dn++row).map .pv)]⟩)/\ t'[4]? =some (ce .i64 (less left (gV row)))
 |[],_,c,dn,row,t,left,t1,t2,h0,h1,hc,hN,hr=>by
  obtain rfl:=jT hr;simp only[L6]at hN;have e1:t.getD 1 (.b8 [])=ce .i64 left:=getD_some t1;have e2:(t.set c (ce .i64 left)).getD c (.b8 [])=ce .i64 left:=de hN;have hl:less left (gV [])=left:=by
   have e0:gV []=0:=by simp only[gV]
   rw[e0];unfold less;rw[if_neg (by omega)];omega
  refine⟨(t.set c (ce .i64 left)).set 4 (ce .i64 left),?_,by rw[hl];exact Zd (by simp;omega)⟩;simp only[OF,cD,cj,cT,dG,dY,Opd.ev,e1,put,e2]
 |sg::ss,a6,c,dn,row,t,left,t1,t2,h0,h1,hc,hN,hr=>by
  obtain⟨a,b,rfl,ha,hb⟩:=pf (ts:=sg.ts) hr;have a2:=nT ha;have ad:=KC a b;have a1:=a6 sg (by simp);have ih:=fun{c dn row t left}=>Vl ss (fun s m=>a6 s (by simp[m])) (c:=c) (dn:=dn) (row:=row) (t:=t) (left:=left);rw[<-List.append_assoc];have skip:∀{c':Nat},gV a=0->OF c dn.length (sg::ss)=OF c (dn++a).length ss->L6 c (sg::ss)=L6 c ss->
   ∃t',cD (cf Φ ext) cS (OF c dn.length (sg::ss)) ⟨t,[.box ((dn++a++b).map .pv)]⟩=some (.ret,⟨t',[.box ((dn++a++b).map .pv)]⟩)/\ t'[4]? =some (ce .i64 (less left (gV (a++b)))):=by intro _ e0 e1 e2;rw[e1,ad,e0,ZK];exact ih t1 t2 h0 h1 hc (by rw[<-e2];exact hN) hb
  have go:∀{ops:List X2}{cn cm:Nat}{t':List V}{l:Int},OF c dn.length (sg::ss)= .seq (.region ops) (.seq (uo cn) (OF (cn+2) (dn++a).length ss))->L6 c (sg::ss)=L6 (cn+2) ss->5<=cn->
   cj (cf Φ ext) ops ⟨t,[.box ((dn++a++b).map .pv)]⟩=some ⟨t',[.box ((dn++a++b).map .pv)]⟩->t'.length=t.length->t'[1]? =some (ce .i64 l)->t'[2]? =some (.one (.ptr 0 0 0))->(l<0->less left (gV a)= -1)->(¬l<0->l=less left (gV a))->
   ∃t',cD (cf Φ ext) cS (OF c dn.length (sg::ss)) ⟨t,[.box ((dn++a++b).map .pv)]⟩=some (.ret,⟨t',[.box ((dn++a++b).map .pv)]⟩)/\ t'[4]? =some (ce .i64 (less left (gV (a++b)))):=by
   intro ops cn cm t' l e1 e2 e3 e4 e5 e6 e7 e8 e9;have a7:cn+1<t'.length:=by have:=vK ss (cn+2);omega
   rw[e1,ad];by_cases hn:l<0;obtain⟨a8,g1,g2⟩:=acZ (call:=cf Φ ext) (lp:=cS) (h:=[.box ((dn++a++b).map .pv)]) e6 hn e3 a7;refine⟨a8,?_,?_⟩;simp only[cD,e4,g1];rw[g2,Ry (b:=gV b) h0 (by rw[e8 hn];omega)];have g1:=U2 (call:=cf Φ ext) (lp:=cS) (h:=[.box ((dn++a++b).map .pv)]) e6 hn a7;have af:0<=less left (gV a):=by rw[<-e9 hn];omega
   obtain⟨a8,f1,f2⟩:=ih (c:=cn+2) (dn:=dn++a) (row:=b) (t:=(t'.set cn (ce .i64 l)).set (cn+1) (cL false)) (left:=l) (by rw[Za (by omega),Za (by omega)];exact e6) (by rw[Za (by omega),Za (by omega)];exact e7) (by omega) (by have:=UV (a:=gV a) h0;rw[e9 hn];omega) (by omega) (by simp[e5];rw[<-e2];exact hN) hb;refine⟨a8,?_,?_⟩;simp only[cD,e4,g1];exact f1;rw[f2,<-xx af,e9 hn]
  have call:∀{n:Nat}{agg:Bool}{k:Nat}{v:V},OF c dn.length (sg::ss)= .seq (.region (qn c 2 dn.length n agg++KA c k)) (.seq (uo (c+4)) (OF (c+6) (dn++a).length ss))->L6 c (sg::ss)=L6 (c+6) ss->
   ja agg n dn.length ((dn++(a++b)).map .pv)=some v->(∀h i,cy h [v,ce .i64 i]=some [v,ce .i64 i])->cf Φ ext k [v,ce .i64 left]=some (ce .i64 (less left (gV a)))->
   ∃t',cD (cf Φ ext) cS (OF c dn.length (sg::ss)) ⟨t,[.box ((dn++a++b).map .pv)]⟩=some (.ret,⟨t',[.box ((dn++a++b).map .pv)]⟩)/\ t'[4]? =some (ce .i64 (less left (gV (a++b)))):=by
   intro n agg k v e1 e2 e3 e4 e5;have a7:c+5<t.length:=by have:=vK ss (c+6);omega
   rw[<-List.append_assoc]at e3;have el:=vG (t:=t) (h:=[.box ((dn++a++b).map .pv)]) t2 (c:=c) (by omega) (by omega) rfl e3 (cf Φ ext);generalize hh:[Q0.box ((dn++a++b).map L.pv)]=hp at el go⊢;have q1:((t.set c (V.one (.ptr 0 0 dn.length))).set (c+1) v).getD 1 (.b8 [])=ce .i64 left:=by rw[gK (by omega),gK (by omega)];exact getD_some t1
   have q2:(((t.set c (V.one (.ptr 0 0 dn.length))).set (c+1) v).set (c+2) (ce .i64 left)).getD (c+1) (.b8 [])=v:=by rw[gK (by omega)];exact de (by simp;omega)
   have q3:(((t.set c (V.one (.ptr 0 0 dn.length))).set (c+1) v).set (c+2) (ce .i64 left)).getD (c+2) (.b8 [])=ce .i64 left:=de (by simp;omega);have q4:((((t.set c (V.one (.ptr 0 0 dn.length))).set (c+1) v).set (c+2) (ce .i64 left)).set (c+3) (ce .i64 (less left (gV a)))).getD (c+3) (.b8 [])=ce .i64 (less left (gV a)):=de (by simp;omega);refine go (ops:=qn c 2 dn.length n agg++KA c k) (cn:=c+4) (cm:=0) (l:=less left (gV a)) (t':=((((t.set c (V.one (.ptr 0 0 dn.length))).set (c+1) v).set (c+2) (ce .i64 left)).set (c+3) (ce .i64 (less left (gV a)))).set 1 (ce .i64 (less left (gV a)))) e1 e2 (by omega) ?_ (by simp) (Zd (by simp;omega)) ?_ (fun hn=>UU hn h0) (fun _=>rfl);rw[fq _ _ _ el];simp only[KA,cj,cT,dG,dY,Opd.ev,q1,put,YJ,if_true,Zt,Zy,q2,q3,e4,e5,V.flat,L.flat,Yv,ZY,ZA,if_false,fe,fv,q4];rw[Za (by omega),Za (by omega),Za (by omega),Za (by omega),Za (by omega)];exact t2
  cases sg with
  |c ty=>
   simp only[Seg.ts,ZJ]at a2 ha;obtain⟨p,rfl⟩:=ZN.1 a2;have hlen:(dn++[p]).length=dn.length+1:=by simp
   cases ty with
   |lst us=>cases a1
   |int k=>obtain⟨n,rfl⟩:=qu ha.1;exact skip (c':=0) (by simp only[gV,sz]) (by rw[hlen];rfl) rfl
   |bool=>obtain⟨n,rfl⟩:=pg ha.1;exact skip (c':=0) (by simp only[gV,sz]) (by rw[hlen];rfl) rfl
   |str=>
    obtain⟨s,rfl⟩:=qv ha.1;have hs:s.length<=maxLen:=ha.1;unfold maxLen at hs;have ae:gV [PV.str s]=s.length:=by simp only[gV,sz,Yx]
    have a7:c+7<t.length:=by have:=vK ss (c+7);simp only[L6]at hN;omega
    have hw:IntKind.i64.wrap (left-(s.length:Int))=left-s.length:=by rw[IntKind.wrap_i64];omega
    have a5:ja false 1 dn.length ((dn++[PV.str s]++b).map .pv)=some (fZ s):=by rw[List.append_assoc];exact qz (agg:=false) (a:=[.str s]) (.inr rfl)
    have el:=vG (x:=2) (ox:=0) (t:=t.set c (ce .i64 left)) (h:=[.box ((dn++[PV.str s]++b).map .pv)]) (by rw[Za (by omega)];exact t2) (c:=c+1) (by omega) (by simp;omega) rfl a5 (cf Φ ext);generalize hh:[Q0.box ((dn++[PV.str s]++b).map L.pv)]=hp at el go⊢;have q1:t.getD 1 (.b8 [])=ce .i64 left:=getD_some t1;generalize hT:((t.set c (ce .i64 left)).set (c+1) (V.one (.ptr 0 0 dn.length))).set (c+1+1) (fZ s)=T at el;have lT:T.length=t.length:=by rw[<-hT];simp
    have q2:T.getD (c+2) (.b8 [])=fZ s:=by rw[<-hT];exact de (by simp;omega)
    have q3:(T.set (c+3) (ce .i64 s.length)).getD c (.b8 [])=ce .i64 left:=by rw[gK (by omega),<-hT,gK (by omega),gK (by omega)];exact de (by omega)
    have q4:(T.set (c+3) (ce .i64 s.length)).getD (c+3) (.b8 [])=ce .i64 s.length:=de (by omega);have q5:((T.set (c+3) (ce .i64 s.length)).set (c+4) (ce .i64 (left-s.length))).getD (c+4) (.b8 [])=ce .i64 (left-s.length):=de (by simp;omega);refine go (cn:=c+5) (cm:=0) (l:=left-s.length) (t':=((T.set (c+3) (ce .i64 s.length)).set (c+4) (ce .i64 (left-s.length))).set 1 (ce .i64 (left-s.length))) (by rw[hlen];rfl) rfl (by omega) ?_ (by simp[lT]) (Zd (by simp;omega)) ?_ (fun hn=>by rw[ae];exact acU (by omega)) (fun hn=>by rw[ae];unfold less;rw[if_neg (by omega)]);simp only[Zh,cj];simp only[cT,dG,dY,Opd.ev,q1,put];rw[fq _ _ _ el];simp only[cj,cT,dG,dY,Opd.ev,q2,isStr,put,q3,q4,bin,if_true,ft,hw,q5];rw[Za (by omega),Za (by omega),Za (by omega),<-hT,Za (by omega),Za (by omega),Za (by omega)];exact t2
  |s ts K=>
   simp only[Seg.ts]at a2 ha;have hlen:(dn++a).length=dn.length+ts.length:=by simp[a2]
   by_cases hk:K.ks=0;simp only[Uu,hk,if_true]at a1;exact skip (c':=0) (KD a1 ha) (by rw[hlen];simp only[OF,hk,if_true]) (by simp only[L6,hk,if_true]);simp only[Uu,hk,if_false]at a1;exact call (n:=ts.length) (agg:=true) (v:= .agg (a.map .pv)) (by rw[hlen];simp only[OF,hk,if_false]) (by simp only[L6,hk,if_false]) (by rw[<-a2];exact qz (agg:=true) (.inl rfl)) (fun h i=>by simp only[cy,xR];rfl) (a1 a ha left h0 h1)
  |l ts K=>
   simp only[Seg.ts,ZJ]at a2 ha;obtain⟨p,rfl⟩:=ZN.1 a2;obtain⟨rows,rfl⟩:=tk ha.1;have hlen:(dn++[PV.lst rows]).length=dn.length+1:=by simp
   exact call (n:=1) (agg:=false) (v:=eW rows) (by rw[hlen];rfl) rfl (qz (agg:=false) (a:=[.lst rows]) (.inr rfl)) (fun h i=>rfl) (by have:=a1 rows ha.1 left h0 h1;simpa only[gV,Yx]using this)
def fY {k:Nat}{ss:List Seg}(hk:Φ k=some (jL ss))(a6:∀s∈ss,Uu Φ ext s):ph Φ ext k (lh ss):=by
 intro r hr left h0 h1;refine j0 hk ?_;have hle:=vK ss 5;obtain⟨m,hm⟩:∃m,L6 5 ss+1-2=m+4:=⟨L6 5 ss-5,by omega⟩;have aa:(r.map L.pv).all plain=true:=by simp[plain]
 obtain⟨t',e1,e2⟩:=Vl ss a6 (c:=5) (dn:=[]) (row:=r) (t:=V.agg (r.map .pv)::ce .i64 left::V.one (.ptr 0 0 0):: .b8 []::ce .i64 0::List.replicate (m+1) (.b8 [])) (left:=left) rfl rfl h0 h1 (by omega) (by simp;omega) hr;have ab:iN Φ ext (jL ss).body (start (jL ss) [.agg (r.map .pv),ce .i64 left])=some (.ret,⟨t',[.box (r.map .pv)]⟩):=by simp only[iN,jL,start,Zo,Zx,ZK,Nat.reduceAdd,hm,cD,cj,cT,dG,dY,fa,Opd.ev,put,Qa,Zh,Zk,YA,Yf,ZP,V.cells,aa,if_true];exact e1
 rw[ab];simp only[done,jL,dd,cu,fb,getD_some e2,Y',YF,Zw,V.cells,eh,comp,cU,dS];simp[cz]
def oC (Φ:Nat->Option AFn)(ext:Nat->List V->Option V)(k:Nat)(ts:List PTy):Prop:=
 ∀r:List PV,dX ts r->cf Φ ext k [.agg (r.map .pv), .agg (r.map .pv)]=some (cL true)
def oP (Φ:Nat->Option AFn)(ext:Nat->List V->Option V)(k:Nat)(ts:List PTy):Prop:=
 ∀rows:List (List PV),mY (.lst ts) (.lst rows)->cf Φ ext k [eW rows,eW rows]=some (cL true)
def ads (Φ:Nat->Option AFn)(ext:Nat->List V->Option V):Seg->Prop
 | .c t=>t.flatT=true
 | .s ts K=>oC Φ ext K.ke ts
 | .l ts K=>oP Φ ext K.ke ts
def Ez :∀(ss:List Seg)(c:Nat),c<=Wc c ss
 |[],c=>Zi _
 | .c _::ss,c=>Zc (by omega) (Ez ss (c+5))
 | .s _ _::ss,c=>Zc (by omega) (Ez ss (c+6))
 | .l _ _::ss,c=>Zc (by omega) (Ez ss (c+6))
def UC :∀(ss:List Seg),(∀s∈ss,ads Φ ext s)->∀{c:Nat}{dn row:List PV}{t:List V},
 t[2]? =some (.one (.ptr 0 0 0))->t[3]? =some (.one (.ptr 1 0 0))->5<=c->Wc c ss<=t.length->dX (lh ss) row->
 ∃t',cD (cf Φ ext) cS (eqC c dn.length ss) ⟨t,[.box ((dn++row).map .pv), .box ((dn++row).map .pv)]⟩=some (.ret,⟨t',[.box ((dn++row).map .pv), .box ((dn++row).map .pv)]⟩)/\ t'[4]? =some (cL true)
 |[],_,c,dn,row,t,t2,t3,hc,hN,hr=>by simp only[Wc]at hN;refine⟨t.set 4 (cL true),?_,Zd (by omega)⟩;simp only[eqC,cD,cj,cT,dG,dY,Opd.ev,put]
 |sg::ss,a6,c,dn,row,t,t2,t3,hc,hN,hr=>by
  obtain⟨a,b,rfl,ha,hb⟩:=pf (ts:=sg.ts) hr;have a2:=nT ha;have a1:=a6 sg (by simp);have ih:=fun{c dn row t}=>UC ss (fun s m=>a6 s (by simp[m])) (c:=c) (dn:=dn) (row:=row) (t:=t);rw[<-List.append_assoc];generalize hh:[Q0.box ((dn++a++b).map L.pv), .box ((dn++a++b).map L.pv)]=hp;have go:∀{ops:List X2}{cn:Nat}{t':List V},eqC c dn.length (sg::ss)= .seq (.seq (.region ops) (.cond (.tmp cn) RV .skip)) (eqC (cn+1) (dn++a).length ss)->Wc c (sg::ss)=Wc (cn+1) ss->4<=cn->
   cj (cf Φ ext) ops ⟨t,hp⟩=some ⟨t',hp⟩->t'.length=t.length->t'[cn]? =some (cL false)->t'[2]? =t[2]? ->t'[3]? =t[3]? ->
   ∃t',cD (cf Φ ext) cS (eqC c dn.length (sg::ss)) ⟨t,hp⟩=some (.ret,⟨t',hp⟩)/\ t'[4]? =some (cL true):=by intro ops cn t' e1 e2 e3 e4 e5 e6 e7 e8;obtain⟨a8,f1,f2⟩:=ih (c:=cn+1) (dn:=dn++a) (row:=b) (t:=t') (e7.trans t2) (e8.trans t3) (by omega) (by rw[e5,<-e2];exact hN) hb;rw[hh]at f1;refine⟨a8,?_,f2⟩;rw[e1];simp only[cD,e4,Opd.ev,getD_some e6,isBool,ZA,if_false];exact f1
  have ag:hp[0]? =some (.box ((dn++a++b).map .pv)):=by rw[<-hh];rfl
  have ah:hp[1]? =some (.box ((dn++a++b).map .pv)):=by rw[<-hh];rfl
  have ld:∀{n:Nat}{agg:Bool}{v:V},ja agg n dn.length ((dn++a++b).map .pv)=some v->c+3<t.length->∃T,cj (cf Φ ext) (qn c 2 dn.length n agg++qn (c+2) 3 dn.length n agg) ⟨t,hp⟩=some ⟨T,hp⟩/\ T.length=t.length/\ T.getD (c+1) (.b8 [])=v/\ T.getD (c+3) (.b8 [])=v/\ T[2]? =t[2]? /\ T[3]? =t[3]? :=by intro n agg v a5 hlt;have ai:=vG (t:=t) (h:=hp) t2 (c:=c) (by omega) (by omega) ag a5 (cf Φ ext);have aj:=vG (t:=(t.set c (.one (.ptr 0 0 dn.length))).set (c+1) v) (h:=hp) (x:=3) (ox:=1) (by rw[Za (by omega),Za (by omega)];exact t3) (c:=c+2) (by omega) (by simp;omega) ah a5 (cf Φ ext);refine⟨_,(fq _ _ _ ai).trans aj,by simp,?_,?_,?_,?_⟩;rw[gK (by omega),gK (by omega)];exact de (by simp;omega);exact de (by simp;omega);rw[Za (by omega),Za (by omega),Za (by omega),Za (by omega)];rw[Za (by omega),Za (by omega),Za (by omega),Za (by omega)]
  have call:∀{n:Nat}{agg:Bool}{k:Nat}{v:V},eqC c dn.length (sg::ss)= .seq (.seq (.region (qn c 2 dn.length n agg++(qn (c+2) 3 dn.length n agg++[⟨some (c+4), .call k [.tmp (c+1), .tmp (c+3)] true false,none⟩,⟨some (c+5), .un .not (.tmp (c+4)),none⟩]))) (.cond (.tmp (c+5)) RV .skip)) (eqC (c+6) (dn++a).length ss)->Wc c (sg::ss)=Wc (c+6) ss->
   ja agg n dn.length ((dn++(a++b)).map .pv)=some v->(∀h,cy h [v,v]=some [v,v])->cf Φ ext k [v,v]=some (cL true)->
   ∃t',cD (cf Φ ext) cS (eqC c dn.length (sg::ss)) ⟨t,hp⟩=some (.ret,⟨t',hp⟩)/\ t'[4]? =some (cL true):=by
   intro n agg k v e1 e2 e3 e4 e5;have a7:c+6<=t.length:=by have:=Ez ss (c+6);omega
   rw[<-List.append_assoc]at e3;obtain⟨T,g1,g2,g3,g4,g5,g6⟩:=ld e3 (by omega);have q1:(T.set (c+4) (cL true)).getD (c+4) (.b8 [])=cL true:=de (by omega);refine go (cn:=c+5) (t':=(T.set (c+4) (cL true)).set (c+5) (cL false)) e1 e2 (by omega) ?_ (by simp[g2]) (Zd (by simp;omega)) (by rw[Za (by omega),Za (by omega)];exact g5) (by rw[Za (by omega),Za (by omega)];exact g6);rw[<-List.append_assoc,fq _ _ _ g1];simp only[cj,cT,dG,dY,Opd.ev,g3,g4,put,YJ,if_true,Zt,Zy,e4,e5,V.flat,L.flat,Yv,ZY,ZA,if_false,fe,fv,q1,un]
  cases sg with
  |c ty=>
   simp only[Seg.ts,ZJ]at a2 ha;obtain⟨p,rfl⟩:=ZN.1 a2;have hlen:(dn++[p]).length=dn.length+1:=by simp
   have a7:c+5<=t.length:=by have:=Ez ss (c+5);simp only[Wc]at hN;omega
   have a5:ja false 1 dn.length ((dn++[p]++b).map .pv)=some (.one (.pv p)):=by rw[List.append_assoc];exact qz (agg:=false) (a:=[p]) (.inr rfl)
   obtain⟨T,g1,g2,g3,g4,g5,g6⟩:=ld a5 (by omega);refine go (cn:=c+4) (t':=T.set (c+4) (cL false)) (by rw[hlen];rfl) rfl (by omega) ?_ (by simp[g2]) (Zd (by omega)) (by rw[Za (by omega)];exact g5) (by rw[Za (by omega)];exact g6);rw[<-List.append_assoc,fq _ _ _ g1];cases ty with
   |lst us=>cases a1
   |int k=>obtain⟨n,rfl⟩:=qu ha.1;simp only[cj,cT,dG,dY,LY,Opd.ev,g3,g4,put,bin,if_true,ft,bne_self_eq_false]
   |bool=>obtain⟨n,rfl⟩:=pg ha.1;simp only[cj,cT,dG,dY,LY,Opd.ev,g3,g4,put,isBool,if_true,beq_self_eq_true,Yv]
   |str=>obtain⟨n,rfl⟩:=qv ha.1;simp only[cj,cT,dG,dY,LY,Opd.ev,g3,g4,put,bin,mJ,beq_self_eq_true,Yv]
  |s ts K=>
   simp only[Seg.ts]at a2 ha;have hlen:(dn++a).length=dn.length+ts.length:=by simp[a2]
   exact call (n:=ts.length) (agg:=true) (v:= .agg (a.map .pv)) (by rw[hlen];rfl) rfl (by rw[<-a2];exact qz (agg:=true) (.inl rfl)) (fun h=>by simp only[cy,xR]) (a1 a ha)
  |l ts K=>
   simp only[Seg.ts,ZJ]at a2 ha;obtain⟨p,rfl⟩:=ZN.1 a2;obtain⟨rows,rfl⟩:=tk ha.1;have hlen:(dn++[PV.lst rows]).length=dn.length+1:=by simp
   exact call (n:=1) (agg:=false) (v:=eW rows) (by rw[hlen];rfl) rfl (qz (agg:=false) (a:=[.lst rows]) (.inr rfl)) (fun h=>rfl) (a1 rows ha.1)
def fQ {k:Nat}{ss:List Seg}(hk:Φ k=some (jx ss))(a6:∀s∈ss,ads Φ ext s):oC Φ ext k (lh ss):=by
 intro r hr;refine j0 hk ?_;have hle:=Ez ss 5;obtain⟨m,hm⟩:∃m,Wc 5 ss-2=m+3:=⟨Wc 5 ss-5,by omega⟩;have aa:(r.map L.pv).all plain=true:=by simp[plain]
 obtain⟨t',e1,e2⟩:=UC ss a6 (c:=5) (dn:=[]) (row:=r) (t:=V.agg (r.map .pv)::V.agg (r.map .pv)::V.one (.ptr 0 0 0)::V.one (.ptr 1 0 0)::cL false::List.replicate m (.b8 [])) rfl rfl (by omega) (by simp;omega) hr;have ab:iN Φ ext (jx ss).body (start (jx ss) [.agg (r.map .pv), .agg (r.map .pv)])=some (.ret,⟨t',[.box (r.map .pv), .box (r.map .pv)]⟩):=by simp only[iN,jx,start,Zo,Zx,ZK,Nat.reduceAdd,hm,cD,cj,cT,dG,dY,fa,Opd.ev,put,Qa,Zh,Zk,YA,Qb,Yf,ZP,V.cells,aa,if_true];exact e1
 rw[ab];simp only[done,jx,dd,cu,fb,getD_some e2,Y',YF,Zw,V.cells,eh,comp,cU,dS];simp[cz]
def aeR (P:Seg->Prop):List Seg->Prop
 |[]=>True
 |s::ss=>P s/\ aeR P ss
def eJ {P:Seg->Prop}:∀{ss:List Seg},aeR P ss->∀s∈ss,P s
 |[],_,_,h=>by cases h
 |x::xs,h,s,hm=>by rcases ZG.1 hm with rfl|hm;exact h.1;exact eJ h.2 s hm
def nL {k z kx:Nat}{ts:List PTy}(hk:Φ k=some (OL z kx))(hz:ts.length=z)(hx:ph Φ ext kx ts):oQ Φ ext k ts:=by intro rows h left h0 h1;obtain⟨hl,hr⟩:=dM h;rw[mP];exact aeC hk (fun r m=>by rw[nT (hr r m),hz]) hl (fun r m=>hx r (hr r m)) h0 h1
def Ik {k:Nat}{ts:List PTy}(hk:Φ k=some szF)(ha:ts.all PTy.small=true):oQ Φ ext k ts:=by intro rows h left h0 h1;obtain⟨hl,hr⟩:=dM h;rw[mP,GO ha hr];exact aeB hk hl h0 h1
def lG {k z kx:Nat}{ts:List PTy}(hk:Φ k=some (tK 27 (jf z kx)))(hz:ts.length=z)(hx:oC Φ ext kx ts):oP Φ ext k ts:=by intro rows h;obtain⟨hl,hr⟩:=dM h;exact aec hk (fun r m=>by rw[nT (hr r m),hz]) hl (fun r m=>hx r (hr r m))
def Ny {k:Nat}{t:PTy}(hk:Φ k=some (tK 26 uk))(ht:t.cr=true):oP Φ ext k [t]:=by intro rows h;obtain⟨hl,hr⟩:=dM h;obtain⟨qs,rfl⟩:=Vi hr;exact aeb hk (aep ht hr) (by simpa using hl)
end
end Gi
