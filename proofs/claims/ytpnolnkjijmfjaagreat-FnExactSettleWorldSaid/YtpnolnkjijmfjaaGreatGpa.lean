/- Of this proof. -/
import Derived.Test.YtpnolnkjijmfjaaGreatGiv
set_option linter.all false
namespace Gi
open Go Go.RowKit
structure Ks where
 kt:Nat
 ks:Nat
 ke:Nat
 fl:Bool
inductive Seg where
 |c (t:PTy)
 |s (ts:List PTy) (K:Ks)
 |l (ts:List PTy) (K:Ks)
def Seg.ts :Seg->List PTy
 | .c t=>[t]
 | .s ts _=>ts
 | .l ts _=>[.lst ts]
def lh :List Seg->List PTy
 |[]=>[]
 |s::ss=>s.ts++lh ss
def BH :PTy->L
 | .int k=> .pv (.int k 0)
 | .bool=> .pv (.bool false)
 | .str=> .pv (.str [])
 | .lst _=> .nil
def qn (c x off n:Nat)(agg:Bool):List X2:=[⟨some c, .bo (.tmp x) off,none⟩,⟨some (c+1), .load agg n (.tmp c),none⟩]
def R3 (c v off n:Nat):List X2:=[⟨some c, .bo (.tmp 3) off,none⟩,⟨none, .storeD n (.tmp c) (.tmp v),none⟩]
def PP (K:Ks)(x:Opd):AOp:=if K.fl then .call K.kt [x] true false else .bP K.kt [x]
def toC (n:Nat):Nat->Nat->List Seg->Q7
 |c,_,[]=> .seq (.region [⟨some c, .load true n (.tmp 3),none⟩,⟨none, .storeD n (.tmp 2) (.tmp c),none⟩]) .ret
 |c,off, .c _::ss=> .seq (.region (qn c 1 off 1 false++R3 (c+2) (c+1) off 1)) (toC n (c+3) (off+1) ss)
 |c,off, .s ts K::ss=> .seq (.region (qn c 1 off ts.length true++⟨some (c+2),PP K (.tmp (c+1)),none⟩::R3 (c+3) (c+2) off ts.length)) (toC n (c+4) (off+ts.length) ss)
 |c,off, .l _ K::ss=> .seq (.region (qn c 1 off 1 false++⟨some (c+2),PP K (.tmp (c+1)),none⟩::R3 (c+3) (c+2) off 1)) (toC n (c+4) (off+1) ss)
def toN :Nat->List Seg->Nat
 |c,[]=>c
 |c, .c _::ss=>toN (c+3) ss
 |c,_::ss=>toN (c+4) ss
def jy (ss:List Seg):AFn:=⟨toN 4 ss+1,[.cell 2 (lh ss).length], .seq (.region [⟨some 1, .box (.tmp 0),none⟩,⟨some 2, .alloc ((lh ss).map BH),none⟩]) (.seq (.region [⟨some 3, .alloc ((lh ss).map BH),none⟩]) (toC (lh ss).length 4 0 ss))⟩
def Cp :PTy->PV->L
 | .lst ts, .lst []=> .own ts.length []
 | .lst ts, .lst es=> .down ts.length es
 |_,p=> .pv p
def ly :List PTy->List PV->List L
 |t::ts,p::ps=>Cp t p::ly ts ps
 |_,_=>[]
def J9 (t:PTy)(p:PV):(Cp t p).clean=true:=by unfold Cp;split<;>rfl
def Cq :∀(ts:List PTy)(ps:List PV),(ly ts ps).all L.clean=true
 |[],_=>by simp[ly]
 |_::_,[]=>by simp[ly]
 |t::ts,p::ps=>by simp[ly,J9,Cq ts ps]
def RJ (t:PTy)(p:PV):JA (Cp t p)=p:=by unfold Cp;split<;>rfl
def RN :∀{ts:List PTy}{ps:List PV},dX ts ps->(ly ts ps).length=ts.length
 |[],ps,_=>by simp[ly]
 |t::ts,ps,h=>by obtain⟨p,r,rfl,_,h2⟩:=ir h;simp[ly,RN h2]
def GF :∀{ts:List PTy}{ps:List PV},dX ts ps->(ly ts ps).map JA=ps
 |[],ps,h=>by rw[jT h];rfl
 |t::ts,ps,h=>by obtain⟨p,r,rfl,_,h2⟩:=ir h;simp[ly,RJ,GF h2]
def RL :∀{ts us:List PTy}{ps qs:List PV},ps.length=ts.length->ly (ts++us) (ps++qs)=ly ts ps++ly us qs
 |[],us,[],qs,_=>rfl
 |t::ts,us,p::ps,qs,h=>by simp[ly,RL (ts:=ts) (ps:=ps) (by simpa using h)]
 |[],_,p::ps,_,h=>by simp at h
 |t::ts,_,[],_,h=>by simp at h
def PTy.flatT :PTy->Bool
 | .lst _=>false
 |_=>true
def xD :∀{ts:List PTy}{ps:List PV},ts.all PTy.flatT=true->dX ts ps->ly ts ps=ps.map .pv/\ (ps.map L.pv).all L.flat=true
 |[],ps,_,h=>by rw[jT h];exact⟨rfl,rfl⟩
 |t::ts,ps,ha,h=>by
  obtain⟨p,r,rfl,h1,h2⟩:=ir h;simp only[Zq,Zg]at ha;obtain⟨e1,e2⟩:=xD ha.2 h2;cases t with
  |int k=>obtain⟨n,rfl⟩:=qu h1;exact⟨by simp[ly,Cp,e1],by simp only[Zt,Zq,e2];rfl⟩
  |bool=>obtain⟨n,rfl⟩:=pg h1;exact⟨by simp[ly,Cp,e1],by simp only[Zt,Zq,e2];rfl⟩
  |str=>obtain⟨n,rfl⟩:=qv h1;exact⟨by simp[ly,Cp,e1],by simp only[Zt,Zq,e2];rfl⟩
  |lst us=>cases ha.1
def pf :∀{ts us:List PTy}{r:List PV},dX (ts++us) r->∃a b,r=a++b/\ dX ts a/\ dX us b
 |[],us,r,h=>⟨[],r,rfl,trivial,h⟩
 |t::ts,us,r,h=>by obtain⟨p,r',rfl,h1,h2⟩:=ir h;obtain⟨a,b,rfl,h3,h4⟩:=pf (ts:=ts) h2;exact⟨p::a,b,rfl,⟨h1,h3⟩,h4⟩
def KC :∀(l m:List PV),gV (l++m)=gV l+gV m
 |[],m=>by simp only[Zk,gV];omega
 |p::l,m=>by simp only[Zh,gV,KC l m];omega
structure Z6 (h:List Q0) (ls rs:List L):Prop where
 give:cU h ls=some rs
 nodup:(cz ls).Nodup
 lt:∀o∈cz ls,o<h.length
 plain:ls.all plain=true
def Is (a b:List L):cz (a++b)=cz a++cz b:=by simp[cz]
def Wn {h x:List Q0}{l r:L}(e:dS h l=some r):dS (h++x) l=some r:=by
 cases l with
 |arr o=>
  simp only[dS]at e⊢;have ho:o<h.length:=by
   cases hh:h[o]? with
   |none=>rw[hh]at e;cases e
   |some y=>exact(Zb.1 hh).1
  rw[Ze ho];exact e
 |_=>exact e
def JD {h x:List Q0}:∀{ls rs:List L},cU h ls=some rs->cU (h++x) ls=some rs
 |[],rs,e=>e
 |l::ls,rs,e=>by unfold cU at e⊢;split at e;rename_i p ps h1 h2;rw[Wn h1,JD h2];exact e;cases e
def JB {h:List Q0}:∀{a b ra rb:List L},cU h a=some ra->cU h b=some rb->cU h (a++b)=some (ra++rb)
 |[],b,ra,rb,e,e'=>by simp[cU]at e;subst e;exact e'
 |l::a,b,ra,rb,e,e'=>by simp only[Zh];unfold cU at e⊢;split at e;rename_i p ps h1 h2;cases e;rw[h1,JB h2 e'];rfl;cases e
def JC {h:List Q0}{i:Nat}{a b:List L}(hi:h[i]? =some (.box a)):∀(ls:List L),cU (h.set i (.box b)) ls=cU h ls
 |[]=>rfl
 |l::ls=>by
  have e:dS (h.set i (.box b)) l=dS h l:=by
   cases l with
   |arr o=>simp only[dS];by_cases ho:i=o;subst ho;rw[Zd (Zb.1 hi).1,hi];rw[Za ho]
   |_=>rfl
  unfold cU;rw[e,JC hi ls]
def Z6.ext {h x:List Q0}{ls rs:List L}(g:Z6 h ls rs):Z6 (h++x) ls rs:=
 ⟨JD g.give,g.nodup,fun o ho=>by have:=g.lt o ho;simp;omega,g.plain⟩
def Z6.box {h:List Q0}{i:Nat}{a b:List L}(hi:h[i]? =some (.box a)){ls rs:List L}(g:Z6 h ls rs):Z6 (h.set i (.box b)) ls rs:=
 ⟨by rw[JC hi];exact g.give,g.nodup,fun o ho=>by simpa using g.lt o ho,g.plain⟩
def Z6.app {h:List Q0}{n:Nat}{a b ra rb:List L}(ga:Z6 h a ra)(ha:∀o∈cz a,o<n)(gb:Z6 h b rb)(hb:∀o∈cz b,n<=o):Z6 h (a++b) (ra++rb):=by refine⟨JB ga.give gb.give,?_,fun o ho=> ?_,by rw[List.all_append,ga.plain,gb.plain];rfl⟩;rw[Is,List.nodup_append];exact⟨ga.nodup,gb.nodup,fun x hx y hy=>by have:=ha x hx;have:=hb y hy;omega⟩;rw[Is,Ye]at ho;rcases ho with ho|ho;exact ga.lt o ho;exact gb.lt o ho
def Z6.cq (h:List Q0):∀(ps:List PV),Z6 h (ps.map .pv) (ps.map .pv)/\ cz (ps.map .pv)=[]
 |[]=>⟨⟨rfl,by simp[cz],fun o ho=>by simp[cz]at ho,rfl⟩,rfl⟩
 |p::ps=>by
  obtain⟨g,e⟩:=Z6.cq h ps;have e':cz ((p::ps).map .pv)=[]:=by simpa[cz]using e
  refine⟨⟨?_,by rw[e'];exact QQ,fun o ho=>(by rw[e']at ho;cases ho),by simp only[Zt,Zq,g.plain];rfl⟩,e'⟩;simp only[Zt,cU,dS,g.give]
def vR :∀(ls:List L)(h:List Q0),ls.all L.clean=true->Z6 (thawL h ls).2 (thawL h ls).1 ls/\ (∀o∈cz (thawL h ls).1,h.length<=o)
 |[],h,_=>⟨⟨rfl,by simp[cz,thawL],fun o ho=>by simp[cz,thawL]at ho,rfl⟩,fun o ho=>by simp[cz,thawL]at ho⟩
 |l::ls,h,hc=>by
  simp only[Zq,Zg]at hc;have other:thawL h (l::ls)=(l::(thawL h ls).1,(thawL h ls).2)->cz (l::(thawL h ls).1)=cz (thawL h ls).1->dS (thawL h ls).2 l=some l->plain l=true->Z6 (thawL h (l::ls)).2 (thawL h (l::ls)).1 (l::ls)/\ (∀o∈cz (thawL h (l::ls)).1,h.length<=o):=by intro e1 e2 e3 e4;obtain⟨g,hb⟩:=vR ls h hc.2;rw[e1];refine⟨⟨?_,by rw[e2];exact g.nodup,fun o ho=>g.lt o (by rwa[e2]at ho),by simp only[Zq,e4,g.plain,ZH]⟩,fun o ho=>hb o (by rwa[e2]at ho)⟩;simp only[cU,e3,g.give]
  cases l with
  |own z es=>
   obtain⟨g,hb⟩:=vR ls (h++[.arr z es]) hc.2;obtain⟨t,ht⟩:=tD ls (h++[.arr z es]) hc.2;have hg:(thawL (h++[Q0.arr z es]) ls).2[h.length]? =some (.arr z es):=by rw[ht];simp
   have e2:cz (L.arr h.length::(thawL (h++[Q0.arr z es]) ls).1)=h.length::cz (thawL (h++[Q0.arr z es]) ls).1:=by simp[cz]
   simp only[thawL];refine⟨⟨?_,?_,fun o ho=> ?_,by simp only[Zq,g.plain];rfl⟩,fun o ho=> ?_⟩;simp only[cU,dS,hg,g.give];rw[e2,Yn];exact⟨fun hm=>by have:=hb _ hm;simp at this;omega,g.nodup⟩;rw[e2]at ho;rcases ZG.1 ho with rfl|ho;rw[ht];simp;exact g.lt o ho;rw[e2]at ho;rcases ZG.1 ho with rfl|ho;exact Zi _;have:=hb o ho;simp at this;omega
  |down z es=>
   obtain⟨g,hb⟩:=vR ls (h++[.bA z es]) hc.2;obtain⟨t,ht⟩:=tD ls (h++[.bA z es]) hc.2;have hg:(thawL (h++[Q0.bA z es]) ls).2[h.length]? =some (.bA z es):=by rw[ht];simp
   have e2:cz (L.arr h.length::(thawL (h++[Q0.bA z es]) ls).1)=h.length::cz (thawL (h++[Q0.bA z es]) ls).1:=by simp[cz]
   simp only[thawL];refine⟨⟨?_,?_,fun o ho=> ?_,by simp only[Zq,g.plain];rfl⟩,fun o ho=> ?_⟩;simp only[cU,dS,hg,g.give];rw[e2,Yn];exact⟨fun hm=>by have:=hb _ hm;simp at this;omega,g.nodup⟩;rw[e2]at ho;rcases ZG.1 ho with rfl|ho;rw[ht];simp;exact g.lt o ho;rw[e2]at ho;rcases ZG.1 ho with rfl|ho;exact Zi _;have:=hb o ho;simp at this;omega
  |pv p=>exact other rfl (by simp[cz]) rfl rfl
  |nil=>exact other rfl (by simp[cz]) rfl rfl
  |_=>simp[L.clean]at hc
section
variable {Φ:Nat->Option AFn}{ext:Nat->List V->Option V}
def oD (Φ:Nat->Option AFn)(ext:Nat->List V->Option V)(k:Nat)(ts:List PTy):Prop:=
 ∀r:List PV,dX ts r->gV r<=1048576->cf Φ ext k [.agg (r.map .pv)]=some (.agg (ly ts r))
def oR (Φ:Nat->Option AFn)(ext:Nat->List V->Option V)(k:Nat)(ts:List PTy):Prop:=
 ∀rows:List (List PV),mY (.lst ts) (.lst rows)->sz (.lst rows)<=1048576->cf Φ ext k [eW rows]=some (.one (Cp (.lst ts) (.lst rows)))
def adt (Φ:Nat->Option AFn)(ext:Nat->List V->Option V):Seg->Prop
 | .c t=>t.flatT=true
 | .s ts K=>oD Φ ext K.kt ts/\ (K.fl=true->ts.all PTy.flatT=true)
 | .l ts K=>oR Φ ext K.kt ts/\ K.fl=false
structure QJ (dn:List PV) (pre out zs:List L) (row:List PV) (c:Nat) (t:List V) (h:List Q0):Prop where
 t1:t[1]? =some (.one (.ptr 0 0 0))
 t2:t[2]? =some (.one (.ptr 1 0 0))
 t3:t[3]? =some (.one (.ptr 2 0 0))
 c4:4<=c
 h0:h[0]? =some (.box ((dn++row).map .pv))
 h1:∃cs,h[1]? =some (.box cs)/\ cs.length=pre.length+zs.length
 h2:h[2]? =some (.box (pre++zs))
 dl:dn.length=pre.length
 g:Z6 h pre out
def getD_some {t:List V}{i:Nat}{v:V}(h:t[i]? =some v):t.getD i (.b8 [])=v:=by simp[List.getD,h]
def de {t:List V}{i:Nat}{v:V}(h:i<t.length):(t.set i v).getD i (.b8 [])=v:=by simp[List.getD,h]
def gK {t:List V}{i j:Nat}{v:V}(h:i≠j):(t.set i v).getD j (.b8 [])=t.getD j (.b8 []):=by simp[List.getD,Za h]
def qz {agg:Bool}{dn a b:List PV}(hn:agg=true \/a.length=1):ja agg a.length dn.length ((dn++(a++b)).map .pv)=some (if agg then .agg (a.map .pv)else .one (.pv (a.headD (.bool false)))):=by
 have e:((((dn++(a++b)).map L.pv).drop dn.length).take a.length)=a.map .pv:=by simp only[Qf];rw[show dn.length=(dn.map L.pv).length by simp,List.drop_left,show a.length=(a.map L.pv).length by simp,List.take_left]
 unfold ja;rw[if_pos (by simp)];cases agg with
 |true=>simp only[if_true,e]
 |false=>
  have h1:a.length=1:=by rcases hn with h|h;cases h;exact h
  obtain⟨p,rfl⟩:=ZN.1 h1;simp
def KY {dn a b:List PV}{pre out zs a7:List L}{c cv:Nat}{t:List V}{h h' x:List Q0}{ls rs:List L}{v:V}
 (s:QJ dn pre out (zs++a7) (a++b) c t h) (he:h'=h++x) (hv:v.cells=ls) (g:Z6 h' ls rs) (hb:∀o∈cz ls,h.length<=o) (hl:ls.length=zs.length) (a6:a.length=zs.length)
 {t':List V} (k1:t'[1]? =t[1]?) (k2:t'[2]? =t[2]?) (k3:t'[3]? =t[3]?) (aD:4<=cv) (hlt:cv<t'.length) (call:Nat->List V->Option V) {w:Nat} (hw:t'.getD w (.b8 [])=v) (au:cv≠w):
 ∃a2 a8,cj call (R3 cv w pre.length ls.length) ⟨t',h'⟩=some ⟨a2,a8⟩/\ a2.length=t'.length/\ QJ (dn++a) (pre++ls) (out++rs) a7 b (cv+1) a2 a8:=by
 have aj:h'[2]? =some (.box (pre++(zs++a7))):=by rw[he,Ze (Zb.1 s.h2).1];exact s.h2
 have av:h'[0]? =some (.box ((dn++(a++b)).map .pv)):=by rw[he,Ze (Zb.1 s.h0).1];exact s.h0
 have ak:putAt (pre++(zs++a7)) pre.length ls=pre++ls++a7:=by
  unfold putAt;have e1:(pre++(zs++a7)).drop (pre.length+ls.length)=a7:=by rw[hl,<-List.append_assoc];simp
  rw[e1];simp
 have al:pre.length+ls.length<=(pre++(zs++a7)).length:=by simp;omega
 refine⟨t'.set cv (.one (.ptr 2 0 pre.length)),h'.set 2 (.box (pre++ls++a7)),?_,by simp,?_⟩;have q3:t'.getD 3 (.b8 [])= .one (.ptr 2 0 0):=getD_some (k3.trans s.t3);have e3:(t'.set cv (V.one (.ptr 2 0 pre.length))).getD cv (.b8 [])=_:=de hlt;have e4:(t'.set cv (V.one (.ptr 2 0 pre.length))).getD w (.b8 [])=v:=(gK au).trans hw;simp only[R3,cj,cT,dG,dY,Opd.ev,q3,put,ZK,e3,e4,fa,storeD,dg,dK,hv,if_true,aj,al,g.plain,true_and,and_self,ak];obtain⟨cs,af,ag⟩:=s.h1;have ah:2<h'.length:=(Zb.1 aj).1;refine⟨by rw[Za (by omega),k1];exact s.t1,by rw[Za (by omega),k2];exact s.t2,by rw[Za (by omega),k3];exact s.t3,by omega,?_,⟨cs,?_,?_⟩,?_,by simp[s.dl,a6,hl],?_⟩;rw[Za (by omega),av,List.append_assoc];rw[Za (by omega),he,Ze (Zb.1 af).1];exact af;simp[ag,hl];omega;rw[Zd ah];have gp:Z6 h' pre out:=by rw[he];exact s.g.ext
 exact(gp.app (n:=h.length) s.g.lt g hb).box aj
def fq (call:Nat->List V->Option V):∀(a b:List X2){Z Z':St},cj call a Z=some Z'->cj call (a++b) Z=cj call b Z'
 |[],b,Z,Z',h=>by simp[cj]at h;subst h;rfl
 |o::a,b,Z,Z',h=>by simp only[Zh,cj]at h⊢;split at h;rename_i σ1 h1;exact fq call a b h;cases h
def vG {A:List L}{c x ox off n:Nat}{agg:Bool}{t:List V}{h:List Q0}{v:V}(hx:t[x]? =some (.one (.ptr ox 0 0)))(aE:x<c)(hc:c+1<t.length)(hb:h[ox]? =some (.box A))(a1:ja agg n off A=some v)(call:Nat->List V->Option V):
 cj call (qn c x off n agg) ⟨t,h⟩=some ⟨(t.set c (.one (.ptr ox 0 off))).set (c+1) v,h⟩:=by have e1:t.getD x (.b8 [])= .one (.ptr ox 0 0):=getD_some hx;have e2:(t.set c (V.one (.ptr ox 0 off))).getD c (.b8 [])=_:=de (by omega);simp only[qn,cj,cT,dG,dY,Opd.ev,e1,put,ZK,e2,dP,hb,if_true,a1]
def NO (h:List Q0)(es:List (List PV)):freezeVs h [.one (.pv (.lst es))]=h:=rfl
def ab9 (h:List Q0)(p:PV):cy h [.one (.pv p)]=some [.one (.pv p)]:=rfl
def adg (h:List Q0)(ps:List PV):cy h [.agg (ps.map .pv)]=some [.agg (ps.map .pv)]:=by simp only[cy,xR]
def R4 {call:Nat->List V->Option V}{K:Ks}{c:Nat}{t:List V}{h:List Q0}{v R:V}{rs:List L}(hw:t.getD (c+1) (.b8 [])=v)(aq:cy h [v]=some [v])(aw:freezeVs h [v]=h)(aa:call K.kt [v]=some R)(hR:R= .agg rs \/∃l,R= .one l/\ rs=[l])(an:rs.all L.clean=true)
 (ab:K.fl=true->∃ps:List PV,rs=ps.map .pv/\ rs.all L.flat=true):
 ∃v' h' ls x,cT call ⟨some (c+2),PP K (.tmp (c+1)),none⟩ ⟨t,h⟩=some ⟨t.set (c+2) v',h'⟩/\ v'.cells=ls/\ h'=h++x/\ Z6 h' ls rs/\ (∀o∈cz ls,h.length<=o)/\ ls.length=rs.length:=by
 cases hK:K.fl with
 |true=>
  obtain⟨ps,e,hf⟩:=ab hK;have ad:rs.map fv=rs:=by subst e;simp[fv]
  have ax:R.flat=true:=by rcases hR with rfl|⟨l,rfl,e'⟩;exact hf;rw[e']at hf;simpa[V.flat]using hf
  have ay:fe R=R:=by rcases hR with rfl|⟨l,rfl,e'⟩;simp only[fe,ad];rw[e']at ad;simpa[fe]using ad
  obtain⟨g,ea⟩:=Z6.cq h ps;refine⟨R,h,rs,[],?_,?_,by simp,by rw[e];exact g,fun o ho=>(by rw[e,ea]at ho;cases ho),rfl⟩;simp only[PP,hK,cT,dG,dY,YJ,if_true,Zt,Zy,Opd.ev,hw,aq,aa,Yj,ax,Yv,ZA,if_false,ay,put];rcases hR with rfl|⟨l,rfl,e'⟩;rfl;exact e'.symm
 |false=>
  obtain⟨g,hb⟩:=vR rs h an;obtain⟨x,hx⟩:=tD rs h an;have az:=(pB rs h an).1;have ht:∃v',thaw h R=(v',(thawL h rs).2)/\ v'.cells=(thawL h rs).1:=by rcases hR with rfl|⟨l,rfl,rfl⟩;exact⟨_,rfl,rfl⟩;obtain⟨l',h',e'⟩:=mp h l;exact⟨.one l',by simp only[thaw,e'],by simp only[e',V.cells]⟩
  obtain⟨v',e1,e2⟩:=ht;refine⟨v',(thawL h rs).2,(thawL h rs).1,x,?_,e2,hx,g,hb,az⟩;simp only[PP,hK,cT,dG,dY,ZA,if_false,fa,Zt,Zy,Opd.ev,hw,aq,aa,aw,ite_self,e1,put]
def Dx {t:PTy}(ht:t.flatT=true){p:PV}(h:mY t p):Cp t p= .pv p:=by
 cases t with
 |lst us=>cases ht
 |_=>rfl
def ach (s:Seg)(ss:List Seg):(lh (s::ss)).map BH=s.ts.map BH++(lh ss).map BH:=by simp[lh]
def Vp {n:Nat}:∀(ss:List Seg),(∀s∈ss,adt Φ ext s)->∀{c:Nat}{dn row:List PV}{pre out:List L}{t:List V}{h:List Q0},
 QJ dn pre out ((lh ss).map BH) row c t h->dX (lh ss) row->gV row<=1048576->n=pre.length+(lh ss).length->toN c ss<t.length->
 ∃t' h' cs,cD (cf Φ ext) cS (toC n c pre.length ss) ⟨t,h⟩=some (.ret,⟨t',h'⟩)/\ t'[2]? =some (.one (.ptr 1 0 0))/\ h'[1]? =some (.box cs)/\ cs.length=n/\ Z6 h' cs (out++ly (lh ss) row)
 |[],_,c,dn,row,pre,out,t,h,s,hr,_,hn,hN=>by
  obtain rfl:=jT hr;obtain⟨cs,af,ag⟩:=s.h1;simp only[lh,Zy,Zw,Zx,Yx]at s hn ag;subst hn;have h2:=s.h2;simp only[Zw]at h2;simp only[toN]at hN;have e3:t.getD 3 (.b8 [])= .one (.ptr 2 0 0):=getD_some s.t3;have a1:ja true pre.length 0 pre=some (.agg pre):=by simp[ja]
  have e2:(t.set c (V.agg pre)).getD 2 (.b8 [])= .one (.ptr 1 0 0):=(gK (by have:=s.c4;omega)).trans (getD_some s.t2);have ec:(t.set c (V.agg pre)).getD c (.b8 [])= .agg pre:=de hN;refine⟨t.set c (.agg pre),h.set 1 (.box pre),pre,?_,by rw[Za (by have:=s.c4;omega)];exact s.t2,Zd (Zb.1 af).1,rfl,?_⟩;simp only[toC,cD,cj,cT,dG,dY,Opd.ev,e3,dP,h2,if_true,a1,put,fa,e2,ec,storeD,dg,dK,V.cells,af,ZK,ag,Zi,true_and,s.g.plain,and_self];rw[Kd _ _ ag];simp only[ly,lh,Zw];exact s.g.box af
 |sg::ss,ai,c,dn,row,pre,out,t,h,s,hr,hz,hn,hN=>by
  obtain⟨a,b,rfl,ha,hb⟩:=pf (ts:=sg.ts) hr;have a6:=nT ha;rw[ach]at s;have aA:=KC a b;have ae:=ai sg (by simp);have aF:=s.c4;have ih:=fun{c dn row pre out t h}=>Vp (n:=n) ss (fun s m=>ai s (by simp[m])) (c:=c) (dn:=dn) (row:=row) (pre:=pre) (out:=out) (t:=t) (h:=h);have fin:∀{ops:List X2}{c' off':Nat}{ls:List L}{a2:List V}{a8:List Q0},toC n c pre.length (sg::ss)= .seq (.region ops) (toC n c' off' ss)->toN c (sg::ss)=toN c' ss->cj (cf Φ ext) ops ⟨t,h⟩=some ⟨a2,a8⟩->a2.length=t.length->ls.length=sg.ts.length->off'=pre.length+ls.length->
   QJ (dn++a) (pre++ls) (out++ly sg.ts a) ((lh ss).map BH) b c' a2 a8->
   ∃t' h' cs,cD (cf Φ ext) cS (toC n c pre.length (sg::ss)) ⟨t,h⟩=some (.ret,⟨t',h'⟩)/\ t'[2]? =some (.one (.ptr 1 0 0))/\ h'[1]? =some (.box cs)/\ cs.length=n/\ Z6 h' cs (out++ly (lh (sg::ss)) (a++b)):=by intro ops c' off' ls a2 a8 e1 e2 e3 e4 e5 e6 s';obtain⟨t',h',cs,r1,r2,r3,r4,r5⟩:=ih s' hb (by omega) (by rw[hn];simp[lh,e5];omega) (by rw[e4,<-e2];exact hN);refine⟨t',h',cs,?_,r2,r3,r4,?_⟩;rw[e1];simp only[cD,e3];rw[Zv,<-e6]at r1;exact r1;rw[List.append_assoc]at r5;simp only[lh,RL a6];exact r5
  have a5:∀(ss:List Seg)(c:Nat),c<=toN c ss:=by
   intro ss;induction ss with
   |nil=>intro c;exact Zi _
   |cons x xs ih=>intro c;cases x<;>simp only[toN]<;>exact Zc (by omega) (ih _)
  have h0:=s.h0;cases sg with
  |c ty=>
   simp only[Seg.ts,ZJ]at a6 ha s fin;obtain⟨p,rfl⟩:=ZN.1 a6;have ar:=QR (a5 ss (c+3)) hN;have a1:ja false 1 pre.length ((dn++([p]++b)).map .pv)=some (.one (.pv p)):=by rw[<-s.dl];exact qz (agg:=false) (a:=[p]) (.inr rfl)
   have el:=vG (t:=t) (h:=h) s.t1 (c:=c) (by omega) (by omega) h0 a1 (cf Φ ext);have hp:ly [ty] [p]=[.pv p]:=by simp[ly,Dx ae ha.1]
   obtain⟨a2,a8,e1,e2,e3⟩:=KY (c:=c) (cv:=c+2) (v:= .one (.pv p)) (ls:=[.pv p]) (rs:=[.pv p]) (x:=[]) s (by simp) rfl ((Z6.cq h [p]).1) (fun o ho=>by simp[cz]at ho) (by simp) (by simp)
    (t':=(t.set c (.one (.ptr 0 0 pre.length))).set (c+1) (.one (.pv p))) (by rw[Za (by omega),Za (by omega)]) (by rw[Za (by omega),Za (by omega)]) (by rw[Za (by omega),Za (by omega)]) (by omega) (by simp;omega) (cf Φ ext) (w:=c+1) (de (by simp;omega)) (by omega)
   refine fin (ls:=[.pv p]) (c':=c+3) (off':=pre.length+1) rfl rfl ((fq _ _ _ el).trans e1) (by rw[e2];simp) rfl rfl ?_;rw[hp];exact e3
  |s ts K=>
   simp only[Seg.ts]at a6 ha s fin;obtain⟨ao,ab⟩:=ae;have ar:=QR (a5 ss (c+4)) hN;have a1:ja true ts.length pre.length ((dn++(a++b)).map .pv)=some (.agg (a.map .pv)):=by rw[<-s.dl,<-a6];exact qz (agg:=true) (.inl rfl)
   have el:=vG (t:=t) (h:=h) s.t1 (c:=c) (by omega) (by omega) h0 a1 (cf Φ ext);obtain⟨v',h',ls,x,e1,e2,e3,e4,e5,e6⟩:=R4 (call:=cf Φ ext) (K:=K) (c:=c) (t:=(t.set c (.one (.ptr 0 0 pre.length))).set (c+1) (.agg (a.map .pv))) (h:=h) (de (by simp;omega)) (adg h a) (Gw h a) (ao a ha (by omega)) (.inl rfl) (Cq ts a) (fun hf=>⟨a,(xD (ab hf) ha).1,by rw[(xD (ab hf) ha).1];exact(xD (ab hf) ha).2⟩);have hlt:ls.length=ts.length:=by rw[e6,RN ha]
   obtain⟨a2,a8,f1,f2,f3⟩:=KY (c:=c) (cv:=c+3) (w:=c+2) (t':=((t.set c (.one (.ptr 0 0 pre.length))).set (c+1) (.agg (a.map .pv))).set (c+2) v') s e3 e2 e4 e5 (by simpa using hlt) (by simpa using a6)
    (by rw[Za (by omega),Za (by omega),Za (by omega)]) (by rw[Za (by omega),Za (by omega),Za (by omega)]) (by rw[Za (by omega),Za (by omega),Za (by omega)]) (by omega) (by simp;omega) (cf Φ ext) (de (by simp;omega)) (by omega)
   refine fin (ls:=ls) (c':=c+4) (off':=pre.length+ts.length) rfl rfl ((fq _ _ _ el).trans ?_) (by rw[f2];simp) hlt (by rw[hlt]) f3;simp only[cj,e1];rw[hlt]at f1;exact f1
  |l ts K=>
   simp only[Seg.ts,ZJ]at a6 ha s fin;obtain⟨p,rfl⟩:=ZN.1 a6;obtain⟨rows,rfl⟩:=tk ha.1;obtain⟨ao,ab⟩:=ae;have ar:=QR (a5 ss (c+4)) hN;have a1:ja false 1 pre.length ((dn++([PV.lst rows]++b)).map .pv)=some (.one (.pv (.lst rows))):=by rw[<-s.dl];exact qz (agg:=false) (a:=[.lst rows]) (.inr rfl)
   have el:=vG (t:=t) (h:=h) s.t1 (c:=c) (by omega) (by omega) h0 a1 (cf Φ ext);obtain⟨v',h',ls,x,e1,e2,e3,e4,e5,e6⟩:=R4 (call:=cf Φ ext) (K:=K) (c:=c) (t:=(t.set c (.one (.ptr 0 0 pre.length))).set (c+1) (.one (.pv (.lst rows)))) (h:=h) (de (by simp;omega)) (ab9 h _) (NO h _) (ao rows ha.1 (by simp only[gV]at aA;omega)) (.inr ⟨_,rfl,rfl⟩) (by simp[J9]) (fun hf=>by rw[ab]at hf;cases hf);have hlt:ls.length=1:=by rw[e6];rfl
   obtain⟨a2,a8,f1,f2,f3⟩:=KY (c:=c) (cv:=c+3) (w:=c+2) (t':=((t.set c (.one (.ptr 0 0 pre.length))).set (c+1) (.one (.pv (.lst rows)))).set (c+2) v') s e3 e2 e4 e5 (by simpa using hlt) (by simp)
    (by rw[Za (by omega),Za (by omega),Za (by omega)]) (by rw[Za (by omega),Za (by omega),Za (by omega)]) (by rw[Za (by omega),Za (by omega),Za (by omega)]) (by omega) (by simp;omega) (cf Φ ext) (de (by simp;omega)) (by omega)
   refine fin (ls:=ls) (c':=c+4) (off':=pre.length+1) rfl rfl ((fq _ _ _ el).trans ?_) (by rw[f2];simp) hlt (by rw[hlt]) f3;simp only[cj,e1];rw[hlt]at f1;exact f1
def fR {k:Nat}{ss:List Seg}(hk:Φ k=some (jy ss))(ai:∀s∈ss,adt Φ ext s):oD Φ ext k (lh ss):=by
 intro r hr hz;refine j0 hk ?_;have hN:∀(ss:List Seg)(c:Nat),c<=toN c ss:=by
  intro ss;induction ss with
  |nil=>intro c;exact Zi _
  |cons x xs ih=>intro c;cases x<;>simp only[toN]<;>exact Zc (by omega) (ih _)
 obtain⟨m,hm⟩:∃m,toN 4 ss+1-1=m+4:=⟨toN 4 ss-4,by have:=hN ss 4;omega⟩;have al:(r.map L.pv).all plain=true:=by simp[plain]
 have s:QJ [] [] [] ((lh ss).map BH) r 4 (V.agg (r.map .pv)::V.one (.ptr 0 0 0)::V.one (.ptr 1 0 0)::V.one (.ptr 2 0 0)::List.replicate (m+1) (.b8 [])) [.box (r.map .pv), .box ((lh ss).map BH), .box ((lh ss).map BH)]:=
  ⟨rfl,rfl,rfl,Zi _,rfl,⟨_,rfl,by simp⟩,rfl,rfl,⟨rfl,by simp[cz],fun o ho=>by simp[cz]at ho,rfl⟩⟩
 obtain⟨t',h',cs,r1,r2,r3,r4,r5⟩:=Vp (n:=(lh ss).length) ss ai s hr hz (by simp) (by simp;omega);have aB:iN Φ ext (jy ss).body (start (jy ss) [.agg (r.map .pv)])=some (.ret,⟨t',h'⟩):=by simp only[iN,jy,start,ZJ,hm,cD,cj,cT,dG,dY,fa,Opd.ev,put,Qa,List.singleton_append,YA,Yf,ZP,V.cells,al,if_true,Zx,Zk,Zo,ZK,Nat.reduceAdd,Zh];exact r1
 rw[aB];have aC:dP h' true (lh ss).length (t'.getD 2 (.b8 []))=some (.agg cs):=by rw[getD_some r2];simp only[dP,r3,if_true];simp[ja,<-r4]
 have hg:=r5.give;simp only[Zk]at hg;simp only[done,jy,dd,cu,fb,aC,Y',YF,Zw,V.cells,r5.nodup,if_true,eh,comp,hg]
end
end Gi
