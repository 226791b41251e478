/- Of this proof. -/
import Derived.Test.YtlmhdkdolfpedaaGreatGiv
set_option linter.all false
namespace Gi
open Go Go.RowKit
structure Ks where
 kt:Nat
 ks:Nat
 ke:Nat
 fl:Bool
inductive Seg where
 |c (t:PTy)
 |s (ts:List PTy) (K:Ks)
 |l (ts:List PTy) (K:Ks)
def Seg.ts :Seg->List PTy
 | .c t=>[t]
 | .s ts _=>ts
 | .l ts _=>[.lst ts]
def kY :List Seg->List PTy
 |[]=>[]
 |s::ss=>s.ts++kY ss
def Bn :PTy->L
 | .int k=> .pv (.int k 0)
 | .bool=> .pv (.bool false)
 | .str=> .pv (.str [])
 | .lst _=> .nil
def qd (c x off n:Nat)(agg:Bool):List X2:=[⟨some c, .bj (.tmp x) off,none⟩,⟨some (c+1), .load agg n (.tmp c),none⟩]
def Rx (c v off n:Nat):List X2:=[⟨some c, .bj (.tmp 3) off,none⟩,⟨none, .storeD n (.tmp c) (.tmp v),none⟩]
def Pn (K:Ks)(x:Opd):AOp:=if K.fl then .call K.kt [x] true false else .bN K.kt [x]
def toC (n:Nat):Nat->Nat->List Seg->Q6
 |c,_,[]=> .seq (.region [⟨some c, .load true n (.tmp 3),none⟩,⟨none, .storeD n (.tmp 2) (.tmp c),none⟩]) .ret
 |c,off, .c _::ss=> .seq (.region (qd c 1 off 1 false++Rx (c+2) (c+1) off 1)) (toC n (c+3) (off+1) ss)
 |c,off, .s ts K::ss=> .seq (.region (qd c 1 off ts.length true++⟨some (c+2),Pn K (.tmp (c+1)),none⟩::Rx (c+3) (c+2) off ts.length)) (toC n (c+4) (off+ts.length) ss)
 |c,off, .l _ K::ss=> .seq (.region (qd c 1 off 1 false++⟨some (c+2),Pn K (.tmp (c+1)),none⟩::Rx (c+3) (c+2) off 1)) (toC n (c+4) (off+1) ss)
def WI :Nat->List Seg->Nat
 |c,[]=>c
 |c, .c _::ss=>WI (c+3) ss
 |c,_::ss=>WI (c+4) ss
def ju (ss:List Seg):AFn:=⟨WI 4 ss+1,[.cell 2 (kY ss).length], .seq (.region [⟨some 1, .box (.tmp 0),none⟩,⟨some 2, .alloc ((kY ss).map Bn),none⟩]) (.seq (.region [⟨some 3, .alloc ((kY ss).map Bn),none⟩]) (toC (kY ss).length 4 0 ss))⟩
def B5 :PTy->PV->L
 | .lst ts, .lst []=> .own ts.length []
 | .lst ts, .lst es=> .down ts.length es
 |_,p=> .pv p
def lc :List PTy->List PV->List L
 |t::ts,p::ps=>B5 t p::lc ts ps
 |_,_=>[]
def JL (t:PTy)(p:PV):(B5 t p).clean=true:=by unfold B5;split<;>rfl
def B6 :∀(ts:List PTy)(ps:List PV),(lc ts ps).all L.clean=true
 |[],_=>by simp[lc]
 |_::_,[]=>by simp[lc]
 |t::ts,p::ps=>by simp[lc,JL,B6 ts ps]
def Ri (t:PTy)(p:PV):Jf (B5 t p)=p:=by unfold B5;split<;>rfl
def Rl :∀{ts:List PTy}{ps:List PV},dW ts ps->(lc ts ps).length=ts.length
 |[],ps,_=>by simp[lc]
 |t::ts,ps,h=>by obtain⟨p,r,rfl,_,h2⟩:=gY h;simp[lc,Rl h2]
def Gh :∀{ts:List PTy}{ps:List PV},dW ts ps->(lc ts ps).map Jf=ps
 |[],ps,h=>by rw[ja h];rfl
 |t::ts,ps,h=>by obtain⟨p,r,rfl,_,h2⟩:=gY h;simp[lc,Ri,Gh h2]
def Rk :∀{ts us:List PTy}{ps qs:List PV},ps.length=ts.length->lc (ts++us) (ps++qs)=lc ts ps++lc us qs
 |[],us,[],qs,_=>rfl
 |t::ts,us,p::ps,qs,h=>by simp[lc,Rk (ts:=ts) (ps:=ps) (by simpa using h)]
 |[],_,p::ps,_,h=>by simp at h
 |t::ts,_,[],_,h=>by simp at h
def PTy.flatT :PTy->Bool
 | .lst _=>false
 |_=>true
def xl :∀{ts:List PTy}{ps:List PV},ts.all PTy.flatT=true->dW ts ps->lc ts ps=ps.map .pv/\ (ps.map L.pv).all L.flat=true
 |[],ps,_,h=>by rw[ja h];exact⟨rfl,rfl⟩
 |t::ts,ps,ha,h=>by
  obtain⟨p,r,rfl,h1,h2⟩:=gY h;simp only[Zq,Zg]at ha;obtain⟨e1,e2⟩:=xl ha.2 h2;cases t with
  |int k=>obtain⟨n,rfl⟩:=qh h1;exact⟨by simp[lc,B5,e1],by simp only[Zt,Zq,e2];rfl⟩
  |bool=>obtain⟨n,rfl⟩:=oZ h1;exact⟨by simp[lc,B5,e1],by simp only[Zt,Zq,e2];rfl⟩
  |str=>obtain⟨n,rfl⟩:=oh h1;exact⟨by simp[lc,B5,e1],by simp only[Zt,Zq,e2];rfl⟩
  |lst us=>cases ha.1
def oY :∀{ts us:List PTy}{r:List PV},dW (ts++us) r->∃a b,r=a++b/\ dW ts a/\ dW us b
 |[],us,r,h=>⟨[],r,rfl,trivial,h⟩
 |t::ts,us,r,h=>by obtain⟨p,r',rfl,h1,h2⟩:=gY h;obtain⟨a,b,rfl,h3,h4⟩:=oY (ts:=ts) h2;exact⟨p::a,b,rfl,⟨h1,h3⟩,h4⟩
def Kd :∀(l m:List PV),gT (l++m)=gT l+gT m
 |[],m=>by simp only[Zj,gT];omega
 |p::l,m=>by simp only[Zh,gT,Kd l m];omega
structure Z6 (h:List Q0) (ls rs:List L):Prop where
 give:cV h ls=some rs
 nodup:(cz ls).Nodup
 lt:∀o∈cz ls,o<h.length
 plain:ls.all plain=true
def H5 (a b:List L):cz (a++b)=cz a++cz b:=by simp[cz]
def VT {h x:List Q0}{l r:L}(e:dS h l=some r):dS (h++x) l=some r:=by
 cases l with
 |arr o=>
  simp only[dS]at e⊢;have ho:o<h.length:=by
   cases hh:h[o]? with
   |none=>rw[hh]at e;cases e
   |some y=>exact(Zb.1 hh).1
  rw[Ze ho];exact e
 |_=>exact e
def Ji {h x:List Q0}:∀{ls rs:List L},cV h ls=some rs->cV (h++x) ls=some rs
 |[],rs,e=>e
 |l::ls,rs,e=>by unfold cV at e⊢;split at e;rename_i p ps h1 h2;rw[VT h1,Ji h2];exact e;cases e
def Jg {h:List Q0}:∀{a b ra rb:List L},cV h a=some ra->cV h b=some rb->cV h (a++b)=some (ra++rb)
 |[],b,ra,rb,e,e'=>by simp[cV]at e;subst e;exact e'
 |l::a,b,ra,rb,e,e'=>by simp only[Zh];unfold cV at e⊢;split at e;rename_i p ps h1 h2;cases e;rw[h1,Jg h2 e'];rfl;cases e
def Jh {h:List Q0}{i:Nat}{a b:List L}(hi:h[i]? =some (.box a)):∀(ls:List L),cV (h.set i (.box b)) ls=cV h ls
 |[]=>rfl
 |l::ls=>by
  have e:dS (h.set i (.box b)) l=dS h l:=by
   cases l with
   |arr o=>simp only[dS];by_cases ho:i=o;subst ho;rw[Zd (Zb.1 hi).1,hi];rw[Za ho]
   |_=>rfl
  unfold cV;rw[e,Jh hi ls]
def Z6.ext {h x:List Q0}{ls rs:List L}(g:Z6 h ls rs):Z6 (h++x) ls rs:=
 ⟨Ji g.give,g.nodup,fun o ho=>by have:=g.lt o ho;simp;omega,g.plain⟩
def Z6.box {h:List Q0}{i:Nat}{a b:List L}(hi:h[i]? =some (.box a)){ls rs:List L}(g:Z6 h ls rs):Z6 (h.set i (.box b)) ls rs:=
 ⟨by rw[Jh hi];exact g.give,g.nodup,fun o ho=>by simpa using g.lt o ho,g.plain⟩
def Z6.app {h:List Q0}{n:Nat}{a b ra rb:List L}(ga:Z6 h a ra)(ha:∀o∈cz a,o<n)(gb:Z6 h b rb)(hb:∀o∈cz b,n<=o):Z6 h (a++b) (ra++rb):=by refine⟨Jg ga.give gb.give,?_,fun o ho=> ?_,by rw[List.all_append,ga.plain,gb.plain];rfl⟩;rw[H5,List.nodup_append];exact⟨ga.nodup,gb.nodup,fun x hx y hy=>by have:=ha x hx;have:=hb y hy;omega⟩;rw[H5,Ye]at ho;rcases ho with ho|ho;exact ga.lt o ho;exact gb.lt o ho
def Z6.cd (h:List Q0):∀(ps:List PV),Z6 h (ps.map .pv) (ps.map .pv)/\ cz (ps.map .pv)=[]
 |[]=>⟨⟨rfl,by simp[cz],fun o ho=>by simp[cz]at ho,rfl⟩,rfl⟩
 |p::ps=>by
  obtain⟨g,e⟩:=Z6.cd h ps;have e':cz ((p::ps).map .pv)=[]:=by simpa[cz]using e
  refine⟨⟨?_,by rw[e'];exact QP,fun o ho=>(by rw[e']at ho;cases ho),by simp only[Zt,Zq,g.plain];rfl⟩,e'⟩;simp only[Zt,cV,dS,g.give]
def vD :∀(ls:List L)(h:List Q0),ls.all L.clean=true->Z6 (thawL h ls).2 (thawL h ls).1 ls/\ (∀o∈cz (thawL h ls).1,h.length<=o)
 |[],h,_=>⟨⟨rfl,by simp[cz,thawL],fun o ho=>by simp[cz,thawL]at ho,rfl⟩,fun o ho=>by simp[cz,thawL]at ho⟩
 |l::ls,h,hc=>by
  simp only[Zq,Zg]at hc;have other:thawL h (l::ls)=(l::(thawL h ls).1,(thawL h ls).2)->cz (l::(thawL h ls).1)=cz (thawL h ls).1->dS (thawL h ls).2 l=some l->plain l=true->Z6 (thawL h (l::ls)).2 (thawL h (l::ls)).1 (l::ls)/\ (∀o∈cz (thawL h (l::ls)).1,h.length<=o):=by intro e1 e2 e3 e4;obtain⟨g,hb⟩:=vD ls h hc.2;rw[e1];refine⟨⟨?_,by rw[e2];exact g.nodup,fun o ho=>g.lt o (by rwa[e2]at ho),by simp only[Zq,e4,g.plain,ZG]⟩,fun o ho=>hb o (by rwa[e2]at ho)⟩;simp only[cV,e3,g.give]
  cases l with
  |own z es=>
   obtain⟨g,hb⟩:=vD ls (h++[.arr z es]) hc.2;obtain⟨t,ht⟩:=tj ls (h++[.arr z es]) hc.2;have hg:(thawL (h++[Q0.arr z es]) ls).2[h.length]? =some (.arr z es):=by rw[ht];simp
   have e2:cz (L.arr h.length::(thawL (h++[Q0.arr z es]) ls).1)=h.length::cz (thawL (h++[Q0.arr z es]) ls).1:=by simp[cz]
   simp only[thawL];refine⟨⟨?_,?_,fun o ho=> ?_,by simp only[Zq,g.plain];rfl⟩,fun o ho=> ?_⟩;simp only[cV,dS,hg,g.give];rw[e2,Yn];exact⟨fun hm=>by have:=hb _ hm;simp at this;omega,g.nodup⟩;rw[e2]at ho;rcases ZF.1 ho with rfl|ho;rw[ht];simp;exact g.lt o ho;rw[e2]at ho;rcases ZF.1 ho with rfl|ho;exact Zi _;have:=hb o ho;simp at this;omega
  |down z es=>
   obtain⟨g,hb⟩:=vD ls (h++[.b9 z es]) hc.2;obtain⟨t,ht⟩:=tj ls (h++[.b9 z es]) hc.2;have hg:(thawL (h++[Q0.b9 z es]) ls).2[h.length]? =some (.b9 z es):=by rw[ht];simp
   have e2:cz (L.arr h.length::(thawL (h++[Q0.b9 z es]) ls).1)=h.length::cz (thawL (h++[Q0.b9 z es]) ls).1:=by simp[cz]
   simp only[thawL];refine⟨⟨?_,?_,fun o ho=> ?_,by simp only[Zq,g.plain];rfl⟩,fun o ho=> ?_⟩;simp only[cV,dS,hg,g.give];rw[e2,Yn];exact⟨fun hm=>by have:=hb _ hm;simp at this;omega,g.nodup⟩;rw[e2]at ho;rcases ZF.1 ho with rfl|ho;rw[ht];simp;exact g.lt o ho;rw[e2]at ho;rcases ZF.1 ho with rfl|ho;exact Zi _;have:=hb o ho;simp at this;omega
  |pv p=>exact other rfl (by simp[cz]) rfl rfl
  |nil=>exact other rfl (by simp[cz]) rfl rfl
  |_=>simp[L.clean]at hc
section
variable {Φ:Nat->Option AFn}{ext:Nat->List V->Option V}
def ol (Φ:Nat->Option AFn)(ext:Nat->List V->Option V)(k:Nat)(ts:List PTy):Prop:=
 ∀r:List PV,dW ts r->gT r<=1048576->cf Φ ext k [.agg (r.map .pv)]=some (.agg (lc ts r))
def oJ (Φ:Nat->Option AFn)(ext:Nat->List V->Option V)(k:Nat)(ts:List PTy):Prop:=
 ∀rows:List (List PV),qa (.lst ts) (.lst rows)->sz (.lst rows)<=1048576->cf Φ ext k [eQ rows]=some (.one (B5 (.lst ts) (.lst rows)))
def acT (Φ:Nat->Option AFn)(ext:Nat->List V->Option V):Seg->Prop
 | .c t=>t.flatT=true
 | .s ts K=>ol Φ ext K.kt ts/\ (K.fl=true->ts.all PTy.flatT=true)
 | .l ts K=>oJ Φ ext K.kt ts/\ K.fl=false
structure QJ (dn:List PV) (pre out zs:List L) (row:List PV) (c:Nat) (t:List V) (h:List Q0):Prop where
 t1:t[1]? =some (.one (.ptr 0 0 0))
 t2:t[2]? =some (.one (.ptr 1 0 0))
 t3:t[3]? =some (.one (.ptr 2 0 0))
 c4:4<=c
 h0:h[0]? =some (.box ((dn++row).map .pv))
 h1:∃cs,h[1]? =some (.box cs)/\ cs.length=pre.length+zs.length
 h2:h[2]? =some (.box (pre++zs))
 dl:dn.length=pre.length
 g:Z6 h pre out
def getD_some {t:List V}{i:Nat}{v:V}(h:t[i]? =some v):t.getD i (.b8 [])=v:=by simp[List.getD,h]
def db {t:List V}{i:Nat}{v:V}(h:i<t.length):(t.set i v).getD i (.b8 [])=v:=by simp[List.getD,h]
def gI {t:List V}{i j:Nat}{v:V}(h:i≠j):(t.set i v).getD j (.b8 [])=t.getD j (.b8 []):=by simp[List.getD,Za h]
def ql {agg:Bool}{dn a b:List PV}(hn:agg=true \/a.length=1):iZ agg a.length dn.length ((dn++(a++b)).map .pv)=some (if agg then .agg (a.map .pv)else .one (.pv (a.headD (.bool false)))):=by
 have e:((((dn++(a++b)).map L.pv).drop dn.length).take a.length)=a.map .pv:=by simp only[Qf];rw[show dn.length=(dn.map L.pv).length by simp,List.drop_left,show a.length=(a.map L.pv).length by simp,List.take_left]
 unfold iZ;rw[if_pos (by simp)];cases agg with
 |true=>simp only[if_true,e]
 |false=>
  have h1:a.length=1:=by rcases hn with h|h;cases h;exact h
  obtain⟨p,rfl⟩:=ZN.1 h1;simp
def Kx {dn a b:List PV}{pre out zs a7:List L}{c cv:Nat}{t:List V}{h h' x:List Q0}{ls rs:List L}{v:V}
 (s:QJ dn pre out (zs++a7) (a++b) c t h) (he:h'=h++x) (hv:v.cells=ls) (g:Z6 h' ls rs) (hb:∀o∈cz ls,h.length<=o) (hl:ls.length=zs.length) (a6:a.length=zs.length)
 {t':List V} (k1:t'[1]? =t[1]?) (k2:t'[2]? =t[2]?) (k3:t'[3]? =t[3]?) (aD:4<=cv) (hlt:cv<t'.length) (call:Nat->List V->Option V) {w:Nat} (hw:t'.getD w (.b8 [])=v) (au:cv≠w):
 ∃a2 a8,cj call (Rx cv w pre.length ls.length) ⟨t',h'⟩=some ⟨a2,a8⟩/\ a2.length=t'.length/\ QJ (dn++a) (pre++ls) (out++rs) a7 b (cv+1) a2 a8:=by
 have aj:h'[2]? =some (.box (pre++(zs++a7))):=by rw[he,Ze (Zb.1 s.h2).1];exact s.h2
 have av:h'[0]? =some (.box ((dn++(a++b)).map .pv)):=by rw[he,Ze (Zb.1 s.h0).1];exact s.h0
 have ak:putAt (pre++(zs++a7)) pre.length ls=pre++ls++a7:=by
  unfold putAt;have e1:(pre++(zs++a7)).drop (pre.length+ls.length)=a7:=by rw[hl,<-List.append_assoc];simp
  rw[e1];simp
 have al:pre.length+ls.length<=(pre++(zs++a7)).length:=by simp;omega
 refine⟨t'.set cv (.one (.ptr 2 0 pre.length)),h'.set 2 (.box (pre++ls++a7)),?_,by simp,?_⟩;have q3:t'.getD 3 (.b8 [])= .one (.ptr 2 0 0):=getD_some (k3.trans s.t3);have e3:(t'.set cv (V.one (.ptr 2 0 pre.length))).getD cv (.b8 [])=_:=db hlt;have e4:(t'.set cv (V.one (.ptr 2 0 pre.length))).getD w (.b8 [])=v:=(gI au).trans hw;simp only[Rx,cj,cS,dy,dX,Opd.ev,q3,put,ZJ,e3,e4,eX,storeD,de,dK,hv,if_true,aj,al,g.plain,true_and,and_self,ak];obtain⟨cs,af,ag⟩:=s.h1;have ah:2<h'.length:=(Zb.1 aj).1;refine⟨by rw[Za (by omega),k1];exact s.t1,by rw[Za (by omega),k2];exact s.t2,by rw[Za (by omega),k3];exact s.t3,by omega,?_,⟨cs,?_,?_⟩,?_,by simp[s.dl,a6,hl],?_⟩;rw[Za (by omega),av,List.append_assoc];rw[Za (by omega),he,Ze (Zb.1 af).1];exact af;simp[ag,hl];omega;rw[Zd ah];have gp:Z6 h' pre out:=by rw[he];exact s.g.ext
 exact(gp.app (n:=h.length) s.g.lt g hb).box aj
def fe (call:Nat->List V->Option V):∀(a b:List X2){Z Z':St},cj call a Z=some Z'->cj call (a++b) Z=cj call b Z'
 |[],b,Z,Z',h=>by simp[cj]at h;subst h;rfl
 |o::a,b,Z,Z',h=>by simp only[Zh,cj]at h⊢;split at h;rename_i σ1 h1;exact fe call a b h;cases h
def vq {A:List L}{c x ox off n:Nat}{agg:Bool}{t:List V}{h:List Q0}{v:V}(hx:t[x]? =some (.one (.ptr ox 0 0)))(aE:x<c)(hc:c+1<t.length)(hb:h[ox]? =some (.box A))(a1:iZ agg n off A=some v)(call:Nat->List V->Option V):
 cj call (qd c x off n agg) ⟨t,h⟩=some ⟨(t.set c (.one (.ptr ox 0 off))).set (c+1) v,h⟩:=by have e1:t.getD x (.b8 [])= .one (.ptr ox 0 0):=getD_some hx;have e2:(t.set c (V.one (.ptr ox 0 off))).getD c (.b8 [])=_:=db (by omega);simp only[qd,cj,cS,dy,dX,Opd.ev,e1,put,ZJ,e2,dM,hb,if_true,a1]
def Nu (h:List Q0)(es:List (List PV)):freezeVs h [.one (.pv (.lst es))]=h:=rfl
def abF (h:List Q0)(p:PV):cy h [.one (.pv p)]=some [.one (.pv p)]:=rfl
def acG (h:List Q0)(ps:List PV):cy h [.agg (ps.map .pv)]=some [.agg (ps.map .pv)]:=by simp only[cy,xy]
def Ry {call:Nat->List V->Option V}{K:Ks}{c:Nat}{t:List V}{h:List Q0}{v R:V}{rs:List L}(hw:t.getD (c+1) (.b8 [])=v)(aq:cy h [v]=some [v])(aw:freezeVs h [v]=h)(aa:call K.kt [v]=some R)(hR:R= .agg rs \/∃l,R= .one l/\ rs=[l])(an:rs.all L.clean=true)
 (ab:K.fl=true->∃ps:List PV,rs=ps.map .pv/\ rs.all L.flat=true):
 ∃v' h' ls x,cS call ⟨some (c+2),Pn K (.tmp (c+1)),none⟩ ⟨t,h⟩=some ⟨t.set (c+2) v',h'⟩/\ v'.cells=ls/\ h'=h++x/\ Z6 h' ls rs/\ (∀o∈cz ls,h.length<=o)/\ ls.length=rs.length:=by
 cases hK:K.fl with
 |true=>
  obtain⟨ps,e,hf⟩:=ab hK;have ad:rs.map ft=rs:=by subst e;simp[ft]
  have ax:R.flat=true:=by rcases hR with rfl|⟨l,rfl,e'⟩;exact hf;rw[e']at hf;simpa[V.flat]using hf
  have ay:fb R=R:=by rcases hR with rfl|⟨l,rfl,e'⟩;simp only[fb,ad];rw[e']at ad;simpa[fb]using ad
  obtain⟨g,ea⟩:=Z6.cd h ps;refine⟨R,h,rs,[],?_,?_,by simp,by rw[e];exact g,fun o ho=>(by rw[e,ea]at ho;cases ho),rfl⟩;simp only[Pn,hK,cS,dy,dX,YI,if_true,Zt,Zy,Opd.ev,hw,aq,aa,Yi,ax,Yv,Zz,if_false,ay,put];rcases hR with rfl|⟨l,rfl,e'⟩;rfl;exact e'.symm
 |false=>
  obtain⟨g,hb⟩:=vD rs h an;obtain⟨x,hx⟩:=tj rs h an;have az:=(pk rs h an).1;have ht:∃v',thaw h R=(v',(thawL h rs).2)/\ v'.cells=(thawL h rs).1:=by rcases hR with rfl|⟨l,rfl,rfl⟩;exact⟨_,rfl,rfl⟩;obtain⟨l',h',e'⟩:=me h l;exact⟨.one l',by simp only[thaw,e'],by simp only[e',V.cells]⟩
  obtain⟨v',e1,e2⟩:=ht;refine⟨v',(thawL h rs).2,(thawL h rs).1,x,?_,e2,hx,g,hb,az⟩;simp only[Pn,hK,cS,dy,dX,Zz,if_false,eX,Zt,Zy,Opd.ev,hw,aq,aa,aw,ite_self,e1,put]
def Df {t:PTy}(ht:t.flatT=true){p:PV}(h:qa t p):B5 t p= .pv p:=by
 cases t with
 |lst us=>cases ht
 |_=>rfl
def abM (s:Seg)(ss:List Seg):(kY (s::ss)).map Bn=s.ts.map Bn++(kY ss).map Bn:=by simp[kY]
def UW {n:Nat}:∀(ss:List Seg),(∀s∈ss,acT Φ ext s)->∀{c:Nat}{dn row:List PV}{pre out:List L}{t:List V}{h:List Q0},
 QJ dn pre out ((kY ss).map Bn) row c t h->dW (kY ss) row->gT row<=1048576->n=pre.length+(kY ss).length->WI c ss<t.length->
 ∃t' h' cs,cD (cf Φ ext) cR (toC n c pre.length ss) ⟨t,h⟩=some (.ret,⟨t',h'⟩)/\ t'[2]? =some (.one (.ptr 1 0 0))/\ h'[1]? =some (.box cs)/\ cs.length=n/\ Z6 h' cs (out++lc (kY ss) row)
 |[],_,c,dn,row,pre,out,t,h,s,hr,_,hn,hN=>by
  obtain rfl:=ja hr;obtain⟨cs,af,ag⟩:=s.h1;simp only[kY,Zy,Zw,Zx,Yx]at s hn ag;subst hn;have h2:=s.h2;simp only[Zw]at h2;simp only[WI]at hN;have e3:t.getD 3 (.b8 [])= .one (.ptr 2 0 0):=getD_some s.t3;have a1:iZ true pre.length 0 pre=some (.agg pre):=by simp[iZ]
  have e2:(t.set c (V.agg pre)).getD 2 (.b8 [])= .one (.ptr 1 0 0):=(gI (by have:=s.c4;omega)).trans (getD_some s.t2);have ec:(t.set c (V.agg pre)).getD c (.b8 [])= .agg pre:=db hN;refine⟨t.set c (.agg pre),h.set 1 (.box pre),pre,?_,by rw[Za (by have:=s.c4;omega)];exact s.t2,Zd (Zb.1 af).1,rfl,?_⟩;simp only[toC,cD,cj,cS,dy,dX,Opd.ev,e3,dM,h2,if_true,a1,put,eX,e2,ec,storeD,de,dK,V.cells,af,ZJ,ag,Zi,true_and,s.g.plain,and_self];rw[JP _ _ ag];simp only[lc,kY,Zw];exact s.g.box af
 |sg::ss,ai,c,dn,row,pre,out,t,h,s,hr,hz,hn,hN=>by
  obtain⟨a,b,rfl,ha,hb⟩:=oY (ts:=sg.ts) hr;have a6:=nK ha;rw[abM]at s;have aA:=Kd a b;have ae:=ai sg (by simp);have aF:=s.c4;have ih:=fun{c dn row pre out t h}=>UW (n:=n) ss (fun s m=>ai s (by simp[m])) (c:=c) (dn:=dn) (row:=row) (pre:=pre) (out:=out) (t:=t) (h:=h);have fin:∀{ops:List X2}{c' off':Nat}{ls:List L}{a2:List V}{a8:List Q0},toC n c pre.length (sg::ss)= .seq (.region ops) (toC n c' off' ss)->WI c (sg::ss)=WI c' ss->cj (cf Φ ext) ops ⟨t,h⟩=some ⟨a2,a8⟩->a2.length=t.length->ls.length=sg.ts.length->off'=pre.length+ls.length->
   QJ (dn++a) (pre++ls) (out++lc sg.ts a) ((kY ss).map Bn) b c' a2 a8->
   ∃t' h' cs,cD (cf Φ ext) cR (toC n c pre.length (sg::ss)) ⟨t,h⟩=some (.ret,⟨t',h'⟩)/\ t'[2]? =some (.one (.ptr 1 0 0))/\ h'[1]? =some (.box cs)/\ cs.length=n/\ Z6 h' cs (out++lc (kY (sg::ss)) (a++b)):=by intro ops c' off' ls a2 a8 e1 e2 e3 e4 e5 e6 s';obtain⟨t',h',cs,r1,r2,r3,r4,r5⟩:=ih s' hb (by omega) (by rw[hn];simp[kY,e5];omega) (by rw[e4,<-e2];exact hN);refine⟨t',h',cs,?_,r2,r3,r4,?_⟩;rw[e1];simp only[cD,e3];rw[Zv,<-e6]at r1;exact r1;rw[List.append_assoc]at r5;simp only[kY,Rk a6];exact r5
  have a5:∀(ss:List Seg)(c:Nat),c<=WI c ss:=by
   intro ss;induction ss with
   |nil=>intro c;exact Zi _
   |cons x xs ih=>intro c;cases x<;>simp only[WI]<;>exact Zc (by omega) (ih _)
  have h0:=s.h0;cases sg with
  |c ty=>
   simp only[Seg.ts,ZI]at a6 ha s fin;obtain⟨p,rfl⟩:=ZN.1 a6;have ar:=QQ (a5 ss (c+3)) hN;have a1:iZ false 1 pre.length ((dn++([p]++b)).map .pv)=some (.one (.pv p)):=by rw[<-s.dl];exact ql (agg:=false) (a:=[p]) (.inr rfl)
   have el:=vq (t:=t) (h:=h) s.t1 (c:=c) (by omega) (by omega) h0 a1 (cf Φ ext);have hp:lc [ty] [p]=[.pv p]:=by simp[lc,Df ae ha.1]
   obtain⟨a2,a8,e1,e2,e3⟩:=Kx (c:=c) (cv:=c+2) (v:= .one (.pv p)) (ls:=[.pv p]) (rs:=[.pv p]) (x:=[]) s (by simp) rfl ((Z6.cd h [p]).1) (fun o ho=>by simp[cz]at ho) (by simp) (by simp)
    (t':=(t.set c (.one (.ptr 0 0 pre.length))).set (c+1) (.one (.pv p))) (by rw[Za (by omega),Za (by omega)]) (by rw[Za (by omega),Za (by omega)]) (by rw[Za (by omega),Za (by omega)]) (by omega) (by simp;omega) (cf Φ ext) (w:=c+1) (db (by simp;omega)) (by omega)
   refine fin (ls:=[.pv p]) (c':=c+3) (off':=pre.length+1) rfl rfl ((fe _ _ _ el).trans e1) (by rw[e2];simp) rfl rfl ?_;rw[hp];exact e3
  |s ts K=>
   simp only[Seg.ts]at a6 ha s fin;obtain⟨ao,ab⟩:=ae;have ar:=QQ (a5 ss (c+4)) hN;have a1:iZ true ts.length pre.length ((dn++(a++b)).map .pv)=some (.agg (a.map .pv)):=by rw[<-s.dl,<-a6];exact ql (agg:=true) (.inl rfl)
   have el:=vq (t:=t) (h:=h) s.t1 (c:=c) (by omega) (by omega) h0 a1 (cf Φ ext);obtain⟨v',h',ls,x,e1,e2,e3,e4,e5,e6⟩:=Ry (call:=cf Φ ext) (K:=K) (c:=c) (t:=(t.set c (.one (.ptr 0 0 pre.length))).set (c+1) (.agg (a.map .pv))) (h:=h) (db (by simp;omega)) (acG h a) (F5 h a) (ao a ha (by omega)) (.inl rfl) (B6 ts a) (fun hf=>⟨a,(xl (ab hf) ha).1,by rw[(xl (ab hf) ha).1];exact(xl (ab hf) ha).2⟩);have hlt:ls.length=ts.length:=by rw[e6,Rl ha]
   obtain⟨a2,a8,f1,f2,f3⟩:=Kx (c:=c) (cv:=c+3) (w:=c+2) (t':=((t.set c (.one (.ptr 0 0 pre.length))).set (c+1) (.agg (a.map .pv))).set (c+2) v') s e3 e2 e4 e5 (by simpa using hlt) (by simpa using a6)
    (by rw[Za (by omega),Za (by omega),Za (by omega)]) (by rw[Za (by omega),Za (by omega),Za (by omega)]) (by rw[Za (by omega),Za (by omega),Za (by omega)]) (by omega) (by simp;omega) (cf Φ ext) (db (by simp;omega)) (by omega)
   refine fin (ls:=ls) (c':=c+4) (off':=pre.length+ts.length) rfl rfl ((fe _ _ _ el).trans ?_) (by rw[f2];simp) hlt (by rw[hlt]) f3;simp only[cj,e1];rw[hlt]at f1;exact f1
  |l ts K=>
   simp only[Seg.ts,ZI]at a6 ha s fin;obtain⟨p,rfl⟩:=ZN.1 a6;obtain⟨rows,rfl⟩:=sB ha.1;obtain⟨ao,ab⟩:=ae;have ar:=QQ (a5 ss (c+4)) hN;have a1:iZ false 1 pre.length ((dn++([PV.lst rows]++b)).map .pv)=some (.one (.pv (.lst rows))):=by rw[<-s.dl];exact ql (agg:=false) (a:=[.lst rows]) (.inr rfl)
   have el:=vq (t:=t) (h:=h) s.t1 (c:=c) (by omega) (by omega) h0 a1 (cf Φ ext);obtain⟨v',h',ls,x,e1,e2,e3,e4,e5,e6⟩:=Ry (call:=cf Φ ext) (K:=K) (c:=c) (t:=(t.set c (.one (.ptr 0 0 pre.length))).set (c+1) (.one (.pv (.lst rows)))) (h:=h) (db (by simp;omega)) (abF h _) (Nu h _) (ao rows ha.1 (by simp only[gT]at aA;omega)) (.inr ⟨_,rfl,rfl⟩) (by simp[JL]) (fun hf=>by rw[ab]at hf;cases hf);have hlt:ls.length=1:=by rw[e6];rfl
   obtain⟨a2,a8,f1,f2,f3⟩:=Kx (c:=c) (cv:=c+3) (w:=c+2) (t':=((t.set c (.one (.ptr 0 0 pre.length))).set (c+1) (.one (.pv (.lst rows)))).set (c+2) v') s e3 e2 e4 e5 (by simpa using hlt) (by simp)
    (by rw[Za (by omega),Za (by omega),Za (by omega)]) (by rw[Za (by omega),Za (by omega),Za (by omega)]) (by rw[Za (by omega),Za (by omega),Za (by omega)]) (by omega) (by simp;omega) (cf Φ ext) (db (by simp;omega)) (by omega)
   refine fin (ls:=ls) (c':=c+4) (off':=pre.length+1) rfl rfl ((fe _ _ _ el).trans ?_) (by rw[f2];simp) hlt (by rw[hlt]) f3;simp only[cj,e1];rw[hlt]at f1;exact f1
def fQ {k:Nat}{ss:List Seg}(hk:Φ k=some (ju ss))(ai:∀s∈ss,acT Φ ext s):ol Φ ext k (kY ss):=by
 intro r hr hz;refine jg hk ?_;have hN:∀(ss:List Seg)(c:Nat),c<=WI c ss:=by
  intro ss;induction ss with
  |nil=>intro c;exact Zi _
  |cons x xs ih=>intro c;cases x<;>simp only[WI]<;>exact Zc (by omega) (ih _)
 obtain⟨m,hm⟩:∃m,WI 4 ss+1-1=m+4:=⟨WI 4 ss-4,by have:=hN ss 4;omega⟩;have al:(r.map L.pv).all plain=true:=by simp[plain]
 have s:QJ [] [] [] ((kY ss).map Bn) r 4 (V.agg (r.map .pv)::V.one (.ptr 0 0 0)::V.one (.ptr 1 0 0)::V.one (.ptr 2 0 0)::List.replicate (m+1) (.b8 [])) [.box (r.map .pv), .box ((kY ss).map Bn), .box ((kY ss).map Bn)]:=
  ⟨rfl,rfl,rfl,Zi _,rfl,⟨_,rfl,by simp⟩,rfl,rfl,⟨rfl,by simp[cz],fun o ho=>by simp[cz]at ho,rfl⟩⟩
 obtain⟨t',h',cs,r1,r2,r3,r4,r5⟩:=UW (n:=(kY ss).length) ss ai s hr hz (by simp) (by simp;omega);have aB:iI Φ ext (ju ss).body (start (ju ss) [.agg (r.map .pv)])=some (.ret,⟨t',h'⟩):=by simp only[iI,ju,start,ZI,hm,cD,cj,cS,dy,dX,eX,Opd.ev,put,Qa,List.singleton_append,Yz,Yf,ZP,V.cells,al,if_true,Zx,Zj,Zo,ZJ,Nat.reduceAdd,Zh];exact r1
 rw[aB];have aC:dM h' true (kY ss).length (t'.getD 2 (.b8 []))=some (.agg cs):=by rw[getD_some r2];simp only[dM,r3,if_true];simp[iZ,<-r4]
 have hg:=r5.give;simp only[Zj]at hg;simp only[done,ju,dd,cu,eY,aC,Y',YE,Zw,V.cells,r5.nodup,if_true,ee,comp,hg]
end
end Gi
