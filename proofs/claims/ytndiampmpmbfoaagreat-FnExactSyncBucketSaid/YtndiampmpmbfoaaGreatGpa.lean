/- A part. -/
import Derived.Test.YtndiampmpmbfoaaGreatGiv
set_option linter.all false
namespace Gi
open Go Go.RowKit
structure Ks where
 kt:Nat
 ks:Nat
 ke:Nat
 fl:Bool
inductive Seg where
 |c (t:PTy)
 |s (ts:List PTy) (K:Ks)
 |l (ts:List PTy) (K:Ks)
def Seg.ts :Seg->List PTy
 | .c t=>[t]
 | .s ts _=>ts
 | .l ts _=>[.lst ts]
def iO :List Seg->List PTy
 |[]=>[]
 |s::ss=>s.ts++iO ss
def xW :PTy->L
 | .int k=> .pv (.int k 0)
 | .bool=> .pv (.bool false)
 | .str=> .pv (.str [])
 | .lst _=> .nil
def nl (c x off n:Nat)(agg:Bool):List Z0:=[⟨some c, .bl (.tmp x) off,none⟩,⟨some (c+1), .load agg n (.tmp c),none⟩]
def Ni (c v off n:Nat):List Z0:=[⟨some c, .bl (.tmp 3) off,none⟩,⟨none, .storeD n (.tmp c) (.tmp v),none⟩]
def L3 (K:Ks)(x:Opd):AOp:=if K.fl then .call K.kt [x] true false else .bO K.kt [x]
def Vn (n:Nat):Nat->Nat->List Seg->Y5
 |c,_,[]=> .seq (.region [⟨some c, .load true n (.tmp 3),none⟩,⟨none, .storeD n (.tmp 2) (.tmp c),none⟩]) .ret
 |c,off, .c _::ss=> .seq (.region (nl c 1 off 1 false++Ni (c+2) (c+1) off 1)) (Vn n (c+3) (off+1) ss)
 |c,off, .s ts K::ss=> .seq (.region (nl c 1 off ts.length true++⟨some (c+2),L3 K (.tmp (c+1)),none⟩::Ni (c+3) (c+2) off ts.length)) (Vn n (c+4) (off+ts.length) ss)
 |c,off, .l _ K::ss=> .seq (.region (nl c 1 off 1 false++⟨some (c+2),L3 K (.tmp (c+1)),none⟩::Ni (c+3) (c+2) off 1)) (Vn n (c+4) (off+1) ss)
def Su :Nat->List Seg->Nat
 |c,[]=>c
 |c, .c _::ss=>Su (c+3) ss
 |c,_::ss=>Su (c+4) ss
def gj (ss:List Seg):AFn:=⟨Su 4 ss+1,[.cell 2 (iO ss).length], .seq (.region [⟨some 1, .box (.tmp 0),none⟩,⟨some 2, .alloc ((iO ss).map xW),none⟩]) (.seq (.region [⟨some 3, .alloc ((iO ss).map xW),none⟩]) (Vn (iO ss).length 4 0 ss))⟩
def yO :PTy->PV->L
 | .lst ts, .lst []=> .own ts.length []
 | .lst ts, .lst es=> .down ts.length es
 |_,p=> .pv p
def iT :List PTy->List PV->List L
 |t::ts,p::ps=>yO t p::iT ts ps
 |_,_=>[]
def GW (t:PTy)(p:PV):(yO t p).clean=true:=by unfold yO;split<;>rfl
def yP :∀(ts:List PTy)(ps:List PV),(iT ts ps).all L.clean=true
 |[],_=>by simp[iT]
 |_::_,[]=>by simp[iT]
 |t::ts,p::ps=>by simp[iT,GW,yP ts ps]
def M2 (t:PTy)(p:PV):Gl (yO t p)=p:=by unfold yO;split<;>rfl
def M5 :∀{ts:List PTy}{ps:List PV},bF ts ps->(iT ts ps).length=ts.length
 |[],ps,_=>by simp[iT]
 |t::ts,ps,h=>by
  obtain⟨p,r,rfl,_,h2⟩:=ee h
  simp[iT,M5 h2]
def Di :∀{ts:List PTy}{ps:List PV},bF ts ps->(iT ts ps).map Gl=ps
 |[],ps,h=>by rw[fv h];rfl
 |t::ts,ps,h=>by
  obtain⟨p,r,rfl,_,h2⟩:=ee h
  simp[iT,M2,Di h2]
def M4 :∀{ts us:List PTy}{ps qs:List PV},ps.length=ts.length->iT (ts++us) (ps++qs)=iT ts ps++iT us qs
 |[],us,[],qs,_=>rfl
 |t::ts,us,p::ps,qs,h=>by simp[iT,M4 (ts:=ts) (ps:=ps) (by simpa using h)]
 |[],_,p::ps,_,h=>by simp at h
 |t::ts,_,[],_,h=>by simp at h
def PTy.flatT :PTy->Bool
 | .lst _=>false
 |_=>true
def tN :∀{ts:List PTy}{ps:List PV},ts.all PTy.flatT=true->bF ts ps->iT ts ps=ps.map .pv/\ (ps.map L.pv).all L.flat=true
 |[],ps,_,h=>by rw[fv h];exact⟨rfl,rfl⟩
 |t::ts,ps,ha,h=>by
  obtain⟨p,r,rfl,h1,h2⟩:=ee h
  simp only[Zq,Zh]at ha
  obtain⟨e1,e2⟩:=tN ha.2 h2
  cases t with
  |int k=>obtain⟨n,rfl⟩:=mp h1;exact⟨by simp[iT,yO,e1],by simp only[Zv,Zq,e2];rfl⟩
  |bool=>obtain⟨n,rfl⟩:=ma h1;exact⟨by simp[iT,yO,e1],by simp only[Zv,Zq,e2];rfl⟩
  |str=>obtain⟨n,rfl⟩:=lu h1;exact⟨by simp[iT,yO,e1],by simp only[Zv,Zq,e2];rfl⟩
  |lst us=>cases ha.1
def lZ :∀{ts us:List PTy}{r:List PV},bF (ts++us) r->∃a b,r=a++b/\ bF ts a/\ bF us b
 |[],us,r,h=>⟨[],r,rfl,trivial,h⟩
 |t::ts,us,r,h=>by
  obtain⟨p,r',rfl,h1,h2⟩:=ee h
  obtain⟨a,b,rfl,h3,h4⟩:=lZ (ts:=ts) h2
  exact⟨p::a,b,rfl,⟨h1,h3⟩,h4⟩
def Hn :∀(l m:List PV),eN (l++m)=eN l+eN m
 |[],m=>by simp only[Zi,eN];omega
 |p::l,m=>by simp only[Zg,eN,Hn l m];omega
structure YT (h:List Y0) (ls rs:List L):Prop where
 give:aO h ls=some rs
 nodup:(aj ls).Nodup
 lt:∀o∈aj ls,o<h.length
 plain:ls.all plain=true
def EY (a b:List L):aj (a++b)=aj a++aj b:=by simp[aj]
def Ry {h x:List Y0}{l r:L}(e:bJ h l=some r):bJ (h++x) l=some r:=by
 cases l with
 |arr o=>
  simp only[bJ]at e⊢
  have ho:o<h.length:=by
   cases hh:h[o]? with
   |none=>rw[hh]at e;cases e
   |some y=>exact(Zb.1 hh).1
  rw[Ze ho]
  exact e
 |_=>exact e
def Gq {h x:List Y0}:∀{ls rs:List L},aO h ls=some rs->aO (h++x) ls=some rs
 |[],rs,e=>e
 |l::ls,rs,e=>by
  unfold aO at e⊢
  split at e
  ·rename_i p ps h1 h2
   rw[Ry h1,Gq h2]
   exact e
  ·cases e
def Gn {h:List Y0}:∀{a b ra rb:List L},aO h a=some ra->aO h b=some rb->aO h (a++b)=some (ra++rb)
 |[],b,ra,rb,e,e'=>by simp[aO]at e;subst e;exact e'
 |l::a,b,ra,rb,e,e'=>by
  simp only[Zg]
  unfold aO at e⊢
  split at e
  ·rename_i p ps h1 h2
   cases e
   rw[h1,Gn h2 e']
   rfl
  ·cases e
def Gp {h:List Y0}{i:Nat}{a b:List L}(hi:h[i]? =some (.box a)):∀(ls:List L),aO (h.set i (.box b)) ls=aO h ls
 |[]=>rfl
 |l::ls=>by
  have e:bJ (h.set i (.box b)) l=bJ h l:=by
   cases l with
   |arr o=>
    simp only[bJ]
    by_cases ho:i=o
    ·subst ho
     rw[Zd (Zb.1 hi).1,hi]
    ·rw[Za ho]
   |_=>rfl
  unfold aO
  rw[e,Gp hi ls]
def YT.ext {h x:List Y0}{ls rs:List L}(g:YT h ls rs):YT (h++x) ls rs:=
 ⟨Gq g.give,g.nodup,fun o ho=>by have:=g.lt o ho;simp;omega,g.plain⟩
def YT.box {h:List Y0}{i:Nat}{a b:List L}(hi:h[i]? =some (.box a)){ls rs:List L}(g:YT h ls rs):YT (h.set i (.box b)) ls rs:=
 ⟨by rw[Gp hi];exact g.give,g.nodup,fun o ho=>by simpa using g.lt o ho,g.plain⟩
def YT.app {h:List Y0}{n:Nat}{a b ra rb:List L}(ga:YT h a ra)(ha:∀o∈aj a,o<n)(gb:YT h b rb)(hb:∀o∈aj b,n<=o):YT h (a++b) (ra++rb):=by
 refine⟨Gn ga.give gb.give,?_,fun o ho=> ?_,by rw[List.all_append,ga.plain,gb.plain];rfl⟩
 ·rw[EY,List.nodup_append]
  exact⟨ga.nodup,gb.nodup,fun x hx y hy=>by have:=ha x hx;have:=hb y hy;omega⟩
 ·rw[EY,H']at ho
  rcases ho with ho|ho
  ·exact ga.lt o ho
  ·exact gb.lt o ho
def YT.cf (h:List Y0):∀(ps:List PV),YT h (ps.map .pv) (ps.map .pv)/\ aj (ps.map .pv)=[]
 |[]=>⟨⟨rfl,by simp[aj],fun o ho=>by simp[aj]at ho,rfl⟩,rfl⟩
 |p::ps=>by
  obtain⟨g,e⟩:=YT.cf h ps
  have e':aj ((p::ps).map .pv)=[]:=by simpa[aj]using e
  refine⟨⟨?_,by rw[e'];exact List.nodup_nil,fun o ho=>(by rw[e']at ho;cases ho),by simp only[Zv,Zq,g.plain];rfl⟩,e'⟩
  simp only[Zv,aO,bJ,g.give]
def rB :∀(ls:List L)(h:List Y0),ls.all L.clean=true->YT (thawL h ls).2 (thawL h ls).1 ls/\ (∀o∈aj (thawL h ls).1,h.length<=o)
 |[],h,_=>⟨⟨rfl,by simp[aj,thawL],fun o ho=>by simp[aj,thawL]at ho,rfl⟩,fun o ho=>by simp[aj,thawL]at ho⟩
 |l::ls,h,hc=>by
  simp only[Zq,Zh]at hc
  have other:thawL h (l::ls)=(l::(thawL h ls).1,(thawL h ls).2)->aj (l::(thawL h ls).1)=aj (thawL h ls).1->bJ (thawL h ls).2 l=some l->plain l=true->YT (thawL h (l::ls)).2 (thawL h (l::ls)).1 (l::ls)/\ (∀o∈aj (thawL h (l::ls)).1,h.length<=o):=by
   intro e1 e2 e3 e4
   obtain⟨g,hb⟩:=rB ls h hc.2
   rw[e1]
   refine⟨⟨?_,by rw[e2];exact g.nodup,fun o ho=>g.lt o (by rwa[e2]at ho),by simp only[Zq,e4,g.plain,ZU]⟩,fun o ho=>hb o (by rwa[e2]at ho)⟩
   simp only[aO,e3,g.give]
  cases l with
  |own z es=>
   obtain⟨g,hb⟩:=rB ls (h++[.arr z es]) hc.2
   obtain⟨t,ht⟩:=px ls (h++[.arr z es]) hc.2
   have hg:(thawL (h++[Y0.arr z es]) ls).2[h.length]? =some (.arr z es):=by rw[ht];simp
   have e2:aj (L.arr h.length::(thawL (h++[Y0.arr z es]) ls).1)=h.length::aj (thawL (h++[Y0.arr z es]) ls).1:=by simp[aj]
   simp only[thawL]
   refine⟨⟨?_,?_,fun o ho=> ?_,by simp only[Zq,g.plain];rfl⟩,fun o ho=> ?_⟩
   ·simp only[aO,bJ,hg,g.give]
   ·rw[e2,L']
    exact⟨fun hm=>by have:=hb _ hm;simp at this;omega,g.nodup⟩
   ·rw[e2]at ho
    rcases ZL.1 ho with rfl|ho
    ·rw[ht];simp
    ·exact g.lt o ho
   ·rw[e2]at ho
    rcases ZL.1 ho with rfl|ho
    ·exact Zn _
    ·have:=hb o ho;simp at this;omega
  |down z es=>
   obtain⟨g,hb⟩:=rB ls (h++[.bA z es]) hc.2
   obtain⟨t,ht⟩:=px ls (h++[.bA z es]) hc.2
   have hg:(thawL (h++[Y0.bA z es]) ls).2[h.length]? =some (.bA z es):=by rw[ht];simp
   have e2:aj (L.arr h.length::(thawL (h++[Y0.bA z es]) ls).1)=h.length::aj (thawL (h++[Y0.bA z es]) ls).1:=by simp[aj]
   simp only[thawL]
   refine⟨⟨?_,?_,fun o ho=> ?_,by simp only[Zq,g.plain];rfl⟩,fun o ho=> ?_⟩
   ·simp only[aO,bJ,hg,g.give]
   ·rw[e2,L']
    exact⟨fun hm=>by have:=hb _ hm;simp at this;omega,g.nodup⟩
   ·rw[e2]at ho
    rcases ZL.1 ho with rfl|ho
    ·rw[ht];simp
    ·exact g.lt o ho
   ·rw[e2]at ho
    rcases ZL.1 ho with rfl|ho
    ·exact Zn _
    ·have:=hb o ho;simp at this;omega
  |pv p=>exact other rfl (by simp[aj]) rfl rfl
  |nil=>exact other rfl (by simp[aj]) rfl rfl
  |_=>simp[L.clean]at hc
section
variable {Φ:Nat->Option AFn}{ext:Nat->List V->Option V}
def lw (Φ:Nat->Option AFn)(ext:Nat->List V->Option V)(k:Nat)(ts:List PTy):Prop:=
 ∀r:List PV,bF ts r->eN r<=1048576->ag Φ ext k [.agg (r.map .pv)]=some (.agg (iT ts r))
def lM (Φ:Nat->Option AFn)(ext:Nat->List V->Option V)(k:Nat)(ts:List PTy):Prop:=
 ∀rows:List (List PV),oq (.lst ts) (.lst rows)->sz (.lst rows)<=1048576->ag Φ ext k [bY rows]=some (.one (yO (.lst ts) (.lst rows)))
def VA (Φ:Nat->Option AFn)(ext:Nat->List V->Option V):Seg->Prop
 | .c t=>t.flatT=true
 | .s ts K=>lw Φ ext K.kt ts/\ (K.fl=true->ts.all PTy.flatT=true)
 | .l ts K=>lM Φ ext K.kt ts/\ K.fl=false
structure ZF (dn:List PV) (pre out zs:List L) (row:List PV) (c:Nat) (t:List V) (h:List Y0):Prop where
 t1:t[1]? =some (.one (.ptr 0 0 0))
 t2:t[2]? =some (.one (.ptr 1 0 0))
 t3:t[3]? =some (.one (.ptr 2 0 0))
 c4:4<=c
 h0:h[0]? =some (.box ((dn++row).map .pv))
 h1:∃cs,h[1]? =some (.box cs)/\ cs.length=pre.length+zs.length
 h2:h[2]? =some (.box (pre++zs))
 dl:dn.length=pre.length
 g:YT h pre out
def getD_some {t:List V}{i:Nat}{v:V}(h:t[i]? =some v):t.getD i (.b9 [])=v:=by simp[List.getD,h]
def aI {t:List V}{i:Nat}{v:V}(h:i<t.length):(t.set i v).getD i (.b9 [])=v:=by simp[List.getD,h]
def dV {t:List V}{i j:Nat}{v:V}(h:i≠j):(t.set i v).getD j (.b9 [])=t.getD j (.b9 []):=by simp[List.getD,Za h]
def nB {agg:Bool}{dn a b:List PV}(hn:agg=true \/a.length=1):gv agg a.length dn.length ((dn++(a++b)).map .pv)=some (if agg then .agg (a.map .pv)else .one (.pv (a.headD (.bool false)))):=by
 have e:((((dn++(a++b)).map L.pv).drop dn.length).take a.length)=a.map .pv:=by
  simp only[List.map_append]
  rw[show dn.length=(dn.map L.pv).length by simp,List.drop_left,show a.length=(a.map L.pv).length by simp,List.take_left]
 unfold gv
 rw[if_pos (by simp)]
 cases agg with
 |true=>simp only[if_true,e]
 |false=>
  have h1:a.length=1:=by rcases hn with h|h;cases h;exact h
  obtain⟨p,rfl⟩:=ZR.1 h1
  simp
def HH {dn a b:List PV}{pre out zs a8:List L}{c cv:Nat}{t:List V}{h h' x:List Y0}{ls rs:List L}{v:V}
 (s:ZF dn pre out (zs++a8) (a++b) c t h) (he:h'=h++x) (hv:v.cells=ls) (g:YT h' ls rs) (hb:∀o∈aj ls,h.length<=o) (hl:ls.length=zs.length) (a7:a.length=zs.length)
 {t':List V} (k1:t'[1]? =t[1]?) (k2:t'[2]? =t[2]?) (k3:t'[3]? =t[3]?) (aL:4<=cv) (a2:cv<t'.length) (call:Nat->List V->Option V) {w:Nat} (hw:t'.getD w (.b9 [])=v) (az:cv≠w):
 ∃a5 aa,ah call (Ni cv w pre.length ls.length) ⟨t',h'⟩=some ⟨a5,aa⟩/\ a5.length=t'.length/\ ZF (dn++a) (pre++ls) (out++rs) a8 b (cv+1) a5 aa:=by
 have aq:h'[2]? =some (.box (pre++(zs++a8))):=by rw[he,Ze (Zb.1 s.h2).1];exact s.h2
 have aA:h'[0]? =some (.box ((dn++(a++b)).map .pv)):=by rw[he,Ze (Zb.1 s.h0).1];exact s.h0
 have ar:putAt (pre++(zs++a8)) pre.length ls=pre++ls++a8:=by
  unfold putAt
  have e1:(pre++(zs++a8)).drop (pre.length+ls.length)=a8:=by rw[hl,<-List.append_assoc];simp
  rw[e1];simp
 have au:pre.length+ls.length<=(pre++(zs++a8)).length:=by simp;omega
 refine⟨t'.set cv (.one (.ptr 2 0 pre.length)),h'.set 2 (.box (pre++ls++a8)),?_,by simp,?_⟩
 ·have q3:t'.getD 3 (.b9 [])= .one (.ptr 2 0 0):=getD_some (k3.trans s.t3)
  have e3:(t'.set cv (V.one (.ptr 2 0 pre.length))).getD cv (.b9 [])=_:=aI a2
  have e4:(t'.set cv (V.one (.ptr 2 0 pre.length))).getD w (.b9 [])=v:=(dV az).trans hw
  simp only[Ni,ah,aG,bc,bG,Opd.ev,q3,put,ZO,e3,e4,cz,storeD,bf,bD,hv,if_true,aq,au,g.plain,true_and,and_self,ar]
 ·obtain⟨cs,ai,ak⟩:=s.h1
  have an:2<h'.length:=(Zb.1 aq).1
  refine⟨by rw[Za (by omega),k1];exact s.t1,by rw[Za (by omega),k2];exact s.t2,by rw[Za (by omega),k3];exact s.t3,by omega,?_,⟨cs,?_,?_⟩,?_,by simp[s.dl,a7,hl],?_⟩
  ·rw[Za (by omega),aA,List.append_assoc]
  ·rw[Za (by omega),he,Ze (Zb.1 ai).1];exact ai
  ·simp[ak,hl];omega
  ·rw[Zd an]
  ·have gp:YT h' pre out:=by rw[he];exact s.g.ext
   exact(gp.app (n:=h.length) s.g.lt g hb).box aq
def cA (call:Nat->List V->Option V):∀(a b:List Z0){Z Z':St},ah call a Z=some Z'->ah call (a++b) Z=ah call b Z'
 |[],b,Z,Z',h=>by simp[ah]at h;subst h;rfl
 |o::a,b,Z,Z',h=>by
  simp only[Zg,ah]at h⊢
  split at h
  ·rename_i σ1 h1
   exact cA call a b h
  ·cases h
def rj {A:List L}{c x ox off n:Nat}{agg:Bool}{t:List V}{h:List Y0}{v:V}(hx:t[x]? =some (.one (.ptr ox 0 0)))(aM:x<c)(hc:c+1<t.length)(hb:h[ox]? =some (.box A))(a1:gv agg n off A=some v)(call:Nat->List V->Option V):
 ah call (nl c x off n agg) ⟨t,h⟩=some ⟨(t.set c (.one (.ptr ox 0 off))).set (c+1) v,h⟩:=by
 have e1:t.getD x (.b9 [])= .one (.ptr ox 0 0):=getD_some hx
 have e2:(t.set c (V.one (.ptr ox 0 off))).getD c (.b9 [])=_:=aI (by omega)
 simp only[nl,ah,aG,bc,bG,Opd.ev,e1,put,ZO,e2,bA,hb,if_true,a1]
def Ki (h:List Y0)(es:List (List PV)):freezeVs h [.one (.pv (.lst es))]=h:=rfl
def Up (h:List Y0)(p:PV):al h [.one (.pv p)]=some [.one (.pv p)]:=rfl
def Vp (h:List Y0)(ps:List PV):al h [.agg (ps.map .pv)]=some [.agg (ps.map .pv)]:=by simp only[al,t7]
def Nj {call:Nat->List V->Option V}{K:Ks}{c:Nat}{t:List V}{h:List Y0}{v R:V}{rs:List L}(hw:t.getD (c+1) (.b9 [])=v)(ax:al h [v]=some [v])(aB:freezeVs h [v]=h)(ab:call K.kt [v]=some R)(hR:R= .agg rs \/∃l,R= .one l/\ rs=[l])(av:rs.all L.clean=true)
 (ad:K.fl=true->∃ps:List PV,rs=ps.map .pv/\ rs.all L.flat=true):
 ∃v' h' ls x,aG call ⟨some (c+2),L3 K (.tmp (c+1)),none⟩ ⟨t,h⟩=some ⟨t.set (c+2) v',h'⟩/\ v'.cells=ls/\ h'=h++x/\ YT h' ls rs/\ (∀o∈aj ls,h.length<=o)/\ ls.length=rs.length:=by
 cases hK:K.fl with
 |true=>
  obtain⟨ps,e,hf⟩:=ad hK
  have ae:rs.map df=rs:=by subst e;simp[df]
  have aC:R.flat=true:=by
   rcases hR with rfl|⟨l,rfl,e'⟩
   ·exact hf
   ·rw[e']at hf;simpa[V.flat]using hf
  have aD:da R=R:=by
   rcases hR with rfl|⟨l,rfl,e'⟩
   ·simp only[da,ae]
   ·rw[e']at ae;simpa[da]using ae
  obtain⟨g,ea⟩:=YT.cf h ps
  refine⟨R,h,rs,[],?_,?_,by simp,by rw[e];exact g,fun o ho=>(by rw[e,ea]at ho;cases ho),rfl⟩
  ·simp only[L3,hK,aG,bc,bG,Zb7,if_true,Zv,Zz,Opd.ev,hw,ax,ab,Za6,aC,Zb8,Zy,if_false,aD,put]
  ·rcases hR with rfl|⟨l,rfl,e'⟩
   ·rfl
   ·exact e'.symm
 |false=>
  obtain⟨g,hb⟩:=rB rs h av
  obtain⟨x,hx⟩:=px rs h av
  have aE:=(mo rs h av).1
  have ht:∃v',thaw h R=(v',(thawL h rs).2)/\ v'.cells=(thawL h rs).1:=by
   rcases hR with rfl|⟨l,rfl,rfl⟩
   ·exact⟨_,rfl,rfl⟩
   ·obtain⟨l',h',e'⟩:=jA h l
    exact⟨.one l',by simp only[thaw,e'],by simp only[e',V.cells]⟩
  obtain⟨v',e1,e2⟩:=ht
  refine⟨v',(thawL h rs).2,(thawL h rs).1,x,?_,e2,hx,g,hb,aE⟩
  simp only[L3,hK,aG,bc,bG,Zy,if_false,cz,Zv,Zz,Opd.ev,hw,ax,ab,aB,ite_self,e1,put]
def Ac {t:PTy}(ht:t.flatT=true){p:PV}(h:oq t p):yO t p= .pv p:=by
 cases t with
 |lst us=>cases ht
 |_=>rfl
def Uv (s:Seg)(ss:List Seg):(iO (s::ss)).map xW=s.ts.map xW++(iO ss).map xW:=by simp[iO]
def QA {n:Nat}:∀(ss:List Seg),(∀s∈ss,VA Φ ext s)->∀{c:Nat}{dn row:List PV}{pre out:List L}{t:List V}{h:List Y0},
 ZF dn pre out ((iO ss).map xW) row c t h->bF (iO ss) row->eN row<=1048576->n=pre.length+(iO ss).length->Su c ss<t.length->
 ∃t' h' cs,ap (ag Φ ext) aF (Vn n c pre.length ss) ⟨t,h⟩=some (.ret,⟨t',h'⟩)/\ t'[2]? =some (.one (.ptr 1 0 0))/\ h'[1]? =some (.box cs)/\ cs.length=n/\ YT h' cs (out++iT (iO ss) row)
 |[],_,c,dn,row,pre,out,t,h,s,hr,_,hn,hN=>by
  obtain rfl:=fv hr
  obtain⟨cs,ai,ak⟩:=s.h1
  simp only[iO,Zz,Zw,Zx,Za7]at s hn ak
  subst hn
  have h2:=s.h2
  simp only[Zw]at h2
  simp only[Su]at hN
  have e3:t.getD 3 (.b9 [])= .one (.ptr 2 0 0):=getD_some s.t3
  have a1:gv true pre.length 0 pre=some (.agg pre):=by simp[gv]
  have e2:(t.set c (V.agg pre)).getD 2 (.b9 [])= .one (.ptr 1 0 0):=(dV (by have:=s.c4;omega)).trans (getD_some s.t2)
  have ec:(t.set c (V.agg pre)).getD c (.b9 [])= .agg pre:=aI hN
  refine⟨t.set c (.agg pre),h.set 1 (.box pre),pre,?_,by rw[Za (by have:=s.c4;omega)];exact s.t2,Zd (Zb.1 ai).1,rfl,?_⟩
  ·simp only[Vn,ap,ah,aG,bc,bG,Opd.ev,e3,bA,h2,if_true,a1,put,cz,e2,ec,storeD,bf,bD,V.cells,ai,ZO,ak,Zn,true_and,s.g.plain,and_self]
   rw[GZ _ _ ak]
  ·simp only[iT,iO,Zw]
   exact s.g.box ai
 |sg::ss,ao,c,dn,row,pre,out,t,h,s,hr,hz,hn,hN=>by
  obtain⟨a,b,rfl,ha,hb⟩:=lZ (ts:=sg.ts) hr
  have a7:=kN ha
  rw[Uv]at s
  have aH:=Hn a b
  have af:=ao sg (by simp)
  have aN:=s.c4
  have ih:=fun{c dn row pre out t h}=>QA (n:=n) ss (fun s m=>ao s (by simp[m])) (c:=c) (dn:=dn) (row:=row) (pre:=pre) (out:=out) (t:=t) (h:=h)
  have fin:∀{ops:List Z0}{c' off':Nat}{ls:List L}{a5:List V}{aa:List Y0},Vn n c pre.length (sg::ss)= .seq (.region ops) (Vn n c' off' ss)->Su c (sg::ss)=Su c' ss->ah (ag Φ ext) ops ⟨t,h⟩=some ⟨a5,aa⟩->a5.length=t.length->ls.length=sg.ts.length->off'=pre.length+ls.length->
   ZF (dn++a) (pre++ls) (out++iT sg.ts a) ((iO ss).map xW) b c' a5 aa->
   ∃t' h' cs,ap (ag Φ ext) aF (Vn n c pre.length (sg::ss)) ⟨t,h⟩=some (.ret,⟨t',h'⟩)/\ t'[2]? =some (.one (.ptr 1 0 0))/\ h'[1]? =some (.box cs)/\ cs.length=n/\ YT h' cs (out++iT (iO (sg::ss)) (a++b)):=by
   intro ops c' off' ls a5 aa e1 e2 e3 e4 e5 e6 s'
   obtain⟨t',h',cs,r1,r2,r3,r4,r5⟩:=ih s' hb (by omega) (by rw[hn];simp[iO,e5];omega) (by rw[e4,<-e2];exact hN)
   refine⟨t',h',cs,?_,r2,r3,r4,?_⟩
   ·rw[e1]
    simp only[ap,e3]
    rw[Zu,<-e6]at r1
    exact r1
   ·rw[List.append_assoc]at r5
    simp only[iO,M4 a7]
    exact r5
  have a6:∀(ss:List Seg)(c:Nat),c<=Su c ss:=by
   intro ss
   induction ss with
   |nil=>intro c;exact Zn _
   |cons x xs ih=>intro c;cases x<;>simp only[Su]<;>exact Zc (by omega) (ih _)
  have h0:=s.h0
  cases sg with
  |c ty=>
   simp only[Seg.ts,ZN]at a7 ha s fin
   obtain⟨p,rfl⟩:=ZR.1 a7
   have ay:=Nat.lt_of_le_of_lt (a6 ss (c+3)) hN
   have a1:gv false 1 pre.length ((dn++([p]++b)).map .pv)=some (.one (.pv p)):=by rw[<-s.dl];exact nB (agg:=false) (a:=[p]) (.inr rfl)
   have el:=rj (t:=t) (h:=h) s.t1 (c:=c) (by omega) (by omega) h0 a1 (ag Φ ext)
   have hp:iT [ty] [p]=[.pv p]:=by simp[iT,Ac af ha.1]
   obtain⟨a5,aa,e1,e2,e3⟩:=HH (c:=c) (cv:=c+2) (v:= .one (.pv p)) (ls:=[.pv p]) (rs:=[.pv p]) (x:=[]) s (by simp) rfl ((YT.cf h [p]).1) (fun o ho=>by simp[aj]at ho) (by simp) (by simp)
    (t':=(t.set c (.one (.ptr 0 0 pre.length))).set (c+1) (.one (.pv p))) (by rw[Za (by omega),Za (by omega)]) (by rw[Za (by omega),Za (by omega)]) (by rw[Za (by omega),Za (by omega)]) (by omega) (by simp;omega) (ag Φ ext) (w:=c+1) (aI (by simp;omega)) (by omega)
   refine fin (ls:=[.pv p]) (c':=c+3) (off':=pre.length+1) rfl rfl ((cA _ _ _ el).trans e1) (by rw[e2];simp) rfl rfl ?_
   rw[hp]
   exact e3
  |s ts K=>
   simp only[Seg.ts]at a7 ha s fin
   obtain⟨aw,ad⟩:=af
   have ay:=Nat.lt_of_le_of_lt (a6 ss (c+4)) hN
   have a1:gv true ts.length pre.length ((dn++(a++b)).map .pv)=some (.agg (a.map .pv)):=by rw[<-s.dl,<-a7];exact nB (agg:=true) (.inl rfl)
   have el:=rj (t:=t) (h:=h) s.t1 (c:=c) (by omega) (by omega) h0 a1 (ag Φ ext)
   obtain⟨v',h',ls,x,e1,e2,e3,e4,e5,e6⟩:=Nj (call:=ag Φ ext) (K:=K) (c:=c) (t:=(t.set c (.one (.ptr 0 0 pre.length))).set (c+1) (.agg (a.map .pv))) (h:=h) (aI (by simp;omega)) (Vp h a) (C7 h a) (aw a ha (by omega)) (.inl rfl) (yP ts a) (fun hf=>⟨a,(tN (ad hf) ha).1,by rw[(tN (ad hf) ha).1];exact(tN (ad hf) ha).2⟩)
   have a2:ls.length=ts.length:=by rw[e6,M5 ha]
   obtain⟨a5,aa,f1,f2,f3⟩:=HH (c:=c) (cv:=c+3) (w:=c+2) (t':=((t.set c (.one (.ptr 0 0 pre.length))).set (c+1) (.agg (a.map .pv))).set (c+2) v') s e3 e2 e4 e5 (by simpa using a2) (by simpa using a7)
    (by rw[Za (by omega),Za (by omega),Za (by omega)]) (by rw[Za (by omega),Za (by omega),Za (by omega)]) (by rw[Za (by omega),Za (by omega),Za (by omega)]) (by omega) (by simp;omega) (ag Φ ext) (aI (by simp;omega)) (by omega)
   refine fin (ls:=ls) (c':=c+4) (off':=pre.length+ts.length) rfl rfl ((cA _ _ _ el).trans ?_) (by rw[f2];simp) a2 (by rw[a2]) f3
   simp only[ah,e1]
   rw[a2]at f1
   exact f1
  |l ts K=>
   simp only[Seg.ts,ZN]at a7 ha s fin
   obtain⟨p,rfl⟩:=ZR.1 a7
   obtain⟨rows,rfl⟩:=pg ha.1
   obtain⟨aw,ad⟩:=af
   have ay:=Nat.lt_of_le_of_lt (a6 ss (c+4)) hN
   have a1:gv false 1 pre.length ((dn++([PV.lst rows]++b)).map .pv)=some (.one (.pv (.lst rows))):=by rw[<-s.dl];exact nB (agg:=false) (a:=[.lst rows]) (.inr rfl)
   have el:=rj (t:=t) (h:=h) s.t1 (c:=c) (by omega) (by omega) h0 a1 (ag Φ ext)
   obtain⟨v',h',ls,x,e1,e2,e3,e4,e5,e6⟩:=Nj (call:=ag Φ ext) (K:=K) (c:=c) (t:=(t.set c (.one (.ptr 0 0 pre.length))).set (c+1) (.one (.pv (.lst rows)))) (h:=h) (aI (by simp;omega)) (Up h _) (Ki h _) (aw rows ha.1 (by simp only[eN]at aH;omega)) (.inr ⟨_,rfl,rfl⟩) (by simp[GW]) (fun hf=>by rw[ad]at hf;cases hf)
   have a2:ls.length=1:=by rw[e6];rfl
   obtain⟨a5,aa,f1,f2,f3⟩:=HH (c:=c) (cv:=c+3) (w:=c+2) (t':=((t.set c (.one (.ptr 0 0 pre.length))).set (c+1) (.one (.pv (.lst rows)))).set (c+2) v') s e3 e2 e4 e5 (by simpa using a2) (by simp)
    (by rw[Za (by omega),Za (by omega),Za (by omega)]) (by rw[Za (by omega),Za (by omega),Za (by omega)]) (by rw[Za (by omega),Za (by omega),Za (by omega)]) (by omega) (by simp;omega) (ag Φ ext) (aI (by simp;omega)) (by omega)
   refine fin (ls:=ls) (c':=c+4) (off':=pre.length+1) rfl rfl ((cA _ _ _ el).trans ?_) (by rw[f2];simp) a2 (by rw[a2]) f3
   simp only[ah,e1]
   rw[a2]at f1
   exact f1
def cZ {k:Nat}{ss:List Seg}(hk:Φ k=some (gj ss))(ao:∀s∈ss,VA Φ ext s):lw Φ ext k (iO ss):=by
 intro r hr hz
 refine fW hk ?_
 have hN:∀(ss:List Seg)(c:Nat),c<=Su c ss:=by
  intro ss
  induction ss with
  |nil=>intro c;exact Zn _
  |cons x xs ih=>intro c;cases x<;>simp only[Su]<;>exact Zc (by omega) (ih _)
 obtain⟨m,hm⟩:∃m,Su 4 ss+1-1=m+4:=⟨Su 4 ss-4,by have:=hN ss 4;omega⟩
 have au:(r.map L.pv).all plain=true:=by simp[plain]
 have s:ZF [] [] [] ((iO ss).map xW) r 4 (V.agg (r.map .pv)::V.one (.ptr 0 0 0)::V.one (.ptr 1 0 0)::V.one (.ptr 2 0 0)::List.replicate (m+1) (.b9 [])) [.box (r.map .pv), .box ((iO ss).map xW), .box ((iO ss).map xW)]:=
  ⟨rfl,rfl,rfl,Zn _,rfl,⟨_,rfl,by simp⟩,rfl,rfl,⟨rfl,by simp[aj],fun o ho=>by simp[aj]at ho,rfl⟩⟩
 obtain⟨t',h',cs,r1,r2,r3,r4,r5⟩:=QA (n:=(iO ss).length) ss ao s hr hz (by simp) (by simp;omega)
 have aJ:fB Φ ext (gj ss).body (start (gj ss) [.agg (r.map .pv)])=some (.ret,⟨t',h'⟩):=by
  simp only[fB,gj,start,ZN,hm,ap,ah,aG,bc,bG,cz,Opd.ev,put,List.replicate_succ,List.singleton_append,Zb0,U',ZT,V.cells,au,if_true,Zx,Zi,Zo,ZO,Nat.reduceAdd,Zg]
  exact r1
 rw[aJ]
 have aK:bA h' true (iO ss).length (t'.getD 2 (.b9 []))=some (.agg cs):=by
  rw[getD_some r2]
  simp only[bA,r3,if_true]
  simp[gv,<-r4]
 have hg:=r5.give
 simp only[Zi]at hg
 simp only[done,gj,aZ,am,cj,aK,Y',Zb3,Zw,V.cells,r5.nodup,if_true,bS,comp,hg]
end
end Gi
