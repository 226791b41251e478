/- Of this proof. -/
import Derived.Test.YtbeaonmepfkmmaaGreatGivv
set_option linter.unusedSimpArgs false
set_option linter.unnecessarySimpa false
set_option linter.unusedVariables false
namespace Gi
open Go Go.RowKit
structure Ks where
 kt:Nat
 ks:Nat
 ke:Nat
 fl:Bool
inductive Seg where
 |c (t:PTy)
 |s (ts:List PTy) (K:Ks)
 |l (ts:List PTy) (K:Ks)
def Seg.ts :Seg→List PTy
 | .c t=>[t]
 | .s ts _=>ts
 | .l ts _=>[.lst ts]
def gY :List Seg→List PTy
 |[]=>[]
 |s::ss=>s.ts++gY ss
def vL :PTy→L
 | .int k=> .pv (.int k 0)
 | .bool=> .pv (.bool false)
 | .str=> .pv (.str [])
 | .lst _=> .nil
def lS (c x off n:Nat)(agg:Bool):List AOper:=[⟨some c, .fieldA (.tmp x) off,none⟩,⟨some (c+1), .load agg n (.tmp c),none⟩]
def KV (c v off n:Nat):List AOper:=[⟨some c, .fieldA (.tmp 3) off,none⟩,⟨none, .storeD n (.tmp c) (.tmp v),none⟩]
def Jz (K:Ks)(x:Opd):AOp:=if K.fl then .call K.kt [x] true false else .callC K.kt [x]
def Tx (n:Nat):Nat→Nat→List Seg→ACode
 |c,_,[]=> .seq (.region [⟨some c, .load true n (.tmp 3),none⟩,⟨none, .storeD n (.tmp 2) (.tmp c),none⟩]) .ret
 |c,off, .c _::ss=> .seq (.region (lS c 1 off 1 false++KV (c+2) (c+1) off 1)) (Tx n (c+3) (off+1) ss)
 |c,off, .s ts K::ss=> .seq (.region (lS c 1 off ts.length true++⟨some (c+2),Jz K (.tmp (c+1)),none⟩::KV (c+3) (c+2) off ts.length)) (Tx n (c+4) (off+ts.length) ss)
 |c,off, .l _ K::ss=> .seq (.region (lS c 1 off 1 false++⟨some (c+2),Jz K (.tmp (c+1)),none⟩::KV (c+3) (c+2) off 1)) (Tx n (c+4) (off+1) ss)
def Qm :Nat→List Seg→Nat
 |c,[]=>c
 |c, .c _::ss=>Qm (c+3) ss
 |c,_::ss=>Qm (c+4) ss
def fm (ss:List Seg):AFn:=⟨Qm 4 ss+1,[.cell 2 (gY ss).length], .seq (.region [⟨some 1, .box (.tmp 0),none⟩,⟨some 2, .alloc ((gY ss).map vL),none⟩]) (.seq (.region [⟨some 3, .alloc ((gY ss).map vL),none⟩]) (Tx (gY ss).length 4 0 ss))⟩
def wB :PTy→PV→L
 | .lst ts, .lst []=> .own ts.length []
 | .lst ts, .lst es=> .down ts.length es
 |_,p=> .pv p
def ig :List PTy→List PV→List L
 |t::ts,p::ps=>wB t p::ig ts ps
 |_,_=>[]
theorem Em (t:PTy)(p:PV):(wB t p).clean=true:=by unfold wB;split<;>rfl
theorem wC :∀(ts:List PTy)(ps:List PV),(ig ts ps).all L.clean=true
 |[],_=>by simp[ig]
 |_::_,[]=>by simp[ig]
 |t::ts,p::ps=>by simp[ig,Em,wC ts ps]
theorem Kx (t:PTy)(p:PV):DO (wB t p)=p:=by unfold wB;split<;>rfl
theorem KA :∀{ts:List PTy}{ps:List PV},bF ts ps→(ig ts ps).length=ts.length
 |[],ps,_=>by simp[ig]
 |t::ts,ps,h=>by
  obtain⟨p,r,rfl,_,h2⟩:=dO h
  simp[ig,KA h2]
theorem AY :∀{ts:List PTy}{ps:List PV},bF ts ps→(ig ts ps).map DO=ps
 |[],ps,h=>by rw[fL h];rfl
 |t::ts,ps,h=>by
  obtain⟨p,r,rfl,_,h2⟩:=dO h
  simp[ig,Kx,AY h2]
theorem Kz :∀{ts us:List PTy}{ps qs:List PV},ps.length=ts.length→ig (ts++us) (ps++qs)=ig ts ps++ig us qs
 |[],us,[],qs,_=>rfl
 |t::ts,us,p::ps,qs,h=>by simp[ig,Kz (ts:=ts) (ps:=ps) (by simpa using h)]
 |[],_,p::ps,_,h=>by simp at h
 |t::ts,_,[],_,h=>by simp at h
def PTy.flatT :PTy→Bool
 | .lst _=>false
 |_=>true
theorem r9 :∀{ts:List PTy}{ps:List PV},ts.all PTy.flatT=true→bF ts ps→ig ts ps=ps.map .pv∧(ps.map L.pv).all L.flat=true
 |[],ps,_,h=>by rw[fL h];exact⟨rfl,rfl⟩
 |t::ts,ps,ha,h=>by
  obtain⟨p,r,rfl,h1,h2⟩:=dO h
  simp only[Zq,Zg]at ha
  obtain⟨e1,e2⟩:=r9 ha.2 h2
  cases t with
  |int k=>obtain⟨n,rfl⟩:=lX h1;exact⟨by simp[ig,wB,e1],by simp only[Zu,Zq,e2];rfl⟩
  |bool=>obtain⟨n,rfl⟩:=kH h1;exact⟨by simp[ig,wB,e1],by simp only[Zu,Zq,e2];rfl⟩
  |str=>obtain⟨n,rfl⟩:=jY h1;exact⟨by simp[ig,wB,e1],by simp only[Zu,Zq,e2];rfl⟩
  |lst us=>cases ha.1
theorem pD :∀{ts us:List PTy}{r:List PV},bF (ts++us) r→∃a b,r=a++b∧bF ts a∧bF us b
 |[],us,r,h=>⟨[],r,rfl,trivial,h⟩
 |t::ts,us,r,h=>by
  obtain⟨p,r',rfl,h1,h2⟩:=dO h
  obtain⟨a,b,rfl,h3,h4⟩:=pD (ts:=ts) h2
  exact⟨p::a,b,rfl,⟨h1,h3⟩,h4⟩
theorem EM :∀(l m:List PV),fC (l++m)=fC l+fC m
 |[],m=>by simp only[Zt,fC];omega
 |p::l,m=>by simp only[Zr,fC,EM l m];omega
structure Gives (h:List AObj) (ls rs:List L):Prop where
 give:aM h ls=some rs
 nodup:(ar ls).Nodup
 lt:∀o∈ar ls,o<h.length
 plain:ls.all plain=true
theorem CB (a b:List L):ar (a++b)=ar a++ar b:=by simp[ar]
theorem Pr {h x:List AObj}{l r:L}(e:bA h l=some r):bA (h++x) l=some r:=by
 cases l with
 |arr o=>
  simp only[bA]at e⊢
  have ho:o<h.length:=by
   cases hh:h[o]? with
   |none=>rw[hh]at e;cases e
   |some y=>exact(Zb.1 hh).1
  rw[Ze ho]
  exact e
 |_=>exact e
theorem DR {h x:List AObj}:∀{ls rs:List L},aM h ls=some rs→aM (h++x) ls=some rs
 |[],rs,e=>e
 |l::ls,rs,e=>by
  unfold aM at e⊢
  split at e
  ·rename_i p ps h1 h2
   rw[Pr h1,DR h2]
   exact e
  ·cases e
theorem DP {h:List AObj}:∀{a b ra rb:List L},aM h a=some ra→aM h b=some rb→aM h (a++b)=some (ra++rb)
 |[],b,ra,rb,e,e'=>by simp[aM]at e;subst e;exact e'
 |l::a,b,ra,rb,e,e'=>by
  simp only[Zr]
  unfold aM at e⊢
  split at e
  ·rename_i p ps h1 h2
   cases e
   rw[h1,DP h2 e']
   rfl
  ·cases e
theorem DQ {h:List AObj}{i:Nat}{a b:List L}(hi:h[i]? =some (.box a)):∀(ls:List L),aM (h.set i (.box b)) ls=aM h ls
 |[]=>rfl
 |l::ls=>by
  have e:bA (h.set i (.box b)) l=bA h l:=by
   cases l with
   |arr o=>
    simp only[bA]
    by_cases ho:i=o
    ·subst ho
     rw[Zd (Zb.1 hi).1,hi]
    ·rw[Za ho]
   |_=>rfl
  unfold aM
  rw[e,DQ hi ls]
theorem Gives.ext {h x:List AObj}{ls rs:List L}(g:Gives h ls rs):Gives (h++x) ls rs:=
 ⟨DR g.give,g.nodup,fun o ho=>by have:=g.lt o ho;simp;omega,g.plain⟩
theorem Gives.box {h:List AObj}{i:Nat}{a b:List L}(hi:h[i]? =some (.box a)){ls rs:List L}(g:Gives h ls rs):Gives (h.set i (.box b)) ls rs:=
 ⟨by rw[DQ hi];exact g.give,g.nodup,fun o ho=>by simpa using g.lt o ho,g.plain⟩
theorem Gives.app {h:List AObj}{n:Nat}{a b ra rb:List L}(ga:Gives h a ra)(ha:∀o∈ar a,o<n)(gb:Gives h b rb)(hb:∀o∈ar b,n≤o):Gives h (a++b) (ra++rb):=by
 refine⟨DP ga.give gb.give,?_,fun o ho=> ?_,by rw[List.all_append,ga.plain,gb.plain];rfl⟩
 ·rw[CB,List.nodup_append]
  exact⟨ga.nodup,gb.nodup,fun x hx y hy=>by have:=ha x hx;have:=hb y hy;omega⟩
 ·rw[CB,List.mem_append]at ho
  rcases ho with ho|ho
  ·exact ga.lt o ho
  ·exact gb.lt o ho
theorem Gives.pvs (h:List AObj):∀(ps:List PV),Gives h (ps.map .pv) (ps.map .pv)∧ar (ps.map .pv)=[]
 |[]=>⟨⟨rfl,by simp[ar],fun o ho=>by simp[ar]at ho,rfl⟩,rfl⟩
 |p::ps=>by
  obtain⟨g,e⟩:=Gives.pvs h ps
  have e':ar ((p::ps).map .pv)=[]:=by simpa[ar]using e
  refine⟨⟨?_,by rw[e'];exact List.nodup_nil,fun o ho=>(by rw[e']at ho;cases ho),by simp only[Zu,Zq,g.plain];rfl⟩,e'⟩
  simp only[Zu,aM,bA,g.give]
theorem qp :∀(ls:List L)(h:List AObj),ls.all L.clean=true→Gives (thawL h ls).2 (thawL h ls).1 ls∧(∀o∈ar (thawL h ls).1,h.length≤o)
 |[],h,_=>⟨⟨rfl,by simp[ar,thawL],fun o ho=>by simp[ar,thawL]at ho,rfl⟩,fun o ho=>by simp[ar,thawL]at ho⟩
 |l::ls,h,hc=>by
  simp only[Zq,Zg]at hc
  have other:thawL h (l::ls)=(l::(thawL h ls).1,(thawL h ls).2)→ar (l::(thawL h ls).1)=ar (thawL h ls).1→bA (thawL h ls).2 l=some l→plain l=true→Gives (thawL h (l::ls)).2 (thawL h (l::ls)).1 (l::ls)∧(∀o∈ar (thawL h (l::ls)).1,h.length≤o):=by
   intro e1 e2 e3 e4
   obtain⟨g,hb⟩:=qp ls h hc.2
   rw[e1]
   refine⟨⟨?_,by rw[e2];exact g.nodup,fun o ho=>g.lt o (by rwa[e2]at ho),by simp only[Zq,e4,g.plain,Bool.and_self]⟩,fun o ho=>hb o (by rwa[e2]at ho)⟩
   simp only[aM,e3,g.give]
  cases l with
  |own z es=>
   obtain⟨g,hb⟩:=qp ls (h++[.arr z es]) hc.2
   obtain⟨t,ht⟩:=nV ls (h++[.arr z es]) hc.2
   have hg:(thawL (h++[AObj.arr z es]) ls).2[h.length]? =some (.arr z es):=by rw[ht];simp
   have e2:ar (L.arr h.length::(thawL (h++[AObj.arr z es]) ls).1)=h.length::ar (thawL (h++[AObj.arr z es]) ls).1:=by simp[ar]
   simp only[thawL]
   refine⟨⟨?_,?_,fun o ho=> ?_,by simp only[Zq,g.plain];rfl⟩,fun o ho=> ?_⟩
   ·simp only[aM,bA,hg,g.give]
   ·rw[e2,List.nodup_cons]
    exact⟨fun hm=>by have:=hb _ hm;simp at this;omega,g.nodup⟩
   ·rw[e2]at ho
    rcases Z6.1 ho with rfl|ho
    ·rw[ht];simp
    ·exact g.lt o ho
   ·rw[e2]at ho
    rcases Z6.1 ho with rfl|ho
    ·exact Zk _
    ·have:=hb o ho;simp at this;omega
  |down z es=>
   obtain⟨g,hb⟩:=qp ls (h++[.darr z es]) hc.2
   obtain⟨t,ht⟩:=nV ls (h++[.darr z es]) hc.2
   have hg:(thawL (h++[AObj.darr z es]) ls).2[h.length]? =some (.darr z es):=by rw[ht];simp
   have e2:ar (L.arr h.length::(thawL (h++[AObj.darr z es]) ls).1)=h.length::ar (thawL (h++[AObj.darr z es]) ls).1:=by simp[ar]
   simp only[thawL]
   refine⟨⟨?_,?_,fun o ho=> ?_,by simp only[Zq,g.plain];rfl⟩,fun o ho=> ?_⟩
   ·simp only[aM,bA,hg,g.give]
   ·rw[e2,List.nodup_cons]
    exact⟨fun hm=>by have:=hb _ hm;simp at this;omega,g.nodup⟩
   ·rw[e2]at ho
    rcases Z6.1 ho with rfl|ho
    ·rw[ht];simp
    ·exact g.lt o ho
   ·rw[e2]at ho
    rcases Z6.1 ho with rfl|ho
    ·exact Zk _
    ·have:=hb o ho;simp at this;omega
  |pv p=>exact other rfl (by simp[ar]) rfl rfl
  |nil=>exact other rfl (by simp[ar]) rfl rfl
  |_=>simp[L.clean]at hc
section
variable {Φ:Nat→Option AFn}{ext:Nat→List V→Option V}
def jZ (Φ:Nat→Option AFn)(ext:Nat→List V→Option V)(k:Nat)(ts:List PTy):Prop:=
 ∀r:List PV,bF ts r→fC r≤1048576→ah Φ ext k [.agg (r.map .pv)]=some (.agg (ig ts r))
def kq (Φ:Nat→Option AFn)(ext:Nat→List V→Option V)(k:Nat)(ts:List PTy):Prop:=
 ∀rows:List (List PV),oI (.lst ts) (.lst rows)→sz (.lst rows)≤1048576→ah Φ ext k [aR rows]=some (.one (wB (.lst ts) (.lst rows)))
def TJ (Φ:Nat→Option AFn)(ext:Nat→List V→Option V):Seg→Prop
 | .c t=>t.flatT=true
 | .s ts K=>jZ Φ ext K.kt ts∧(K.fl=true→ts.all PTy.flatT=true)
 | .l ts K=>kq Φ ext K.kt ts∧K.fl=false
structure ToSt (dn:List PV) (pre out zs:List L) (row:List PV) (c:Nat) (t:List V) (h:List AObj):Prop where
 t1:t[1]? =some (.one (.ptr 0 0 0))
 t2:t[2]? =some (.one (.ptr 1 0 0))
 t3:t[3]? =some (.one (.ptr 2 0 0))
 c4:4≤c
 h0:h[0]? =some (.box ((dn++row).map .pv))
 h1:∃cs,h[1]? =some (.box cs)∧cs.length=pre.length+zs.length
 h2:h[2]? =some (.box (pre++zs))
 dl:dn.length=pre.length
 g:Gives h pre out
theorem getD_some {t:List V}{i:Nat}{v:V}(h:t[i]? =some v):t.getD i (.tup [])=v:=by simp[List.getD,h]
theorem aN {t:List V}{i:Nat}{v:V}(h:i<t.length):(t.set i v).getD i (.tup [])=v:=by simp[List.getD,h]
theorem dM {t:List V}{i j:Nat}{v:V}(h:i≠j):(t.set i v).getD j (.tup [])=t.getD j (.tup []):=by simp[List.getD,Za h]
theorem oM {agg:Bool}{dn a b:List PV}(hn:agg=true∨a.length=1):fT agg a.length dn.length ((dn++(a++b)).map .pv)=some (if agg then .agg (a.map .pv)else .one (.pv (a.headD (.bool false)))):=by
 have e:((((dn++(a++b)).map L.pv).drop dn.length).take a.length)=a.map .pv:=by
  simp only[List.map_append]
  rw[show dn.length=(dn.map L.pv).length by simp,List.drop_left,show a.length=(a.map L.pv).length by simp,List.take_left]
 unfold fT
 rw[if_pos (by simp)]
 cases agg with
 |true=>simp only[if_true,e]
 |false=>
  have h1:a.length=1:=by rcases hn with h|h;cases h;exact h
  obtain⟨p,rfl⟩:=List.length_eq_one_iff.1 h1
  simp
theorem E6 {dn a b:List PV}{pre out zs zs':List L}{c cv:Nat}{t:List V}{h h' x:List AObj}{ls rs:List L}{v:V}
 (s:ToSt dn pre out (zs++zs') (a++b) c t h) (he:h'=h++x) (hv:v.cells=ls) (g:Gives h' ls rs) (hb:∀o∈ar ls,h.length≤o) (hl:ls.length=zs.length) (hal:a.length=zs.length)
 {t':List V} (k1:t'[1]? =t[1]?) (k2:t'[2]? =t[2]?) (k3:t'[3]? =t[3]?) (hcv:4≤cv) (hlt:cv<t'.length) (call:Nat→List V→Option V) {w:Nat} (hw:t'.getD w (.tup [])=v) (hne:cv≠w):
 ∃t'' h'',am call (KV cv w pre.length ls.length) ⟨t',h'⟩=some ⟨t'',h''⟩∧t''.length=t'.length∧ToSt (dn++a) (pre++ls) (out++rs) zs' b (cv+1) t'' h'':=by
 have hb2:h'[2]? =some (.box (pre++(zs++zs'))):=by rw[he,Ze (Zb.1 s.h2).1];exact s.h2
 have hb0:h'[0]? =some (.box ((dn++(a++b)).map .pv)):=by rw[he,Ze (Zb.1 s.h0).1];exact s.h0
 have hput:putAt (pre++(zs++zs')) pre.length ls=pre++ls++zs':=by
  unfold putAt
  have e1:(pre++(zs++zs')).drop (pre.length+ls.length)=zs':=by rw[hl,←Zn];simp
  rw[e1];simp
 have hpl:pre.length+ls.length≤(pre++(zs++zs')).length:=by simp;omega
 refine⟨t'.set cv (.one (.ptr 2 0 pre.length)),h'.set 2 (.box (pre++ls++zs')),?_,by simp,?_⟩
 ·have q3:t'.getD 3 (.tup [])= .one (.ptr 2 0 0):=getD_some (k3.trans s.t3)
  have e3:(t'.set cv (V.one (.ptr 2 0 pre.length))).getD cv (.tup [])=_:=aN hlt
  have e4:(t'.set cv (V.one (.ptr 2 0 pre.length))).getD w (.tup [])=v:=(dM hne).trans hw
  simp only[KV,am,aK,aW,bo,Opd.ev,q3,put,Nat.zero_add,e3,e4,cj,storeD,aV,bq,hv,if_true,hb2,hpl,g.plain,true_and,and_self,hput]
 ·obtain⟨cs,hc1,hc2⟩:=s.h1
  have hlen2:2<h'.length:=(Zb.1 hb2).1
  refine⟨by rw[Za (by omega),k1];exact s.t1,by rw[Za (by omega),k2];exact s.t2,by rw[Za (by omega),k3];exact s.t3,by omega,?_,⟨cs,?_,?_⟩,?_,by simp[s.dl,hal,hl],?_⟩
  ·rw[Za (by omega),hb0,Zn]
  ·rw[Za (by omega),he,Ze (Zb.1 hc1).1];exact hc1
  ·simp[hc2,hl];omega
  ·rw[Zd hlen2]
  ·have gp:Gives h' pre out:=by rw[he];exact s.g.ext
   exact(gp.app (n:=h.length) s.g.lt g hb).box hb2
theorem bZ (call:Nat→List V→Option V):∀(a b:List AOper){σ σ':St},am call a σ=some σ'→am call (a++b) σ=am call b σ'
 |[],b,σ,σ',h=>by simp[am]at h;subst h;rfl
 |o::a,b,σ,σ',h=>by
  simp only[Zr,am]at h⊢
  split at h
  ·rename_i σ1 h1
   exact bZ call a b h
  ·cases h
theorem qa {A:List L}{c x ox off n:Nat}{agg:Bool}{t:List V}{h:List AObj}{v:V}(hx:t[x]? =some (.one (.ptr ox 0 0)))(hxc:x<c)(hc:c+1<t.length)(hb:h[ox]? =some (.box A))(hcut:fT agg n off A=some v)(call:Nat→List V→Option V):
 am call (lS c x off n agg) ⟨t,h⟩=some ⟨(t.set c (.one (.ptr ox 0 off))).set (c+1) v,h⟩:=by
 have e1:t.getD x (.tup [])= .one (.ptr ox 0 0):=getD_some hx
 have e2:(t.set c (V.one (.ptr ox 0 off))).getD c (.tup [])=_:=aN (by omega)
 simp only[lS,am,aK,aW,bo,Opd.ev,e1,put,Nat.zero_add,e2,bi,hb,if_true,hcut]
theorem HV (h:List AObj)(es:List (List PV)):freezeVs h [.one (.pv (.lst es))]=h:=rfl
theorem Sl (h:List AObj)(p:PV):az h [.one (.pv p)]=some [.one (.pv p)]:=rfl
theorem TC (h:List AObj)(ps:List PV):az h [.agg (ps.map .pv)]=some [.agg (ps.map .pv)]:=by simp only[az,uA]
theorem KW {call:Nat→List V→Option V}{K:Ks}{c:Nat}{t:List V}{h:List AObj}{v R:V}{rs:List L}(hw:t.getD (c+1) (.tup [])=v)(hvw:az h [v]=some [v])(hfz:freezeVs h [v]=h)(hcall:call K.kt [v]=some R)(hR:R= .agg rs∨∃l,R= .one l∧rs=[l])(hcl:rs.all L.clean=true)
 (hfl:K.fl=true→∃ps:List PV,rs=ps.map .pv∧rs.all L.flat=true):
 ∃v' h' ls x,aK call ⟨some (c+2),Jz K (.tmp (c+1)),none⟩ ⟨t,h⟩=some ⟨t.set (c+2) v',h'⟩∧v'.cells=ls∧h'=h++x∧Gives h' ls rs∧(∀o∈ar ls,h.length≤o)∧ls.length=rs.length:=by
 cases hK:K.fl with
 |true=>
  obtain⟨ps,e,hf⟩:=hfl hK
  have hset:rs.map cS=rs:=by subst e;simp[cS]
  have hRf:R.flat=true:=by
   rcases hR with rfl|⟨l,rfl,e'⟩
   ·exact hf
   ·rw[e']at hf;simpa[V.flat]using hf
  have hsv:cT R=R:=by
   rcases hR with rfl|⟨l,rfl,e'⟩
   ·simp only[cT,hset]
   ·rw[e']at hset;simpa[cT]using hset
  obtain⟨g,ea⟩:=Gives.pvs h ps
  refine⟨R,h,rs,[],?_,?_,by simp,by rw[e];exact g,fun o ho=>(by rw[e,ea]at ho;cases ho),rfl⟩
  ·simp only[Jz,hK,aK,aW,bo,Bool.true_or,if_true,Zu,Z4,Opd.ev,hw,hvw,hcall,Bool.true_and,hRf,Bool.not_true,Z8,if_false,hsv,put]
  ·rcases hR with rfl|⟨l,rfl,e'⟩
   ·rfl
   ·exact e'.symm
 |false=>
  obtain⟨g,hb⟩:=qp rs h hcl
  obtain⟨x,hx⟩:=nV rs h hcl
  have hll:=(kP rs h hcl).1
  have ht:∃v',thaw h R=(v',(thawL h rs).2)∧v'.cells=(thawL h rs).1:=by
   rcases hR with rfl|⟨l,rfl,rfl⟩
   ·exact⟨_,rfl,rfl⟩
   ·obtain⟨l',h',e'⟩:=iM h l
    exact⟨.one l',by simp only[thaw,e'],by simp only[e',V.cells]⟩
  obtain⟨v',e1,e2⟩:=ht
  refine⟨v',(thawL h rs).2,(thawL h rs).1,x,?_,e2,hx,g,hb,hll⟩
  simp only[Jz,hK,aK,aW,bo,Z8,if_false,cj,Zu,Z4,Opd.ev,hw,hvw,hcall,hfz,ite_self,e1,put]
theorem xH {t:PTy}(ht:t.flatT=true){p:PV}(h:oI t p):wB t p= .pv p:=by
 cases t with
 |lst us=>cases ht
 |_=>rfl
theorem Sq (s:Seg)(ss:List Seg):(gY (s::ss)).map vL=s.ts.map vL++(gY ss).map vL:=by simp[gY]
theorem Oq {n:Nat}:∀(ss:List Seg),(∀s∈ss,TJ Φ ext s)→∀{c:Nat}{dn row:List PV}{pre out:List L}{t:List V}{h:List AObj},
 ToSt dn pre out ((gY ss).map vL) row c t h→bF (gY ss) row→fC row≤1048576→n=pre.length+(gY ss).length→Qm c ss<t.length→
 ∃t' h' cs,aB (ah Φ ext) aG (Tx n c pre.length ss) ⟨t,h⟩=some (.ret,⟨t',h'⟩)∧t'[2]? =some (.one (.ptr 1 0 0))∧h'[1]? =some (.box cs)∧cs.length=n∧Gives h' cs (out++ig (gY ss) row)
 |[],_,c,dn,row,pre,out,t,h,s,hr,_,hn,hN=>by
  obtain rfl:=fL hr
  obtain⟨cs,hc1,hc2⟩:=s.h1
  simp only[gY,Z4,Z3,List.length_nil,Nat.add_zero]at s hn hc2
  subst hn
  have h2:=s.h2
  simp only[Z3]at h2
  simp only[Qm]at hN
  have e3:t.getD 3 (.tup [])= .one (.ptr 2 0 0):=getD_some s.t3
  have hcut:fT true pre.length 0 pre=some (.agg pre):=by simp[fT]
  have e2:(t.set c (V.agg pre)).getD 2 (.tup [])= .one (.ptr 1 0 0):=(dM (by have:=s.c4;omega)).trans (getD_some s.t2)
  have ec:(t.set c (V.agg pre)).getD c (.tup [])= .agg pre:=aN hN
  refine⟨t.set c (.agg pre),h.set 1 (.box pre),pre,?_,by rw[Za (by have:=s.c4;omega)];exact s.t2,Zd (Zb.1 hc1).1,rfl,?_⟩
  ·simp only[Tx,aB,am,aK,aW,bo,Opd.ev,e3,bi,h2,if_true,hcut,put,cj,e2,ec,storeD,aV,bq,V.cells,hc1,Nat.zero_add,hc2,Zk,true_and,s.g.plain,and_self]
   rw[Eo _ _ hc2]
  ·simp only[ig,gY,Z3]
   exact s.g.box hc1
 |sg::ss,hss,c,dn,row,pre,out,t,h,s,hr,hz,hn,hN=>by
  obtain⟨a,b,rfl,ha,hb⟩:=pD (ts:=sg.ts) hr
  have hal:=kG ha
  rw[Sq]at s
  have hsz:=EM a b
  have hSeg:=hss sg (by simp)
  have hc4:=s.c4
  have ih:=fun{c dn row pre out t h}=>Oq (n:=n) ss (fun s m=>hss s (by simp[m])) (c:=c) (dn:=dn) (row:=row) (pre:=pre) (out:=out) (t:=t) (h:=h)
  have fin:∀{ops:List AOper}{c' off':Nat}{ls:List L}{t'':List V}{h'':List AObj},Tx n c pre.length (sg::ss)= .seq (.region ops) (Tx n c' off' ss)→Qm c (sg::ss)=Qm c' ss→am (ah Φ ext) ops ⟨t,h⟩=some ⟨t'',h''⟩→t''.length=t.length→ls.length=sg.ts.length→off'=pre.length+ls.length→
   ToSt (dn++a) (pre++ls) (out++ig sg.ts a) ((gY ss).map vL) b c' t'' h''→
   ∃t' h' cs,aB (ah Φ ext) aG (Tx n c pre.length (sg::ss)) ⟨t,h⟩=some (.ret,⟨t',h'⟩)∧t'[2]? =some (.one (.ptr 1 0 0))∧h'[1]? =some (.box cs)∧cs.length=n∧Gives h' cs (out++ig (gY (sg::ss)) (a++b)):=by
   intro ops c' off' ls t'' h'' e1 e2 e3 e4 e5 e6 s'
   obtain⟨t',h',cs,r1,r2,r3,r4,r5⟩:=ih s' hb (by omega) (by rw[hn];simp[gY,e5];omega) (by rw[e4,←e2];exact hN)
   refine⟨t',h',cs,?_,r2,r3,r4,?_⟩
   ·rw[e1]
    simp only[aB,e3]
    rw[Zp,←e6]at r1
    exact r1
   ·rw[Zn]at r5
    simp only[gY,Kz hal]
    exact r5
  have hmono:∀(ss:List Seg)(c:Nat),c≤Qm c ss:=by
   intro ss
   induction ss with
   |nil=>intro c;exact Zk _
   |cons x xs ih=>intro c;cases x<;>simp only[Qm]<;>exact Zc (by omega) (ih _)
  have h0:=s.h0
  cases sg with
  |c ty=>
   simp only[Seg.ts,Z0]at hal ha s fin
   obtain⟨p,rfl⟩:=List.length_eq_one_iff.1 hal
   have hN':=Nat.lt_of_le_of_lt (hmono ss (c+3)) hN
   have hcut:fT false 1 pre.length ((dn++([p]++b)).map .pv)=some (.one (.pv p)):=by rw[←s.dl];exact oM (agg:=false) (a:=[p]) (.inr rfl)
   have el:=qa (t:=t) (h:=h) s.t1 (c:=c) (by omega) (by omega) h0 hcut (ah Φ ext)
   have hp:ig [ty] [p]=[.pv p]:=by simp[ig,xH hSeg ha.1]
   obtain⟨t'',h'',e1,e2,e3⟩:=E6 (c:=c) (cv:=c+2) (v:= .one (.pv p)) (ls:=[.pv p]) (rs:=[.pv p]) (x:=[]) s (by simp) rfl ((Gives.pvs h [p]).1) (fun o ho=>by simp[ar]at ho) (by simp) (by simp)
    (t':=(t.set c (.one (.ptr 0 0 pre.length))).set (c+1) (.one (.pv p))) (by rw[Za (by omega),Za (by omega)]) (by rw[Za (by omega),Za (by omega)]) (by rw[Za (by omega),Za (by omega)]) (by omega) (by simp;omega) (ah Φ ext) (w:=c+1) (aN (by simp;omega)) (by omega)
   refine fin (ls:=[.pv p]) (c':=c+3) (off':=pre.length+1) rfl rfl ((bZ _ _ _ el).trans e1) (by rw[e2];simp) rfl rfl ?_
   rw[hp]
   exact e3
  |s ts K=>
   simp only[Seg.ts]at hal ha s fin
   obtain⟨hto,hfl⟩:=hSeg
   have hN':=Nat.lt_of_le_of_lt (hmono ss (c+4)) hN
   have hcut:fT true ts.length pre.length ((dn++(a++b)).map .pv)=some (.agg (a.map .pv)):=by rw[←s.dl,←hal];exact oM (agg:=true) (.inl rfl)
   have el:=qa (t:=t) (h:=h) s.t1 (c:=c) (by omega) (by omega) h0 hcut (ah Φ ext)
   obtain⟨v',h',ls,x,e1,e2,e3,e4,e5,e6⟩:=KW (call:=ah Φ ext) (K:=K) (c:=c) (t:=(t.set c (.one (.ptr 0 0 pre.length))).set (c+1) (.agg (a.map .pv))) (h:=h) (aN (by simp;omega)) (TC h a) (AL h a) (hto a ha (by omega)) (.inl rfl) (wC ts a) (fun hf=>⟨a,(r9 (hfl hf) ha).1,by rw[(r9 (hfl hf) ha).1];exact(r9 (hfl hf) ha).2⟩)
   have hlt:ls.length=ts.length:=by rw[e6,KA ha]
   obtain⟨t'',h'',f1,f2,f3⟩:=E6 (c:=c) (cv:=c+3) (w:=c+2) (t':=((t.set c (.one (.ptr 0 0 pre.length))).set (c+1) (.agg (a.map .pv))).set (c+2) v') s e3 e2 e4 e5 (by simpa using hlt) (by simpa using hal)
    (by rw[Za (by omega),Za (by omega),Za (by omega)]) (by rw[Za (by omega),Za (by omega),Za (by omega)]) (by rw[Za (by omega),Za (by omega),Za (by omega)]) (by omega) (by simp;omega) (ah Φ ext) (aN (by simp;omega)) (by omega)
   refine fin (ls:=ls) (c':=c+4) (off':=pre.length+ts.length) rfl rfl ((bZ _ _ _ el).trans ?_) (by rw[f2];simp) hlt (by rw[hlt]) f3
   simp only[am,e1]
   rw[hlt]at f1
   exact f1
  |l ts K=>
   simp only[Seg.ts,Z0]at hal ha s fin
   obtain⟨p,rfl⟩:=List.length_eq_one_iff.1 hal
   obtain⟨rows,rfl⟩:=oJ ha.1
   obtain⟨hto,hfl⟩:=hSeg
   have hN':=Nat.lt_of_le_of_lt (hmono ss (c+4)) hN
   have hcut:fT false 1 pre.length ((dn++([PV.lst rows]++b)).map .pv)=some (.one (.pv (.lst rows))):=by rw[←s.dl];exact oM (agg:=false) (a:=[.lst rows]) (.inr rfl)
   have el:=qa (t:=t) (h:=h) s.t1 (c:=c) (by omega) (by omega) h0 hcut (ah Φ ext)
   obtain⟨v',h',ls,x,e1,e2,e3,e4,e5,e6⟩:=KW (call:=ah Φ ext) (K:=K) (c:=c) (t:=(t.set c (.one (.ptr 0 0 pre.length))).set (c+1) (.one (.pv (.lst rows)))) (h:=h) (aN (by simp;omega)) (Sl h _) (HV h _) (hto rows ha.1 (by simp only[fC]at hsz;omega)) (.inr ⟨_,rfl,rfl⟩) (by simp[Em]) (fun hf=>by rw[hfl]at hf;cases hf)
   have hlt:ls.length=1:=by rw[e6];rfl
   obtain⟨t'',h'',f1,f2,f3⟩:=E6 (c:=c) (cv:=c+3) (w:=c+2) (t':=((t.set c (.one (.ptr 0 0 pre.length))).set (c+1) (.one (.pv (.lst rows)))).set (c+2) v') s e3 e2 e4 e5 (by simpa using hlt) (by simp)
    (by rw[Za (by omega),Za (by omega),Za (by omega)]) (by rw[Za (by omega),Za (by omega),Za (by omega)]) (by rw[Za (by omega),Za (by omega),Za (by omega)]) (by omega) (by simp;omega) (ah Φ ext) (aN (by simp;omega)) (by omega)
   refine fin (ls:=ls) (c':=c+4) (off':=pre.length+1) rfl rfl ((bZ _ _ _ el).trans ?_) (by rw[f2];simp) hlt (by rw[hlt]) f3
   simp only[am,e1]
   rw[hlt]at f1
   exact f1
theorem cM {k:Nat}{ss:List Seg}(hk:Φ k=some (fm ss))(hss:∀s∈ss,TJ Φ ext s):jZ Φ ext k (gY ss):=by
 intro r hr hz
 refine fy hk ?_
 have hN:∀(ss:List Seg)(c:Nat),c≤Qm c ss:=by
  intro ss
  induction ss with
  |nil=>intro c;exact Zk _
  |cons x xs ih=>intro c;cases x<;>simp only[Qm]<;>exact Zc (by omega) (ih _)
 obtain⟨m,hm⟩:∃m,Qm 4 ss+1-1=m+4:=⟨Qm 4 ss-4,by have:=hN ss 4;omega⟩
 have hpl:(r.map L.pv).all plain=true:=by simp[plain]
 have s:ToSt [] [] [] ((gY ss).map vL) r 4 (V.agg (r.map .pv)::V.one (.ptr 0 0 0)::V.one (.ptr 1 0 0)::V.one (.ptr 2 0 0)::List.replicate (m+1) (.tup [])) [.box (r.map .pv), .box ((gY ss).map vL), .box ((gY ss).map vL)]:=
  ⟨rfl,rfl,rfl,Zk _,rfl,⟨_,rfl,by simp⟩,rfl,rfl,⟨rfl,by simp[ar],fun o ho=>by simp[ar]at ho,rfl⟩⟩
 obtain⟨t',h',cs,r1,r2,r3,r4,r5⟩:=Oq (n:=(gY ss).length) ss hss s hr hz (by simp) (by simp;omega)
 have hst:f8 Φ ext (fm ss).body (start (fm ss) [.agg (r.map .pv)])=some (.ret,⟨t',h'⟩):=by
  simp only[f8,fm,start,Z0,hm,aB,am,aK,aW,bo,cj,Opd.ev,put,List.replicate_succ,List.singleton_append,List.getD_cons_zero,List.set_cons_succ,List.set_cons_zero,V.cells,hpl,if_true,List.length_nil,Zt,Zo,Nat.zero_add,Nat.reduceAdd,Zr]
  exact r1
 rw[hst]
 have hld:bi h' true (gY ss).length (t'.getD 2 (.tup []))=some (.agg cs):=by
  rw[getD_some r2]
  simp only[bi,r3,if_true]
  simp[fT,←r4]
 have hg:=r5.give
 simp only[Zt]at hg
 simp only[done,fm,aS,aA,cN,hld,List.flatMap_cons,List.flatMap_nil,Z3,V.cells,r5.nodup,if_true,bJ,comp,hg]
end
end Gi
