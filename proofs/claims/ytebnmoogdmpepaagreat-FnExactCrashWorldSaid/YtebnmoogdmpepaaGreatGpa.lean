/- Of this proof. -/
import Derived.Test.YtebnmoogdmpepaaGreatGiv
set_option linter.unusedSimpArgs false
set_option linter.unnecessarySimpa false
set_option linter.unusedVariables false
namespace Gi
open Go Go.RowKit
structure Ks where
 kt:Nat
 ks:Nat
 ke:Nat
 fl:Bool
inductive Seg where
 |c (t:PTy)
 |s (ts:List PTy) (K:Ks)
 |l (ts:List PTy) (K:Ks)
def Seg.ts :Seg→List PTy
 | .c t=>[t]
 | .s ts _=>ts
 | .l ts _=>[.lst ts]
def gT :List Seg→List PTy
 |[]=>[]
 |s::ss=>s.ts++gT ss
def wt :PTy→L
 | .int k=> .pv (.int k 0)
 | .bool=> .pv (.bool false)
 | .str=> .pv (.str [])
 | .lst _=> .nil
def lY (c x off n:Nat)(agg:Bool):List AOper:=[⟨some c, .fieldA (.tmp x) off,none⟩,⟨some (c+1), .load agg n (.tmp c),none⟩]
def Lu (c v off n:Nat):List AOper:=[⟨some c, .fieldA (.tmp 3) off,none⟩,⟨none, .storeD n (.tmp c) (.tmp v),none⟩]
def Kj (K:Ks)(x:Opd):AOp:=if K.fl then .call K.kt [x] true false else .callC K.kt [x]
def Tj (n:Nat):Nat→Nat→List Seg→ACode
 |c,_,[]=> .seq (.region [⟨some c, .load true n (.tmp 3),none⟩,⟨none, .storeD n (.tmp 2) (.tmp c),none⟩]) .ret
 |c,off, .c _::ss=> .seq (.region (lY c 1 off 1 false++Lu (c+2) (c+1) off 1)) (Tj n (c+3) (off+1) ss)
 |c,off, .s ts K::ss=> .seq (.region (lY c 1 off ts.length true++⟨some (c+2),Kj K (.tmp (c+1)),none⟩::Lu (c+3) (c+2) off ts.length)) (Tj n (c+4) (off+ts.length) ss)
 |c,off, .l _ K::ss=> .seq (.region (lY c 1 off 1 false++⟨some (c+2),Kj K (.tmp (c+1)),none⟩::Lu (c+3) (c+2) off 1)) (Tj n (c+4) (off+1) ss)
def Qw :Nat→List Seg→Nat
 |c,[]=>c
 |c, .c _::ss=>Qw (c+3) ss
 |c,_::ss=>Qw (c+4) ss
def fO (ss:List Seg):AFn:=⟨Qw 4 ss+1,[.cell 2 (gT ss).length], .seq (.region [⟨some 1, .box (.tmp 0),none⟩,⟨some 2, .alloc ((gT ss).map wt),none⟩]) (.seq (.region [⟨some 3, .alloc ((gT ss).map wt),none⟩]) (Tj (gT ss).length 4 0 ss))⟩
def mS :PTy→PV→L
 | .lst ts, .lst []=> .own ts.length []
 | .lst ts, .lst es=> .down ts.length es
 |_,p=> .pv p
def gD :List PTy→List PV→List L
 |t::ts,p::ps=>mS t p::gD ts ps
 |_,_=>[]
theorem Fy (t:PTy)(p:PV):(mS t p).clean=true:=by unfold mS;split<;>rfl
theorem xu :∀(ts:List PTy)(ps:List PV),(gD ts ps).all L.clean=true
 |[],_=>by simp[gD]
 |_::_,[]=>by simp[gD]
 |t::ts,p::ps=>by simp[gD,Fy,xu ts ps]
theorem Le (t:PTy)(p:PV):EW (mS t p)=p:=by unfold mS;split<;>rfl
theorem Lh :∀{ts:List PTy}{ps:List PV},bi ts ps→(gD ts ps).length=ts.length
 |[],ps,_=>by simp[gD]
 |t::ts,ps,h=>by
  obtain⟨p,r,rfl,_,h2⟩:=eA h
  simp[gD,Lh h2]
theorem B5 :∀{ts:List PTy}{ps:List PV},bi ts ps→(gD ts ps).map EW=ps
 |[],ps,h=>by rw[fR h];rfl
 |t::ts,ps,h=>by
  obtain⟨p,r,rfl,_,h2⟩:=eA h
  simp[gD,Le,B5 h2]
theorem Lg :∀{ts us:List PTy}{ps qs:List PV},ps.length=ts.length→gD (ts++us) (ps++qs)=gD ts ps++gD us qs
 |[],us,[],qs,_=>rfl
 |t::ts,us,p::ps,qs,h=>by simp[gD,Lg (ts:=ts) (ps:=ps) (by simpa using h)]
 |[],_,p::ps,_,h=>by simp at h
 |t::ts,_,[],_,h=>by simp at h
def PTy.flatT :PTy→Bool
 | .lst _=>false
 |_=>true
theorem si :∀{ts:List PTy}{ps:List PV},ts.all PTy.flatT=true→bi ts ps→gD ts ps=ps.map .pv∧(ps.map L.pv).all L.flat=true
 |[],ps,_,h=>by rw[fR h];exact⟨rfl,rfl⟩
 |t::ts,ps,ha,h=>by
  obtain⟨p,r,rfl,h1,h2⟩:=eA h
  simp only[Zq,Zm]at ha
  obtain⟨e1,e2⟩:=si ha.2 h2
  cases t with
  |int k=>obtain⟨n,rfl⟩:=ma h1;exact⟨by simp[gD,mS,e1],by simp only[Zv,Zq,e2];rfl⟩
  |bool=>obtain⟨n,rfl⟩:=kL h1;exact⟨by simp[gD,mS,e1],by simp only[Zv,Zq,e2];rfl⟩
  |str=>obtain⟨n,rfl⟩:=mb h1;exact⟨by simp[gD,mS,e1],by simp only[Zv,Zq,e2];rfl⟩
  |lst us=>cases ha.1
theorem kK :∀{ts us:List PTy}{r:List PV},bi (ts++us) r→∃a b,r=a++b∧bi ts a∧bi us b
 |[],us,r,h=>⟨[],r,rfl,trivial,h⟩
 |t::ts,us,r,h=>by
  obtain⟨p,r',rfl,h1,h2⟩:=eA h
  obtain⟨a,b,rfl,h3,h4⟩:=kK (ts:=ts) h2
  exact⟨p::a,b,rfl,⟨h1,h3⟩,h4⟩
theorem FX :∀(l m:List PV),fA (l++m)=fA l+fA m
 |[],m=>by simp only[Zi,fA];omega
 |p::l,m=>by simp only[Zf,fA,FX l m];omega
structure Gives (h:List AObj) (ls rs:List L):Prop where
 give:aJ h ls=some rs
 nodup:(al ls).Nodup
 lt:∀o∈al ls,o<h.length
 plain:ls.all plain=true
theorem DM (a b:List L):al (a++b)=al a++al b:=by simp[al]
theorem PK {h x:List AObj}{l r:L}(e:bH h l=some r):bH (h++x) l=some r:=by
 cases l with
 |arr o=>
  simp only[bH]at e⊢
  have ho:o<h.length:=by
   cases hh:h[o]? with
   |none=>rw[hh]at e;cases e
   |some y=>exact(Zb.1 hh).1
  rw[Ze ho]
  exact e
 |_=>exact e
theorem EZ {h x:List AObj}:∀{ls rs:List L},aJ h ls=some rs→aJ (h++x) ls=some rs
 |[],rs,e=>e
 |l::ls,rs,e=>by
  unfold aJ at e⊢
  split at e
  ·rename_i p ps h1 h2
   rw[PK h1,EZ h2]
   exact e
  ·cases e
theorem EX {h:List AObj}:∀{a b ra rb:List L},aJ h a=some ra→aJ h b=some rb→aJ h (a++b)=some (ra++rb)
 |[],b,ra,rb,e,e'=>by simp[aJ]at e;subst e;exact e'
 |l::a,b,ra,rb,e,e'=>by
  simp only[Zf]
  unfold aJ at e⊢
  split at e
  ·rename_i p ps h1 h2
   cases e
   rw[h1,EX h2 e']
   rfl
  ·cases e
theorem EY {h:List AObj}{i:Nat}{a b:List L}(hi:h[i]? =some (.box a)):∀(ls:List L),aJ (h.set i (.box b)) ls=aJ h ls
 |[]=>rfl
 |l::ls=>by
  have e:bH (h.set i (.box b)) l=bH h l:=by
   cases l with
   |arr o=>
    simp only[bH]
    by_cases ho:i=o
    ·subst ho
     rw[Zd (Zb.1 hi).1,hi]
    ·rw[Za ho]
   |_=>rfl
  unfold aJ
  rw[e,EY hi ls]
theorem Gives.ext {h x:List AObj}{ls rs:List L}(g:Gives h ls rs):Gives (h++x) ls rs:=
 ⟨EZ g.give,g.nodup,fun o ho=>by have:=g.lt o ho;simp;omega,g.plain⟩
theorem Gives.box {h:List AObj}{i:Nat}{a b:List L}(hi:h[i]? =some (.box a)){ls rs:List L}(g:Gives h ls rs):Gives (h.set i (.box b)) ls rs:=
 ⟨by rw[EY hi];exact g.give,g.nodup,fun o ho=>by simpa using g.lt o ho,g.plain⟩
theorem Gives.app {h:List AObj}{n:Nat}{a b ra rb:List L}(ga:Gives h a ra)(ha:∀o∈al a,o<n)(gb:Gives h b rb)(hb:∀o∈al b,n≤o):Gives h (a++b) (ra++rb):=by
 refine⟨EX ga.give gb.give,?_,fun o ho=> ?_,by rw[List.all_append,ga.plain,gb.plain];rfl⟩
 ·rw[DM,List.nodup_append]
  exact⟨ga.nodup,gb.nodup,fun x hx y hy=>by have:=ha x hx;have:=hb y hy;omega⟩
 ·rw[DM,Yw]at ho
  rcases ho with ho|ho
  ·exact ga.lt o ho
  ·exact gb.lt o ho
theorem Gives.pvs (h:List AObj):∀(ps:List PV),Gives h (ps.map .pv) (ps.map .pv)∧al (ps.map .pv)=[]
 |[]=>⟨⟨rfl,by simp[al],fun o ho=>by simp[al]at ho,rfl⟩,rfl⟩
 |p::ps=>by
  obtain⟨g,e⟩:=Gives.pvs h ps
  have e':al ((p::ps).map .pv)=[]:=by simpa[al]using e
  refine⟨⟨?_,by rw[e'];exact List.nodup_nil,fun o ho=>(by rw[e']at ho;cases ho),by simp only[Zv,Zq,g.plain];rfl⟩,e'⟩
  simp only[Zv,aJ,bH,g.give]
theorem qr :∀(ls:List L)(h:List AObj),ls.all L.clean=true→Gives (thawL h ls).2 (thawL h ls).1 ls∧(∀o∈al (thawL h ls).1,h.length≤o)
 |[],h,_=>⟨⟨rfl,by simp[al,thawL],fun o ho=>by simp[al,thawL]at ho,rfl⟩,fun o ho=>by simp[al,thawL]at ho⟩
 |l::ls,h,hc=>by
  simp only[Zq,Zm]at hc
  have other:thawL h (l::ls)=(l::(thawL h ls).1,(thawL h ls).2)→al (l::(thawL h ls).1)=al (thawL h ls).1→bH (thawL h ls).2 l=some l→plain l=true→Gives (thawL h (l::ls)).2 (thawL h (l::ls)).1 (l::ls)∧(∀o∈al (thawL h (l::ls)).1,h.length≤o):=by
   intro e1 e2 e3 e4
   obtain⟨g,hb⟩:=qr ls h hc.2
   rw[e1]
   refine⟨⟨?_,by rw[e2];exact g.nodup,fun o ho=>g.lt o (by rwa[e2]at ho),by simp only[Zq,e4,g.plain,Yr]⟩,fun o ho=>hb o (by rwa[e2]at ho)⟩
   simp only[aJ,e3,g.give]
  cases l with
  |own z es=>
   obtain⟨g,hb⟩:=qr ls (h++[.arr z es]) hc.2
   obtain⟨t,ht⟩:=om ls (h++[.arr z es]) hc.2
   have hg:(thawL (h++[AObj.arr z es]) ls).2[h.length]? =some (.arr z es):=by rw[ht];simp
   have e2:al (L.arr h.length::(thawL (h++[AObj.arr z es]) ls).1)=h.length::al (thawL (h++[AObj.arr z es]) ls).1:=by simp[al]
   simp only[thawL]
   refine⟨⟨?_,?_,fun o ho=> ?_,by simp only[Zq,g.plain];rfl⟩,fun o ho=> ?_⟩
   ·simp only[aJ,bH,hg,g.give]
   ·rw[e2,Yx]
    exact⟨fun hm=>by have:=hb _ hm;simp at this;omega,g.nodup⟩
   ·rw[e2]at ho
    rcases Yh.1 ho with rfl|ho
    ·rw[ht];simp
    ·exact g.lt o ho
   ·rw[e2]at ho
    rcases Yh.1 ho with rfl|ho
    ·exact Zl _
    ·have:=hb o ho;simp at this;omega
  |down z es=>
   obtain⟨g,hb⟩:=qr ls (h++[.darr z es]) hc.2
   obtain⟨t,ht⟩:=om ls (h++[.darr z es]) hc.2
   have hg:(thawL (h++[AObj.darr z es]) ls).2[h.length]? =some (.darr z es):=by rw[ht];simp
   have e2:al (L.arr h.length::(thawL (h++[AObj.darr z es]) ls).1)=h.length::al (thawL (h++[AObj.darr z es]) ls).1:=by simp[al]
   simp only[thawL]
   refine⟨⟨?_,?_,fun o ho=> ?_,by simp only[Zq,g.plain];rfl⟩,fun o ho=> ?_⟩
   ·simp only[aJ,bH,hg,g.give]
   ·rw[e2,Yx]
    exact⟨fun hm=>by have:=hb _ hm;simp at this;omega,g.nodup⟩
   ·rw[e2]at ho
    rcases Yh.1 ho with rfl|ho
    ·rw[ht];simp
    ·exact g.lt o ho
   ·rw[e2]at ho
    rcases Yh.1 ho with rfl|ho
    ·exact Zl _
    ·have:=hb o ho;simp at this;omega
  |pv p=>exact other rfl (by simp[al]) rfl rfl
  |nil=>exact other rfl (by simp[al]) rfl rfl
  |_=>simp[L.clean]at hc
section
variable {Φ:Nat→Option AFn}{ext:Nat→List V→Option V}
def j6 (Φ:Nat→Option AFn)(ext:Nat→List V→Option V)(k:Nat)(ts:List PTy):Prop:=
 ∀r:List PV,bi ts r→fA r≤1048576→ah Φ ext k [.agg (r.map .pv)]=some (.agg (gD ts r))
def kq (Φ:Nat→Option AFn)(ext:Nat→List V→Option V)(k:Nat)(ts:List PTy):Prop:=
 ∀rows:List (List PV),nQ (.lst ts) (.lst rows)→sz (.lst rows)≤1048576→ah Φ ext k [ba rows]=some (.one (mS (.lst ts) (.lst rows)))
def Tr (Φ:Nat→Option AFn)(ext:Nat→List V→Option V):Seg→Prop
 | .c t=>t.flatT=true
 | .s ts K=>j6 Φ ext K.kt ts∧(K.fl=true→ts.all PTy.flatT=true)
 | .l ts K=>kq Φ ext K.kt ts∧K.fl=false
structure ToSt (dn:List PV) (pre out zs:List L) (row:List PV) (c:Nat) (t:List V) (h:List AObj):Prop where
 t1:t[1]? =some (.one (.ptr 0 0 0))
 t2:t[2]? =some (.one (.ptr 1 0 0))
 t3:t[3]? =some (.one (.ptr 2 0 0))
 c4:4≤c
 h0:h[0]? =some (.box ((dn++row).map .pv))
 h1:∃cs,h[1]? =some (.box cs)∧cs.length=pre.length+zs.length
 h2:h[2]? =some (.box (pre++zs))
 dl:dn.length=pre.length
 g:Gives h pre out
theorem getD_some {t:List V}{i:Nat}{v:V}(h:t[i]? =some v):t.getD i (.tup [])=v:=by simp[List.getD,h]
theorem aD {t:List V}{i:Nat}{v:V}(h:i<t.length):(t.set i v).getD i (.tup [])=v:=by simp[List.getD,h]
theorem dD {t:List V}{i j:Nat}{v:V}(h:i≠j):(t.set i v).getD j (.tup [])=t.getD j (.tup []):=by simp[List.getD,Za h]
theorem mf {agg:Bool}{dn a b:List PV}(hn:agg=true∨a.length=1):gn agg a.length dn.length ((dn++(a++b)).map .pv)=some (if agg then .agg (a.map .pv)else .one (.pv (a.headD (.bool false)))):=by
 have e:((((dn++(a++b)).map L.pv).drop dn.length).take a.length)=a.map .pv:=by
  simp only[List.map_append]
  rw[show dn.length=(dn.map L.pv).length by simp,List.drop_left,show a.length=(a.map L.pv).length by simp,List.take_left]
 unfold gn
 rw[if_pos (by simp)]
 cases agg with
 |true=>simp only[if_true,e]
 |false=>
  have h1:a.length=1:=by rcases hn with h|h;cases h;exact h
  obtain⟨p,rfl⟩:=Ye.1 h1
  simp
theorem Gk {dn a b:List PV}{pre out zs zs':List L}{c cv:Nat}{t:List V}{h h' x:List AObj}{ls rs:List L}{v:V}
 (s:ToSt dn pre out (zs++zs') (a++b) c t h) (he:h'=h++x) (hv:v.cells=ls) (g:Gives h' ls rs) (hb:∀o∈al ls,h.length≤o) (hl:ls.length=zs.length) (hal:a.length=zs.length)
 {t':List V} (k1:t'[1]? =t[1]?) (k2:t'[2]? =t[2]?) (k3:t'[3]? =t[3]?) (hcv:4≤cv) (hlt:cv<t'.length) (call:Nat→List V→Option V) {w:Nat} (hw:t'.getD w (.tup [])=v) (hne:cv≠w):
 ∃t'' h'',ai call (Lu cv w pre.length ls.length) ⟨t',h'⟩=some ⟨t'',h''⟩∧t''.length=t'.length∧ToSt (dn++a) (pre++ls) (out++rs) zs' b (cv+1) t'' h'':=by
 have hb2:h'[2]? =some (.box (pre++(zs++zs'))):=by rw[he,Ze (Zb.1 s.h2).1];exact s.h2
 have hb0:h'[0]? =some (.box ((dn++(a++b)).map .pv)):=by rw[he,Ze (Zb.1 s.h0).1];exact s.h0
 have hput:putAt (pre++(zs++zs')) pre.length ls=pre++ls++zs':=by
  unfold putAt
  have e1:(pre++(zs++zs')).drop (pre.length+ls.length)=zs':=by rw[hl,←Zo];simp
  rw[e1];simp
 have hpl:pre.length+ls.length≤(pre++(zs++zs')).length:=by simp;omega
 refine⟨t'.set cv (.one (.ptr 2 0 pre.length)),h'.set 2 (.box (pre++ls++zs')),?_,by simp,?_⟩
 ·have q3:t'.getD 3 (.tup [])= .one (.ptr 2 0 0):=getD_some (k3.trans s.t3)
  have e3:(t'.set cv (V.one (.ptr 2 0 pre.length))).getD cv (.tup [])=_:=aD hlt
  have e4:(t'.set cv (V.one (.ptr 2 0 pre.length))).getD w (.tup [])=v:=(dD hne).trans hw
  simp only[Lu,ai,az,aK,bj,Opd.ev,q3,put,Yc,e3,e4,cf,storeD,aX,bv,hv,if_true,hb2,hpl,g.plain,true_and,and_self,hput]
 ·obtain⟨cs,hc1,hc2⟩:=s.h1
  have hlen2:2<h'.length:=(Zb.1 hb2).1
  refine⟨by rw[Za (by omega),k1];exact s.t1,by rw[Za (by omega),k2];exact s.t2,by rw[Za (by omega),k3];exact s.t3,by omega,?_,⟨cs,?_,?_⟩,?_,by simp[s.dl,hal,hl],?_⟩
  ·rw[Za (by omega),hb0,Zo]
  ·rw[Za (by omega),he,Ze (Zb.1 hc1).1];exact hc1
  ·simp[hc2,hl];omega
  ·rw[Zd hlen2]
  ·have gp:Gives h' pre out:=by rw[he];exact s.g.ext
   exact(gp.app (n:=h.length) s.g.lt g hb).box hb2
theorem bU (call:Nat→List V→Option V):∀(a b:List AOper){σ σ':St},ai call a σ=some σ'→ai call (a++b) σ=ai call b σ'
 |[],b,σ,σ',h=>by simp[ai]at h;subst h;rfl
 |o::a,b,σ,σ',h=>by
  simp only[Zf,ai]at h⊢
  split at h
  ·rename_i σ1 h1
   exact bU call a b h
  ·cases h
theorem qh {A:List L}{c x ox off n:Nat}{agg:Bool}{t:List V}{h:List AObj}{v:V}(hx:t[x]? =some (.one (.ptr ox 0 0)))(hxc:x<c)(hc:c+1<t.length)(hb:h[ox]? =some (.box A))(hcut:gn agg n off A=some v)(call:Nat→List V→Option V):
 ai call (lY c x off n agg) ⟨t,h⟩=some ⟨(t.set c (.one (.ptr ox 0 off))).set (c+1) v,h⟩:=by
 have e1:t.getD x (.tup [])= .one (.ptr ox 0 0):=getD_some hx
 have e2:(t.set c (V.one (.ptr ox 0 off))).getD c (.tup [])=_:=aD (by omega)
 simp only[lY,ai,az,aK,bj,Opd.ev,e1,put,Yc,e2,bo,hb,if_true,hcut]
theorem IY (h:List AObj)(es:List (List PV)):freezeVs h [.one (.pv (.lst es))]=h:=rfl
theorem Sk (h:List AObj)(p:PV):am h [.one (.pv p)]=some [.one (.pv p)]:=rfl
theorem Tl (h:List AObj)(ps:List PV):am h [.agg (ps.map .pv)]=some [.agg (ps.map .pv)]:=by simp only[am,sC]
theorem Lv {call:Nat→List V→Option V}{K:Ks}{c:Nat}{t:List V}{h:List AObj}{v R:V}{rs:List L}(hw:t.getD (c+1) (.tup [])=v)(hvw:am h [v]=some [v])(hfz:freezeVs h [v]=h)(hcall:call K.kt [v]=some R)(hR:R= .agg rs∨∃l,R= .one l∧rs=[l])(hcl:rs.all L.clean=true)
 (hfl:K.fl=true→∃ps:List PV,rs=ps.map .pv∧rs.all L.flat=true):
 ∃v' h' ls x,az call ⟨some (c+2),Kj K (.tmp (c+1)),none⟩ ⟨t,h⟩=some ⟨t.set (c+2) v',h'⟩∧v'.cells=ls∧h'=h++x∧Gives h' ls rs∧(∀o∈al ls,h.length≤o)∧ls.length=rs.length:=by
 cases hK:K.fl with
 |true=>
  obtain⟨ps,e,hf⟩:=hfl hK
  have hset:rs.map di=rs:=by subst e;simp[di]
  have hRf:R.flat=true:=by
   rcases hR with rfl|⟨l,rfl,e'⟩
   ·exact hf
   ·rw[e']at hf;simpa[V.flat]using hf
  have hsv:dO R=R:=by
   rcases hR with rfl|⟨l,rfl,e'⟩
   ·simp only[dO,hset]
   ·rw[e']at hset;simpa[dO]using hset
  obtain⟨g,ea⟩:=Gives.pvs h ps
  refine⟨R,h,rs,[],?_,?_,by simp,by rw[e];exact g,fun o ho=>(by rw[e,ea]at ho;cases ho),rfl⟩
  ·simp only[Kj,hK,az,aK,bj,Bool.true_or,if_true,Zv,Yb,Opd.ev,hw,hvw,hcall,Bool.true_and,hRf,Xo,Z0,if_false,hsv,put]
  ·rcases hR with rfl|⟨l,rfl,e'⟩
   ·rfl
   ·exact e'.symm
 |false=>
  obtain⟨g,hb⟩:=qr rs h hcl
  obtain⟨x,hx⟩:=om rs h hcl
  have hll:=(kV rs h hcl).1
  have ht:∃v',thaw h R=(v',(thawL h rs).2)∧v'.cells=(thawL h rs).1:=by
   rcases hR with rfl|⟨l,rfl,rfl⟩
   ·exact⟨_,rfl,rfl⟩
   ·obtain⟨l',h',e'⟩:=iS h l
    exact⟨.one l',by simp only[thaw,e'],by simp only[e',V.cells]⟩
  obtain⟨v',e1,e2⟩:=ht
  refine⟨v',(thawL h rs).2,(thawL h rs).1,x,?_,e2,hx,g,hb,hll⟩
  simp only[Kj,hK,az,aK,bj,Z0,if_false,cf,Zv,Yb,Opd.ev,hw,hvw,hcall,hfz,ite_self,e1,put]
theorem yC {t:PTy}(ht:t.flatT=true){p:PV}(h:nQ t p):mS t p= .pv p:=by
 cases t with
 |lst us=>cases ht
 |_=>rfl
theorem Sp (s:Seg)(ss:List Seg):(gT (s::ss)).map wt=s.ts.map wt++(gT ss).map wt:=by simp[gT]
theorem OJ {n:Nat}:∀(ss:List Seg),(∀s∈ss,Tr Φ ext s)→∀{c:Nat}{dn row:List PV}{pre out:List L}{t:List V}{h:List AObj},
 ToSt dn pre out ((gT ss).map wt) row c t h→bi (gT ss) row→fA row≤1048576→n=pre.length+(gT ss).length→Qw c ss<t.length→
 ∃t' h' cs,aq (ah Φ ext) aB (Tj n c pre.length ss) ⟨t,h⟩=some (.ret,⟨t',h'⟩)∧t'[2]? =some (.one (.ptr 1 0 0))∧h'[1]? =some (.box cs)∧cs.length=n∧Gives h' cs (out++gD (gT ss) row)
 |[],_,c,dn,row,pre,out,t,h,s,hr,_,hn,hN=>by
  obtain rfl:=fR hr
  obtain⟨cs,hc1,hc2⟩:=s.h1
  simp only[gT,Yb,Zz,Z8,Y1]at s hn hc2
  subst hn
  have h2:=s.h2
  simp only[Zz]at h2
  simp only[Qw]at hN
  have e3:t.getD 3 (.tup [])= .one (.ptr 2 0 0):=getD_some s.t3
  have hcut:gn true pre.length 0 pre=some (.agg pre):=by simp[gn]
  have e2:(t.set c (V.agg pre)).getD 2 (.tup [])= .one (.ptr 1 0 0):=(dD (by have:=s.c4;omega)).trans (getD_some s.t2)
  have ec:(t.set c (V.agg pre)).getD c (.tup [])= .agg pre:=aD hN
  refine⟨t.set c (.agg pre),h.set 1 (.box pre),pre,?_,by rw[Za (by have:=s.c4;omega)];exact s.t2,Zd (Zb.1 hc1).1,rfl,?_⟩
  ·simp only[Tj,aq,ai,az,aK,bj,Opd.ev,e3,bo,h2,if_true,hcut,put,cf,e2,ec,storeD,aX,bv,V.cells,hc1,Yc,hc2,Zl,true_and,s.g.plain,and_self]
   rw[FA _ _ hc2]
  ·simp only[gD,gT,Zz]
   exact s.g.box hc1
 |sg::ss,hss,c,dn,row,pre,out,t,h,s,hr,hz,hn,hN=>by
  obtain⟨a,b,rfl,ha,hb⟩:=kK (ts:=sg.ts) hr
  have hal:=jM ha
  rw[Sp]at s
  have hsz:=FX a b
  have hSeg:=hss sg (by simp)
  have hc4:=s.c4
  have ih:=fun{c dn row pre out t h}=>OJ (n:=n) ss (fun s m=>hss s (by simp[m])) (c:=c) (dn:=dn) (row:=row) (pre:=pre) (out:=out) (t:=t) (h:=h)
  have fin:∀{ops:List AOper}{c' off':Nat}{ls:List L}{t'':List V}{h'':List AObj},Tj n c pre.length (sg::ss)= .seq (.region ops) (Tj n c' off' ss)→Qw c (sg::ss)=Qw c' ss→ai (ah Φ ext) ops ⟨t,h⟩=some ⟨t'',h''⟩→t''.length=t.length→ls.length=sg.ts.length→off'=pre.length+ls.length→
   ToSt (dn++a) (pre++ls) (out++gD sg.ts a) ((gT ss).map wt) b c' t'' h''→
   ∃t' h' cs,aq (ah Φ ext) aB (Tj n c pre.length (sg::ss)) ⟨t,h⟩=some (.ret,⟨t',h'⟩)∧t'[2]? =some (.one (.ptr 1 0 0))∧h'[1]? =some (.box cs)∧cs.length=n∧Gives h' cs (out++gD (gT (sg::ss)) (a++b)):=by
   intro ops c' off' ls t'' h'' e1 e2 e3 e4 e5 e6 s'
   obtain⟨t',h',cs,r1,r2,r3,r4,r5⟩:=ih s' hb (by omega) (by rw[hn];simp[gT,e5];omega) (by rw[e4,←e2];exact hN)
   refine⟨t',h',cs,?_,r2,r3,r4,?_⟩
   ·rw[e1]
    simp only[aq,e3]
    rw[Zu,←e6]at r1
    exact r1
   ·rw[Zo]at r5
    simp only[gT,Lg hal]
    exact r5
  have hmono:∀(ss:List Seg)(c:Nat),c≤Qw c ss:=by
   intro ss
   induction ss with
   |nil=>intro c;exact Zl _
   |cons x xs ih=>intro c;cases x<;>simp only[Qw]<;>exact Zc (by omega) (ih _)
  have h0:=s.h0
  cases sg with
  |c ty=>
   simp only[Seg.ts,Z6]at hal ha s fin
   obtain⟨p,rfl⟩:=Ye.1 hal
   have hN':=Nat.lt_of_le_of_lt (hmono ss (c+3)) hN
   have hcut:gn false 1 pre.length ((dn++([p]++b)).map .pv)=some (.one (.pv p)):=by rw[←s.dl];exact mf (agg:=false) (a:=[p]) (.inr rfl)
   have el:=qh (t:=t) (h:=h) s.t1 (c:=c) (by omega) (by omega) h0 hcut (ah Φ ext)
   have hp:gD [ty] [p]=[.pv p]:=by simp[gD,yC hSeg ha.1]
   obtain⟨t'',h'',e1,e2,e3⟩:=Gk (c:=c) (cv:=c+2) (v:= .one (.pv p)) (ls:=[.pv p]) (rs:=[.pv p]) (x:=[]) s (by simp) rfl ((Gives.pvs h [p]).1) (fun o ho=>by simp[al]at ho) (by simp) (by simp)
    (t':=(t.set c (.one (.ptr 0 0 pre.length))).set (c+1) (.one (.pv p))) (by rw[Za (by omega),Za (by omega)]) (by rw[Za (by omega),Za (by omega)]) (by rw[Za (by omega),Za (by omega)]) (by omega) (by simp;omega) (ah Φ ext) (w:=c+1) (aD (by simp;omega)) (by omega)
   refine fin (ls:=[.pv p]) (c':=c+3) (off':=pre.length+1) rfl rfl ((bU _ _ _ el).trans e1) (by rw[e2];simp) rfl rfl ?_
   rw[hp]
   exact e3
  |s ts K=>
   simp only[Seg.ts]at hal ha s fin
   obtain⟨hto,hfl⟩:=hSeg
   have hN':=Nat.lt_of_le_of_lt (hmono ss (c+4)) hN
   have hcut:gn true ts.length pre.length ((dn++(a++b)).map .pv)=some (.agg (a.map .pv)):=by rw[←s.dl,←hal];exact mf (agg:=true) (.inl rfl)
   have el:=qh (t:=t) (h:=h) s.t1 (c:=c) (by omega) (by omega) h0 hcut (ah Φ ext)
   obtain⟨v',h',ls,x,e1,e2,e3,e4,e5,e6⟩:=Lv (call:=ah Φ ext) (K:=K) (c:=c) (t:=(t.set c (.one (.ptr 0 0 pre.length))).set (c+1) (.agg (a.map .pv))) (h:=h) (aD (by simp;omega)) (Tl h a) (BQ h a) (hto a ha (by omega)) (.inl rfl) (xu ts a) (fun hf=>⟨a,(si (hfl hf) ha).1,by rw[(si (hfl hf) ha).1];exact(si (hfl hf) ha).2⟩)
   have hlt:ls.length=ts.length:=by rw[e6,Lh ha]
   obtain⟨t'',h'',f1,f2,f3⟩:=Gk (c:=c) (cv:=c+3) (w:=c+2) (t':=((t.set c (.one (.ptr 0 0 pre.length))).set (c+1) (.agg (a.map .pv))).set (c+2) v') s e3 e2 e4 e5 (by simpa using hlt) (by simpa using hal)
    (by rw[Za (by omega),Za (by omega),Za (by omega)]) (by rw[Za (by omega),Za (by omega),Za (by omega)]) (by rw[Za (by omega),Za (by omega),Za (by omega)]) (by omega) (by simp;omega) (ah Φ ext) (aD (by simp;omega)) (by omega)
   refine fin (ls:=ls) (c':=c+4) (off':=pre.length+ts.length) rfl rfl ((bU _ _ _ el).trans ?_) (by rw[f2];simp) hlt (by rw[hlt]) f3
   simp only[ai,e1]
   rw[hlt]at f1
   exact f1
  |l ts K=>
   simp only[Seg.ts,Z6]at hal ha s fin
   obtain⟨p,rfl⟩:=Ye.1 hal
   obtain⟨rows,rfl⟩:=nR ha.1
   obtain⟨hto,hfl⟩:=hSeg
   have hN':=Nat.lt_of_le_of_lt (hmono ss (c+4)) hN
   have hcut:gn false 1 pre.length ((dn++([PV.lst rows]++b)).map .pv)=some (.one (.pv (.lst rows))):=by rw[←s.dl];exact mf (agg:=false) (a:=[.lst rows]) (.inr rfl)
   have el:=qh (t:=t) (h:=h) s.t1 (c:=c) (by omega) (by omega) h0 hcut (ah Φ ext)
   obtain⟨v',h',ls,x,e1,e2,e3,e4,e5,e6⟩:=Lv (call:=ah Φ ext) (K:=K) (c:=c) (t:=(t.set c (.one (.ptr 0 0 pre.length))).set (c+1) (.one (.pv (.lst rows)))) (h:=h) (aD (by simp;omega)) (Sk h _) (IY h _) (hto rows ha.1 (by simp only[fA]at hsz;omega)) (.inr ⟨_,rfl,rfl⟩) (by simp[Fy]) (fun hf=>by rw[hfl]at hf;cases hf)
   have hlt:ls.length=1:=by rw[e6];rfl
   obtain⟨t'',h'',f1,f2,f3⟩:=Gk (c:=c) (cv:=c+3) (w:=c+2) (t':=((t.set c (.one (.ptr 0 0 pre.length))).set (c+1) (.one (.pv (.lst rows)))).set (c+2) v') s e3 e2 e4 e5 (by simpa using hlt) (by simp)
    (by rw[Za (by omega),Za (by omega),Za (by omega)]) (by rw[Za (by omega),Za (by omega),Za (by omega)]) (by rw[Za (by omega),Za (by omega),Za (by omega)]) (by omega) (by simp;omega) (ah Φ ext) (aD (by simp;omega)) (by omega)
   refine fin (ls:=ls) (c':=c+4) (off':=pre.length+1) rfl rfl ((bU _ _ _ el).trans ?_) (by rw[f2];simp) hlt (by rw[hlt]) f3
   simp only[ai,e1]
   rw[hlt]at f1
   exact f1
theorem cM {k:Nat}{ss:List Seg}(hk:Φ k=some (fO ss))(hss:∀s∈ss,Tr Φ ext s):j6 Φ ext k (gT ss):=by
 intro r hr hz
 refine fC hk ?_
 have hN:∀(ss:List Seg)(c:Nat),c≤Qw c ss:=by
  intro ss
  induction ss with
  |nil=>intro c;exact Zl _
  |cons x xs ih=>intro c;cases x<;>simp only[Qw]<;>exact Zc (by omega) (ih _)
 obtain⟨m,hm⟩:∃m,Qw 4 ss+1-1=m+4:=⟨Qw 4 ss-4,by have:=hN ss 4;omega⟩
 have hpl:(r.map L.pv).all plain=true:=by simp[plain]
 have s:ToSt [] [] [] ((gT ss).map wt) r 4 (V.agg (r.map .pv)::V.one (.ptr 0 0 0)::V.one (.ptr 1 0 0)::V.one (.ptr 2 0 0)::List.replicate (m+1) (.tup [])) [.box (r.map .pv), .box ((gT ss).map wt), .box ((gT ss).map wt)]:=
  ⟨rfl,rfl,rfl,Zl _,rfl,⟨_,rfl,by simp⟩,rfl,rfl,⟨rfl,by simp[al],fun o ho=>by simp[al]at ho,rfl⟩⟩
 obtain⟨t',h',cs,r1,r2,r3,r4,r5⟩:=OJ (n:=(gT ss).length) ss hss s hr hz (by simp) (by simp;omega)
 have hst:fL Φ ext (fO ss).body (start (fO ss) [.agg (r.map .pv)])=some (.ret,⟨t',h'⟩):=by
  simp only[fL,fO,start,Z6,hm,aq,ai,az,aK,bj,cf,Opd.ev,put,List.replicate_succ,List.singleton_append,Y8,Ys,Yd,V.cells,hpl,if_true,Z8,Zi,Zn,Yc,Nat.reduceAdd,Zf]
  exact r1
 rw[hst]
 have hld:bo h' true (gT ss).length (t'.getD 2 (.tup []))=some (.agg cs):=by
  rw[getD_some r2]
  simp only[bo,r3,if_true]
  simp[gn,←r4]
 have hg:=r5.give
 simp only[Zi]at hg
 simp only[done,fO,aY,ar,bQ,hld,Yl,Xa,Zz,V.cells,r5.nodup,if_true,bM,comp,hg]
end
end Gi
