/- Of this proof. -/
import Derived.Test.YtbeaonmepfkmmaaGreatGoPv
set_option linter.unusedSimpArgs false
set_option linter.unusedVariables false
namespace Gi
open Go Go.RowKit
set_option maxHeartbeats 8000000
set_option maxRecDepth 4000
attribute [local simp] start nY bo cj cE dE cD dD dJ dI pa pp pd pq pe pt pf pw pg px ph py pj pz pk pA pm pB V.cells plain bi fT isInt isStr isBool bin bK fR bL fS dF un asList L.view az V.view viewL aS aA bO bg bJ comp aM bA cz bI bc a9 ba av aj aE ai au aQ aq aY bC aD bd bf V.flat L.flat cT cS bq putAt thaw thawL thawT V.ow dH cG cH bM dG bN cF freezeVs freezeLs freezeL V.mut L.mut aI bY fu aZ bB aP dL cf bE cy L.ren aO cX bR cZ bG bD wp_seq wp_block aT cJ bP bh bQ wp_skip wp_exit wp_ret ca b7 ce cd cr ct cq bH aL L.notArr bu br bt cI b6 storeD aV ep a8 bW aU lV L.mov L.closed V.closed PV.bare PV.flat
def Ak (k:XKey):XRange:=⟨true,true,k,k⟩
def sY :XRange:=⟨false,false,⟨0,0,[]⟩,⟨0,0,[]⟩⟩
def S2 (s:XStore)(k:XKey):Int:=bif b9 (dv (nF k) s.items) 0 then-1 else((dK s k).fs.length:Int)
def tw (s:XStore)(o:XOp):XStore×Int×Bool:=
 bif o.kind==1 then((kN s o.key o.rcd).1,1,(kN s o.key o.rcd).2)else
 bif o.kind==2 then((Bc s o.key o.rcd).1,1,(Bc s o.key o.rcd).2)else
 bif o.kind==3 then((rH s (Ak o.key)).1,(rH s (Ak o.key)).2,true)else
 bif o.kind==5 then((rH s sY).1,(rH s sY).2,true)else
 bif o.kind==4 then(s,S2 s o.key,true)else
 ((xR s o.key o.field).1,FU s o.key o.field,(wq s o.key o.field).2&&(xR s o.key o.field).2)
def PR (s:XStore)(o:XOp):XStore×Int×Bool:=
 bif o.kind==1 then((kN s o.key o.rcd).1,1,(kN s o.key o.rcd).2)else
 bif o.kind==2 then((Bc s o.key o.rcd).1,1,(Bc s o.key o.rcd).2)else
 bif o.kind==3 then((rH s (Ak o.key)).1,(rH s (Ak o.key)).2,true)else
 bif o.kind==5 then((rH s sY).1,(rH s sY).2,true)else
 bif o.kind==4 then(s,S2 s o.key,true)else
 bif (wq s o.key o.field).2 then((xR s o.key o.field).1,FU s o.key o.field,(xR s o.key o.field).2)else(s,0,false)
theorem Tl (s:XStore)(o:XOp):(PR s o).2.2=(tw s o).2.2∧((tw s o).2.2=true→PR s o=tw s o):=by
 unfold PR tw
 cases o.kind==1<;>simp only[cond_true,cond_false]
 case true=>simp
 cases o.kind==2<;>simp only[cond_true,cond_false]
 case true=>simp
 cases o.kind==3<;>simp only[cond_true,cond_false]
 case true=>simp
 cases o.kind==5<;>simp only[cond_true,cond_false]
 case true=>simp
 cases o.kind==4<;>simp only[cond_true,cond_false]
 case true=>simp
 cases(wq s o.key o.field).2
 ·exact⟨by simp,fun h=>by simp at h⟩
 ·exact⟨by simp,fun h=>by simp⟩
def Ud (l:L)(rows:List (List PV)):Prop:=l= .pv (.lst rows)∨(l= .nil∧rows=[])
theorem tF (rows:List (List PV)):Ud (lf rows) rows:=by
 cases rows with
 |nil=>exact .inr ⟨rfl,rfl⟩
 |cons r rs=>exact .inl rfl
abbrev Vq (x:XStore×Int×Bool)(l:L):V:= .tup [(true,[.pv (.str x.1.name),l, .pv (.int .i64 x.1.auto)]),(false,[.pv (.int .i64 x.2.1)]),(false,[.pv (.bool x.2.2)])]
theorem Of {k:XKey}(h:k.Ok maxLen):(Ak k).Ok:=⟨h,h⟩
theorem Oe :sY.Ok:=⟨⟨by simp[sY,ii],by simp[sY,ii],by simp[sY]⟩,⟨by simp[sY,ii],by simp[sY,ii],by simp[sY]⟩⟩
theorem SW {i:Int}:(!(b9 i 0))=decide (0≤i):=by unfold b9;by_cases q:0≤i<;>simp[q];omega
theorem H3 {B:Nat}(hB0:17≤B)(hB:B≤1048576){s:XStore}(h:s.Ok B){o:XOp}(ho:o.Ok B):∃l,Ud l ((PR s o).1.items.map XItem.e)∧ah Ph aH 597 [s.v,o.v]=some (Vq (PR s o) l):=by
 have hl:s.items.length≤1048576:=Zc h.2.1.1 hB
 obtain⟨_,_,hk,hrc,hfn⟩:=ho
 have hkm:o.key.Ok maxLen:=XKey.Ok.mono (by unfold maxLen;omega) hk
 have e0:=kd (s:=s) (by unfold maxLen;omega) o.key
 unfold PR
 obtain⟨g1,h1⟩:∃g,(o.kind==1)=g:=⟨_,rfl⟩
 rw[h1]
 cases g1<;>simp only[cond_true,cond_false]
 case true=>
  have e1:=kX hB h hk hrc
  have e2:=nO (kN s o.key o.rcd)
  refine⟨_,tF _,?_⟩
  simp only[sk]at e2
  generalize lL (kN s o.key o.rcd)=pr at*
  refine aa (fn:=bT) rfl ?_
  simp(maxSteps:=600000) [bT,e0,e1,h1, ↓e2, ↓aj, ↓av, ↓au, ↓ai, ↓aE, ↓aq]
 obtain⟨g2,h2⟩:∃g,(o.kind==2)=g:=⟨_,rfl⟩
 rw[h2]
 cases g2<;>simp only[cond_true,cond_false]
 case true=>
  have e1:=BP hB h hk hrc
  refine⟨_,tF _,?_⟩
  simp only[sk]at e1
  refine aa (fn:=bT) rfl ?_
  simp(maxSteps:=600000) [bT,e0,e1,h1,h2, ↓aD, ↓aj, ↓av, ↓au, ↓ai, ↓aE, ↓aq]
 obtain⟨g3,h3⟩:∃g,(o.kind==3)=g:=⟨_,rfl⟩
 rw[h3]
 cases g3<;>simp only[cond_true,cond_false]
 case true=>
  obtain⟨l,hlv,e1⟩:=oF hB h (Of hkm)
  rcases hlv with rfl|⟨rfl,hlv⟩
  ·refine⟨_, .inl rfl,?_⟩
   simp only[Ak]at e1
   refine aa (fn:=bT) rfl ?_
   simp(maxSteps:=600000) [bT,e0,e1,h1,h2,h3,Ak]
  ·refine⟨_, .inr ⟨rfl,hlv⟩,?_⟩
   simp only[Ak]at e1
   refine aa (fn:=bT) rfl ?_
   simp(maxSteps:=600000) [bT,e0,e1,h1,h2,h3,Ak]
 obtain⟨g4,h4⟩:∃g,(o.kind==5)=g:=⟨_,rfl⟩
 rw[h4]
 cases g4<;>simp only[cond_true,cond_false]
 case true=>
  obtain⟨l,hlv,e1⟩:=oF hB h Oe
  rcases hlv with rfl|⟨rfl,hlv⟩
  ·refine⟨_, .inl rfl,?_⟩
   simp only[sY]at e1
   refine aa (fn:=bT) rfl ?_
   simp(maxSteps:=600000) [bT,e0,e1,h1,h2,h3,h4,sY]
  ·refine⟨_, .inr ⟨rfl,hlv⟩,?_⟩
   simp only[sY]at e1
   refine aa (fn:=bT) rfl ?_
   simp(maxSteps:=600000) [bT,e0,e1,h1,h2,h3,h4,sY]
 obtain⟨g5,h5⟩:∃g,(o.kind==4)=g:=⟨_,rfl⟩
 rw[h5]
 have ht:=ye (s:=s) (k:=o.key)
 have hf:=Cm (s:=s) (k:=o.key)
 have b1:=SW (i:=dv (nF o.key) s.items)
 cases g5<;>simp only[cond_true,cond_false]
 case true=>
  refine⟨_, .inl rfl,?_⟩
  unfold S2
  by_cases q:0≤dv (nF o.key) s.items
  ·obtain⟨x,hi,hx⟩:=ht q
   have hw0:=XItem.e.eq_1 x
   have hm:(s.items.map XItem.e)[(dv (nF o.key) s.items).toNat]? =some x.e:=by rw[Zm,hi];rfl
   have l0:b9 (dv (nF o.key) s.items) 0=false:=fG (by omega)
   rw[hx]
   generalize dv (nF o.key) s.items=i at*
   refine aa (fn:=bT) rfl ?_
   simp(maxSteps:=600000) [bT,e0,h1,h2,h3,h4,h5,l0,q,hm,hw0,n5]
  ·have l0:b9 (dv (nF o.key) s.items) 0=true:=d6 (by omega)
   generalize dv (nF o.key) s.items=i at*
   refine aa (fn:=bT) rfl ?_
   simp(maxSteps:=600000) [bT,e0,h1,h2,h3,h4,h5,l0]
 have hro:=sa h o.key
 have e8:ah Ph aH 190 [.agg [.pv (.lst ((dK s o.key).fs.map XField.e))],cU o.field]=some (Tz (mB (dK s o.key).fs o.field)):=gv (r:=dK s o.key) (by have:=hro.1;unfold maxLen;omega) o.field
 have e3:ah Ph aH 341 [.agg [.pv (.lst ((dK s o.key).fs.map XField.e))],cU o.field,ae .i64 (FU s o.key o.field)]=some (p7 (wq s o.key o.field)):=rU hB hro hfn (D0 _)
 have e4:ah Ph aH 342 [s.v,o.key.v, .agg [.pv (.lst ((wq s o.key o.field).1.map XField.e))]]=some (lL (xR s o.key o.field)):=kX hB h hk (uV (by omega) hro _ _)
 have e5:=nO (xR s o.key o.field)
 have e7:=ym (wq s o.key o.field)
 have hw:IntKind.i64.wrap ((mB (dK s o.key).fs o.field).1+1)=FU s o.key o.field:=rfl
 generalize lL (xR s o.key o.field)=pr at*
 generalize xR s o.key o.field=p at*
 generalize p7 (wq s o.key o.field)=rr at*
 generalize wq s o.key o.field=sr at*
 generalize FU s o.key o.field=n1 at*
 generalize dK s o.key=rc at*
 generalize mB rc.fs o.field=g at*
 generalize dv (nF o.key) s.items=i at*
 simp only[sk]at e5
 obtain⟨fs1,b⟩:=sr
 obtain⟨p1,pb⟩:=p
 obtain⟨gn,gb⟩:=g
 simp only at e3 e4 e5 e7 e8 hw⊢
 by_cases q:0≤i
 ·obtain⟨x,hi,hx⟩:=ht q
  have hw0:=XItem.e.eq_1 x
  rw[←hx]at hw0
  have hm:(s.items.map XItem.e)[i.toNat]? =some x.e:=by rw[Zm,hi];rfl
  cases b
  ·refine⟨_, .inl rfl,?_⟩
   refine aa (fn:=bT) rfl ?_
   simp(maxSteps:=600000) [bT,e0,e3,e8,h1,h2,h3,h4,h5,hw,b1,q,hm,hw0, ↓e7]
  ·refine⟨_,tF _,?_⟩
   refine aa (fn:=bT) rfl ?_
   simp(maxSteps:=600000) [bT,e0,e3,e4,e8,h1,h2,h3,h4,h5,hw,b1,q,hm,hw0, ↓e5, ↓e7, ↓au, ↓aj, ↓av, ↓ai, ↓aE, ↓aq]
 ·have hx:=hf q
  rw[hx]at e3 e8
  simp only[Z4]at e3 e8
  cases b
  ·refine⟨_, .inl rfl,?_⟩
   refine aa (fn:=bT) rfl ?_
   simp(maxSteps:=600000) [bT,e0,e3,e8,h1,h2,h3,h4,h5,hw,b1,q, ↓e7]
  ·refine⟨_,tF _,?_⟩
   refine aa (fn:=bT) rfl ?_
   simp(maxSteps:=600000) [bT,e0,e3,e4,e8,h1,h2,h3,h4,h5,hw,b1,q, ↓e5, ↓e7, ↓au, ↓aj, ↓av, ↓ai, ↓aE, ↓aq]
theorem B9 {B:Nat}(hB0:17≤B)(hB:B≤1048576){s:XStore}(h:s.Ok B){o:XOp}(ho:o.Ok B):∃l,Ud l ((tw s o).1.items.map XItem.e)∧ah Ph aH 594 [s.v,o.v]=some (Vq (tw s o) l):=by
 have hl:s.items.length≤1048576:=Zc h.2.1.1 hB
 obtain⟨_,_,hk,hrc,hfn⟩:=ho
 have hkm:o.key.Ok maxLen:=XKey.Ok.mono (by unfold maxLen;omega) hk
 unfold tw
 obtain⟨g1,h1⟩:∃g,(o.kind==1)=g:=⟨_,rfl⟩
 rw[h1]
 cases g1<;>simp only[cond_true,cond_false]
 case true=>
  have e1:=k7 hB h hk hrc
  have e2:=nO (kN s o.key o.rcd)
  refine⟨_,tF _,?_⟩
  simp only[sk]at e2
  generalize lL (kN s o.key o.rcd)=pr at*
  refine aa (fn:=bS) rfl ?_
  simp(maxSteps:=600000) [bS,e1,h1, ↓e2, ↓aj, ↓av, ↓au, ↓ai, ↓aE, ↓aq]
 obtain⟨g2,h2⟩:∃g,(o.kind==2)=g:=⟨_,rfl⟩
 rw[h2]
 cases g2<;>simp only[cond_true,cond_false]
 case true=>
  have e1:=B2 hB h hk hrc
  refine⟨_,tF _,?_⟩
  simp only[sk]at e1
  refine aa (fn:=bS) rfl ?_
  simp(maxSteps:=600000) [bS,e1,h1,h2, ↓aD, ↓aj, ↓av, ↓au, ↓ai, ↓aE, ↓aq]
 obtain⟨g3,h3⟩:∃g,(o.kind==3)=g:=⟨_,rfl⟩
 rw[h3]
 cases g3<;>simp only[cond_true,cond_false]
 case true=>
  obtain⟨l,hlv,e1⟩:=oH hB h (Of hkm)
  rcases hlv with rfl|⟨rfl,hlv⟩
  ·refine⟨_, .inl rfl,?_⟩
   simp only[Ak]at e1
   refine aa (fn:=bS) rfl ?_
   simp(maxSteps:=600000) [bS,e1,h1,h2,h3,Ak]
  ·refine⟨_, .inr ⟨rfl,hlv⟩,?_⟩
   simp only[Ak]at e1
   refine aa (fn:=bS) rfl ?_
   simp(maxSteps:=600000) [bS,e1,h1,h2,h3,Ak]
 obtain⟨g5,h5⟩:∃g,(o.kind==4)=g:=⟨_,rfl⟩
 rw[h5]
 cases g5
 case true=>
  have h4:(o.kind==5)=false:=by
   have:o.kind=4:=by simpa using h5
   rw[this];rfl
  rw[h4]
  simp only[cond_true,cond_false]
  have e0:=iH (s:=s) (by unfold maxLen;omega) o.key
  have e1:=fB hB h
  have e2:=oT s
  have ht:=ye (s:=s) (k:=o.key)
  refine⟨_,tF _,?_⟩
  simp only[sk]at e2
  generalize V.agg [.pv (.str s.name),nd 4 (s.items.map XItem.e), .pv (.int .i64 s.auto)]=nv at*
  unfold S2
  by_cases q:0≤dv (nF o.key) s.items
  ·obtain⟨x,hi,hx⟩:=ht q
   have hw0:=XItem.e.eq_1 x
   have hm:(s.items.map XItem.e)[(dv (nF o.key) s.items).toNat]? =some x.e:=by rw[Zm,hi];rfl
   have l0:b9 (dv (nF o.key) s.items) 0=false:=fG (by omega)
   rw[hx]
   generalize dv (nF o.key) s.items=i at*
   refine aa (fn:=bS) rfl ?_
   simp(maxSteps:=600000) [bS,e0,e1,h1,h2,h3,h5,l0,q,hm,hw0,n5, ↓e2, ↓aj, ↓av, ↓au, ↓ai, ↓aE, ↓aq]
  ·have l0:b9 (dv (nF o.key) s.items) 0=true:=d6 (by omega)
   generalize dv (nF o.key) s.items=i at*
   refine aa (fn:=bS) rfl ?_
   simp(maxSteps:=600000) [bS,e0,e1,h1,h2,h3,h5,l0, ↓e2, ↓aj, ↓av, ↓au, ↓ai, ↓aE, ↓aq]
 obtain⟨g4,h4⟩:∃g,(o.kind==5)=g:=⟨_,rfl⟩
 rw[h4]
 cases g4<;>simp only[cond_true,cond_false]
 case true=>
  obtain⟨l,hlv,e1⟩:=oH hB h Oe
  rcases hlv with rfl|⟨rfl,hlv⟩
  ·refine⟨_, .inl rfl,?_⟩
   simp only[sY]at e1
   refine aa (fn:=bS) rfl ?_
   simp(maxSteps:=600000) [bS,e1,h1,h2,h3,h4,h5,sY]
  ·refine⟨_, .inr ⟨rfl,hlv⟩,?_⟩
   simp only[sY]at e1
   refine aa (fn:=bS) rfl ?_
   simp(maxSteps:=600000) [bS,e1,h1,h2,h3,h4,h5,sY]
 have e1:=F4 hB0 hB h hk hfn
 refine⟨_,tF _,?_⟩
 simp only[sk]at e1
 refine aa (fn:=bS) rfl ?_
 simp(maxSteps:=600000) [bS,e1,h1,h2,h3,h4,h5, ↓aD, ↓aj, ↓av, ↓au, ↓ai, ↓aE, ↓aq]
def gN (f:List UInt8)(x:XItem):Int×Bool:=mB x.rcd.fs f
def vD (f:List UInt8)(a b:XItem):Bool:=b9 (gN f a).1 (gN f b).1||((gN f a).1==(gN f b).1&&b9 (oL a.key b.key) 0)
def O3 (f:List UInt8)(x:XItem)(out:List XItem):Nat→Nat
 |0=>0
 |n+1=>match out[n]? with
  |none=>n+1
  |some y=>cond (vD f x y) (O3 f x out n) (n+1)
theorem Hq {f:List UInt8}{x:XItem}{out:List XItem}:∀n,O3 f x out n≤n
 |0=>Zk _
 |n+1=>by
  unfold O3
  cases out[n]? with
  |none=>exact Zk _
  |some y=>
   cases h:vD f x y with
   |true=>simp only[h,cond_true];exact Nat.le_succ_of_le (Hq n)
   |false=>simp only[h,cond_false];exact Zk _
theorem CQ {f:List UInt8}{x:XItem}{out:List XItem}:∀n,n≤out.length→∀p,O3 f x out n≤p→∀(hp:p<n)(ho:p<out.length),vD f x out[p]=true
 |0,_,p,_,hp,_=>by omega
 |n+1,hn,p,h,hp,ho=>by
  unfold O3 at h
  have hn':n<out.length:=by omega
  rw[Zl hn']at h
  simp only at h
  cases q:vD f x out[n]with
  |true=>
   rw[q,cond_true]at h
   by_cases e:p=n
   ·subst e;exact q
   ·exact CQ n (by omega) p h (by omega) ho
  |false=>rw[q,cond_false]at h;omega
theorem CS {f:List UInt8}{x:XItem}{out:List XItem}:∀n,n≤out.length→∀j,O3 f x out n=j+1→∃h:j<out.length,vD f x out[j]=false
 |0,_,j,h=>by simp[O3]at h
 |n+1,hn,j,h=>by
  unfold O3 at h
  have hn':n<out.length:=by omega
  rw[Zl hn']at h
  simp only at h
  cases q:vD f x out[n]with
  |true=>rw[q,cond_true]at h;exact CS n (by omega) j h
  |false=>
   rw[q,cond_false]at h
   obtain rfl:n=j:=by omega
   exact⟨hn',q⟩
def D4 (out:List XItem)(x:XItem)(p:Nat):List XItem:=out.take p++x::out.drop p
def kW (f:List UInt8)(out:List XItem)(x:XItem):List XItem:=cond (gN f x).2 (D4 out x (O3 f x out out.length)) out
def nq (f:List UInt8)(xs:List XItem):List XItem:=xs.foldl (kW f) []
theorem GE {f:List UInt8}{xs:List XItem}{k:Nat}(hk:k<xs.length):nq f (xs.take (k+1))=kW f (nq f (xs.take k)) xs[k]:=by
 unfold nq
 rw[Zx hk,List.foldl_append]
 rfl
theorem GF (out:List XItem)(x:XItem)(p:Nat):(D4 out x p).map XItem.e=(out.map XItem.e).take p++x.e::(out.map XItem.e).drop p:=by simp[D4,List.map_take,List.map_drop]
theorem Py {out:List XItem}{x y:XItem}{p:Nat}(h:y∈D4 out x p):y=x∨y∈out:=by
 unfold D4 at h
 rcases List.mem_append.1 h with h|h
 ·exact .inr (Zy h)
 ·rcases Z6.1 h with h|h
  ·exact .inl h
  ·exact .inr (List.mem_of_mem_drop h)
theorem Px (out:List XItem)(x:XItem){p:Nat}(h:p≤out.length):(D4 out x p).length=out.length+1:=by simp[D4];omega
theorem Kb {f:List UInt8}{out:List XItem}{x y:XItem}(h:y∈kW f out x):y=x∨y∈out:=by
 unfold kW at h
 cases q:(gN f x).2 with
 |true=>rw[q,cond_true]at h;exact Py h
 |false=>rw[q,cond_false]at h;exact .inr h
theorem vw {f:List UInt8}:∀(xs out:List XItem)(y:XItem),y∈xs.foldl (kW f) out→y∈xs∨y∈out
 |[],out,y,h=> .inr h
 |x::xs,out,y,h=>by
  rcases vw xs (kW f out x) y h with h|h
  ·exact .inl (List.mem_cons_of_mem _ h)
  ·rcases Kb h with rfl|h
   ·exact .inl List.mem_cons_self
   ·exact .inr h
theorem xK {f:List UInt8}{xs:List XItem}{y:XItem}(h:y∈nq f xs):y∈xs:=by
 rcases vw xs [] y h with h|h
 ·exact h
 ·cases h
theorem Ka {f:List UInt8}{out:List XItem}{x:XItem}:(kW f out x).length≤out.length+1:=by
 unfold kW
 cases(gN f x).2 with
 |true=>rw[cond_true,Px _ _ (Hq _)];exact Zk _
 |false=>rw[cond_false];omega
theorem vu {f:List UInt8}:∀(xs out:List XItem),(xs.foldl (kW f) out).length≤out.length+xs.length
 |[],out=>by simp
 |x::xs,out=>by
  have h1:=vu (f:=f) xs (kW f out x)
  have h2:=Ka (f:=f) (out:=out) (x:=x)
  simp only[List.foldl_cons,Zo]
  omega
theorem xJ (f:List UInt8)(xs:List XItem):(nq f xs).length≤xs.length:=by
 have:=vu (f:=f) xs []
 simpa[nq]using this
def tk (l:List XItem)(k:Nat):XKey:=match l[k]? with
 |some x=>x.key
 |none=>⟨0,0,[]⟩
def Sw (f:List UInt8)(l:List XItem)(k:Nat):Bool:=match l[k]?,l[k+1]? with
 |some a,some b=>(gN f a).1==(gN f b).1
 |_,_=>false
theorem Sg {f:List UInt8}{l:List XItem}{k:Nat}(hk:k+1<l.length):Sw f l k=((gN f (l[k]'(by omega))).1==(gN f l[k+1]).1):=by
 have:k<l.length:=by omega
 simp[Sw,hk,this]
def Si (f:List UInt8)(l:List XItem):XKey×XKey×Bool:=match(List.range (l.length-1)).find? (Sw f l)with
 |some k=>(tk l k,tk l (k+1),true)
 |none=>(⟨0,0,[]⟩,⟨0,0,[]⟩,false)
theorem Ly {f:List UInt8}{l:List XItem}{k:Nat}(hk:k<l.length-1)(h:Sw f l k=true)(hn:∀j,j<k→Sw f l j=false):Si f l=(tk l k,tk l (k+1),true):=by
 have:(List.range (l.length-1)).find? (Sw f l)=some k:=by
  rw[List.find?_range_eq_some]
  exact⟨h,List.mem_range.2 hk,fun j hj=>by simp[hn j hj]⟩
 simp only[Si,this]
theorem Lx {f:List UInt8}{l:List XItem}(hn:∀j,j<l.length-1→Sw f l j=false):Si f l=(⟨0,0,[]⟩,⟨0,0,[]⟩,false):=by
 have:(List.range (l.length-1)).find? (Sw f l)=none:=by
  rw[List.find?_range_eq_none]
  exact fun j hj=>by simp[hn j hj]
 simp only[Si,this]
def UO (t:XKey×XKey×Bool):V:= .tup [(true,[.pv (.int .i64 t.1.kind), .pv (.int .i64 t.1.n), .pv (.str t.1.text)]),(true,[.pv (.int .i64 t.2.1.kind), .pv (.int .i64 t.2.1.n), .pv (.str t.2.1.text)]),(false,[.pv (.bool t.2.2)])]
section
variable {B:Nat}{f:List UInt8}
theorem H2 {f:List UInt8}{a b:XItem}(ha:a.Ok maxLen)(hb:b.Ok maxLen):ah Ph aH 415 [a.v,b.v,cU f]=some (aF (vD f a b)):=by
 have e1:=gv ha.2.1 f
 have e2:=gv hb.2.1 f
 have e3:=eQ ha.1 hb.1
 unfold vD gN
 generalize mB a.rcd.fs f=u at e1⊢
 generalize mB b.rcd.fs f=v at e2⊢
 obtain⟨w,hw⟩:∃w,(u.1==v.1)=w:=⟨_,rfl⟩
 rw[hw]
 refine aa (fn:=lB) rfl ?_
 simp +contextual (maxSteps:=9999999) [lB,e1,e2,e3,hw]
theorem Ix {f:List UInt8}{a b:XItem}(ha:a.Ok maxLen)(hb:b.Ok maxLen):ah Ph aH 414 [a.v,b.v,cU f]=some (aF (vD f a b)):=by
 have e1:=gy ha.2.1 f
 have e2:=gy hb.2.1 f
 have e3:=eR ha.1 hb.1
 unfold vD gN
 generalize mB a.rcd.fs f=u at e1⊢
 generalize mB b.rcd.fs f=v at e2⊢
 obtain⟨w,hw⟩:∃w,(u.1==v.1)=w:=⟨_,rfl⟩
 rw[hw]
 refine aa (fn:=qY) rfl ?_
 simp +contextual (maxSteps:=9999999) [qY,e1,e2,e3,hw]
end
theorem BQ {B:Nat}(hB1:B≤1048576){s:XStore}(h:s.Ok B)(f:List UInt8):ah Ph aH 413 [s.v,cU f]=some (.one (.own 4 ((nq f s.items).map XItem.e))):=by
 have hB:B≤maxLen:=by unfold maxLen;omega
 have hl:s.items.length≤1048576:=Zc h.2.1.1 hB1
 have hok:=h.2.1.2
 refine aa (fn:=pI) rfl ?_
 simp(maxSteps:=9999999) [pI]
 refine hJ bX Cl.fin s.items.length [.f,.t,.f,.f,.f,.t,.f,.f,.f,.f,.f,.f,.f,.t,.t,.t,.f,.f,.f,.f,.f,.f,.f,.f,.f,.f,.f,.f,.f,.f,.f,.f,.f,.f,.f,.f,.f,.f,.f,.f,.f,.f,.f,.f,.f,.f,.f,.f,.f,.f,.f,.f] (fun k=>[(5, .one (.arr 0)),(15,ae .i64 k)]) (fun k=>[.arr 4 ((nq f (s.items.take k)).map XItem.e)]) rfl ?_ ?_ ?_
 ·exact Kn.of [1] (by decide) (by simp[show nq f []=[]from rfl]) (by simp)
 ·intro k hk
  have hx:=XItem.e.eq_1 s.items[k]
  have hkk:=hok _ (Zf hk)
  have hkL:=XItem.Ok.mono hB hkk
  have f1:=gv (r:=s.items[k].rcd) hkL.2.1 f
  have f2:=rW hB1 hkk
  have hol:=Zc (xJ f (s.items.take k)) (by rw[Zw];exact Nat.min_le_left _ _)
  have hoo:∀y∈nq f (s.items.take k),y.Ok B:=fun y hy=>hok y (Zy (xK hy))
  try dsimp only
  rw[GE hk]
  generalize nq f (s.items.take k)=out at hol hoo⊢
  unfold kW
  have hls:∀q(hq:q<out.length),_:=fun q hq=>H2 (f:=f) hkL (XItem.Ok.mono hB (hoo _ (Zf hq)))
  have hgv:gN f s.items[k]=mB s.items[k].rcd.fs f:=rfl
  rw[hgv]
  generalize mB s.items[k].rcd.fs f=u at f1⊢
  obtain⟨u1,u2⟩:=u
  cases u2
  ·simp only[cond_false]
   simp(maxSteps:=9999999) [iw,hk,bw (n:=s.items.length) (by unfold maxLen;omega) hk,bU hk,hx,f1]
  ·simp only[cond_true]
   have hd1:=Hq (f:=f) (x:=s.items[k]) (out:=out) out.length
   have hd2:=CQ (f:=f) (x:=s.items[k]) (out:=out) out.length (Zk _)
   have hd3:=CS (f:=f) (x:=s.items[k]) (out:=out) out.length (Zk _)
   have hm:=GF out s.items[k] (O3 f s.items[k] out out.length)
   rw[hm,hx]
   clear hm
   have m1:=gx (m:=out.length+1) (z:=56) (by omega) (by omega)
   generalize O3 f s.items[k] out out.length=d at hd1 hd2 hd3⊢
   simp(maxSteps:=9999999) [iw,hk,bw (n:=s.items.length) (by unfold maxLen;omega) hk,bU hk,hx,f1]
   refine Ox bX Cl.kn (out.length-d) [.f,.t,.f,.f,.f,.t,.f,.t,.f,.f,.t,.f,.f,.t,.t,.t,.f,.f,.f,.f,.f,.f,.f,.f,.f,.f,.f,.f,.f,.f,.f,.f,.f,.f,.f,.f,.f,.f,.f,.f,.f,.f,.f,.f,.f,.f,.f,.f,.f,.f,.f,.f] (fun j=>[(10,ae .i64 ((out.length-j:Nat):Int))]) (fun _=>[.arr 4 (out.map XItem.e), .box [.pv (.int .i64 s.items[k].key.kind), .pv (.int .i64 s.items[k].key.n), .pv (.str s.items[k].key.text), .pv (.lst (s.items[k].rcd.fs.map XField.e))]]) 2 rfl ?_ ?_ ?_ ?_
   ·simp
   ·intro j hj
    obtain⟨q,hq⟩:∃q,out.length-j=q+1:=⟨out.length-j-1,by omega⟩
    have hq1:out.length-(j+1)=q:=by omega
    have hqo:q<out.length:=by omega
    have l1:=hls q hqo
    rw[hd2 q (by omega) hqo hqo]at l1
    have hy:=XItem.e.eq_1 out[q]
    have w4:b9 0 ((q:Int)+1)=true:=d6 (by omega)
    have w5:IntKind.i64.wrap ((q:Int)+1-1)=(q:Int):=by rw[IntKind.wrap_i64];omega
    have w6:IntKind.i64.wrap (q:Int)=(q:Int):=by rw[IntKind.wrap_i64];omega
    try dsimp only
    rw[hq,hq1]
    clear hd2 hd3
    simp(maxSteps:=9999999) [gj,hk,hx,hy,hqo,l1,w4,w5,w6]
   ·have hz:out.length-(out.length-d)=d:=by omega
    try dsimp only
    rw[hz]
    cases d with
    |zero=>
     simp(maxSteps:=9999999) [gj,show b9 0 0=false from rfl]
    |succ q=>
     obtain⟨hqo,hlq⟩:=hd3 q rfl
     have l1:=hls q hqo
     rw[hlq]at l1
     have hy:=XItem.e.eq_1 out[q]
     have w4:b9 0 ((q:Int)+1)=true:=d6 (by omega)
     have w5:IntKind.i64.wrap ((q:Int)+1-1)=(q:Int):=by rw[IntKind.wrap_i64];omega
     have w6:IntKind.i64.wrap (q:Int)=(q:Int):=by rw[IntKind.wrap_i64];omega
     simp(maxSteps:=9999999) [gj,hk,hx,hy,hqo,l1,w4,w5,w6]
   ·have hz:out.length-(out.length-d)=d:=by omega
    try dsimp only
    rw[hz]
    have hdi:(d:Int)≤(out.length:Int):=by omega
    simp(maxSteps:=9999999) [f2,hk,hx,bw (n:=s.items.length) (by unfold maxLen;omega) hk,hd1,hdi,m1,-bY]
    exact Kn.of [4] (by decide) (by simp) (by simp)
 ·try dsimp only
  rw[List.take_length]
  simp(maxSteps:=9999999) [iw]
theorem B3 {B:Nat}(hB1:B≤1048576){s:XStore}(h:s.Ok B)(f:List UInt8):ah Ph aH 409 [s.v,cU f]=some (.one (.own 4 ((nq f s.items).map XItem.e))):=by
 have hB:B≤maxLen:=by unfold maxLen;omega
 have hl:s.items.length≤1048576:=Zc h.2.1.1 hB1
 have hok:=h.2.1.2
 refine aa (fn:=pQ) rfl ?_
 simp(maxSteps:=9999999) [pQ]
 refine hJ bX Cl.fin s.items.length [.f,.t,.t,.f,.f,.t,.t,.f,.f,.f,.f,.f,.f,.f,.f,.f,.f,.f,.f,.f,.f,.f,.f,.f,.f,.f,.f,.f,.f,.f,.f,.f,.f,.f,.f,.f,.f,.f,.f,.f,.f,.f,.f,.f,.f,.f,.f,.f,.f,.f,.f,.f,.f,.f,.f,.f,.f,.f,.f,.f,.f,.f,.f,.f,.f,.f,.f,.f,.f,.f,.f,.f] (fun k=>[(5, .one (.arr 1)),(6,ae .i64 k)]) (fun k=>[.box [.pv (.str s.name), .pv (.lst (s.items.map XItem.e)), .pv (.int .i64 s.auto)], .arr 4 ((nq f (s.items.take k)).map XItem.e)]) rfl ?_ ?_ ?_
 ·exact Kn.of [0,1] (by decide) (by simp[show nq f []=[]from rfl]) (by simp)
 ·intro k hk
  have hx:=XItem.e.eq_1 s.items[k]
  have hkk:=hok _ (Zf hk)
  have hkL:=XItem.Ok.mono hB hkk
  have f1:=gy (r:=s.items[k].rcd) hkL.2.1 f
  have f2:=qe hB1 hkk
  have hol:=Zc (xJ f (s.items.take k)) (by rw[Zw];exact Nat.min_le_left _ _)
  have hoo:∀y∈nq f (s.items.take k),y.Ok B:=fun y hy=>hok y (Zy (xK hy))
  try dsimp only
  rw[GE hk]
  generalize nq f (s.items.take k)=out at hol hoo⊢
  unfold kW
  have hls:∀q(hq:q<out.length),_:=fun q hq=>Ix (f:=f) hkL (XItem.Ok.mono hB (hoo _ (Zf hq)))
  have hgv:gN f s.items[k]=mB s.items[k].rcd.fs f:=rfl
  rw[hgv]
  generalize mB s.items[k].rcd.fs f=u at f1⊢
  obtain⟨u1,u2⟩:=u
  cases u2
  ·simp only[cond_false]
   simp(maxSteps:=9999999) [iy,hk,bw (n:=s.items.length) (by unfold maxLen;omega) hk,bU hk,hx,f1]
  ·simp only[cond_true]
   have hd1:=Hq (f:=f) (x:=s.items[k]) (out:=out) out.length
   have hd2:=CQ (f:=f) (x:=s.items[k]) (out:=out) out.length (Zk _)
   have hd3:=CS (f:=f) (x:=s.items[k]) (out:=out) out.length (Zk _)
   have hm:=GF out s.items[k] (O3 f s.items[k] out out.length)
   rw[hm,hx]
   clear hm
   have m1:=gx (m:=out.length+1) (z:=56) (by omega) (by omega)
   generalize O3 f s.items[k] out out.length=d at hd1 hd2 hd3⊢
   simp(maxSteps:=9999999) [iy,hk,bw (n:=s.items.length) (by unfold maxLen;omega) hk,bU hk,hx,f1]
   refine Ox bX Cl.kn (out.length-d) [.f,.t,.t,.f,.f,.t,.t,.f,.f,.t,.f,.f,.f,.f,.f,.f,.f,.f,.f,.f,.f,.f,.f,.f,.f,.f,.f,.f,.f,.f,.f,.f,.f,.f,.f,.f,.f,.f,.f,.f,.f,.f,.f,.f,.f,.f,.f,.f,.f,.f,.f,.f,.f,.f,.f,.f,.f,.f,.f,.f,.f,.f,.f,.f,.f,.f,.f,.f,.f,.f,.f,.f] (fun j=>[(9,ae .i64 ((out.length-j:Nat):Int))]) (fun _=>[.box [.pv (.str s.name), .pv (.lst (s.items.map XItem.e)), .pv (.int .i64 s.auto)], .arr 4 (out.map XItem.e)]) 2 rfl ?_ ?_ ?_ ?_
   ·simp
   ·intro j hj
    obtain⟨q,hq⟩:∃q,out.length-j=q+1:=⟨out.length-j-1,by omega⟩
    have hq1:out.length-(j+1)=q:=by omega
    have hqo:q<out.length:=by omega
    have l1:=hls q hqo
    rw[hd2 q (by omega) hqo hqo]at l1
    have hy:=XItem.e.eq_1 out[q]
    have w4:b9 0 ((q:Int)+1)=true:=d6 (by omega)
    have w5:IntKind.i64.wrap ((q:Int)+1-1)=(q:Int):=by rw[IntKind.wrap_i64];omega
    have w6:IntKind.i64.wrap (q:Int)=(q:Int):=by rw[IntKind.wrap_i64];omega
    try dsimp only
    rw[hq,hq1]
    clear hd2 hd3
    simp(maxSteps:=9999999) [gq,hk,hx,hy,hqo,l1,w4,w5,w6]
   ·have hz:out.length-(out.length-d)=d:=by omega
    try dsimp only
    rw[hz]
    cases d with
    |zero=>
     simp(maxSteps:=9999999) [gq,show b9 0 0=false from rfl]
    |succ q=>
     obtain⟨hqo,hlq⟩:=hd3 q rfl
     have l1:=hls q hqo
     rw[hlq]at l1
     have hy:=XItem.e.eq_1 out[q]
     have w4:b9 0 ((q:Int)+1)=true:=d6 (by omega)
     have w5:IntKind.i64.wrap ((q:Int)+1-1)=(q:Int):=by rw[IntKind.wrap_i64];omega
     have w6:IntKind.i64.wrap (q:Int)=(q:Int):=by rw[IntKind.wrap_i64];omega
     simp(maxSteps:=9999999) [gq,hk,hx,hy,hqo,l1,w4,w5,w6]
   ·have hz:out.length-(out.length-d)=d:=by omega
    try dsimp only
    rw[hz]
    have hdi:(d:Int)≤(out.length:Int):=by omega
    have t1:((out.map XItem.e).take d).all (fun e=>e.length==4)=true:=by rw[←List.map_take];exact eM (e:=XItem.e) (z:=4) (fun _=>rfl) _
    have t2:((out.map XItem.e).drop d).all (fun e=>e.length==4)=true:=by rw[←List.map_drop];exact eM (e:=XItem.e) (z:=4) (fun _=>rfl) _
    have t3:=eM (e:=XItem.e) (z:=4) (fun _=>rfl) out
    have n1:min d out.length=d:=Nat.min_eq_left hd1
    have n3:d+1+(out.length-d)=out.length+1:=by omega
    have m2:=gx (m:=d+1) (z:=56) (by omega) (by omega)
    have m3:=gx (m:=d) (z:=56) (by omega) (by omega)
    have n4:List.take (out.length-d) (List.drop d (List.map XItem.e out))=List.drop d (List.map XItem.e out):=Zz (by simp)
    simp(maxSteps:=9999999) [n4,f2,hk,hx,bw (n:=s.items.length) (by unfold maxLen;omega) hk,hd1,hdi,t1,t2,t3,n1,n3,m1,m2,m3,-bY]
    exact Kn.of [0,7] (by decide) (by simp) (by simp)
 ·try dsimp only
  rw[List.take_length]
  simp(maxSteps:=9999999) [iy]
theorem vf {B:Nat}(hB1:B≤1048576){s:XStore}(h:s.Ok B)(f:List UInt8):ah Ph aH 406 [s.v,cU f]=some (UO (Si f (nq f s.items))):=by
 have hB:B≤maxLen:=by unfold maxLen;omega
 have e1:=BQ hB1 h f
 have hll:=Zc (xJ f s.items) (Zc h.2.1.1 hB1)
 have hoo:∀y∈nq f s.items,y.Ok maxLen:=fun y hy=>XItem.Ok.mono hB (h.2.1.2 y (xK hy))
 refine aa (fn:=lw) rfl ?_
 generalize nq f s.items=l at e1 hll hoo⊢
 unfold UO
 simp(maxSteps:=9999999) [lw,e1]
 refine bm bX Cl.fin [.f,.t,.f,.f,.t,.t,.f,.t,.t,.f,.f,.f,.f,.f,.f,.f,.f,.f,.f,.f,.f,.f,.f,.f,.f,.f,.f,.f,.f,.f,.f,.f,.f,.f,.f,.f,.f,.f,.f,.f,.f,.f,.f,.f,.f,.f,.f,.f,.f,.f,.f,.f,.f,.f,.f,.f,.f,.f,.f] (fun k=>[(8,ae .i64 ((k:Int)+1))]) (l.length-1) (Sw f l) rfl (by simp) (fun k hk hn=> ?_) (fun hp _=> ?_)
 ·have hk1:k+1<l.length:=by omega
  have hk0:k<l.length:=by omega
  obtain⟨i1,i2,i3,i4,i5,i6⟩:=Pv (n:=l.length) (by unfold maxLen;omega) hk1
  have f1:=gv (r:=l[k].rcd) (hoo _ (Zf hk0)).2.1 f
  have f2:=gv (r:=l[k+1].rcd) (hoo _ (Zf hk1)).2.1 f
  have hx:=XItem.e.eq_1 l[k]
  have hy:=XItem.e.eq_1 l[k+1]
  have hq:=Ly (f:=f) hk
  have hpe:=Sg (f:=f) hk1
  unfold gN at hpe
  have ka:tk l k=l[k].key:=by simp[tk,hk0]
  have kb:tk l (k+1)=l[k+1].key:=by simp[tk,hk1]
  rw[hpe]
  rw[hpe,ka,kb]at hq
  generalize mB l[k].rcd.fs f=u at f1 hq⊢
  generalize mB l[k+1].rcd.fs f=v at f2 hq⊢
  cases hc:(u.1==v.1)
  ·simp(maxSteps:=9999999) [fv,hk0,hk1,hx,hy,i1,i2,i4,i5,i6,d6 i6,f1,f2,hc]
  ·rw[hq hc hn]
   simp(maxSteps:=9999999) [fv,hk0,hk1,hx,hy,i1,i2,i4,i5,i6,d6 i6,f1,f2,hc]
 ·rw[Lx hp]
  have hge:b9 (((l.length-1:Nat):Int)+1) (l.length:Int)=false:=fG (by omega)
  simp(maxSteps:=9999999) [fv,hge]
theorem vl {B:Nat}(hB1:B≤1048576){s:XStore}(h:s.Ok B)(f:List UInt8):ah Ph aH 401 [s.v,cU f]=some (UO (Si f (nq f s.items))):=by
 have hB:B≤maxLen:=by unfold maxLen;omega
 have e1:=B3 hB1 h f
 have hll:=Zc (xJ f s.items) (Zc h.2.1.1 hB1)
 have hoo:∀y∈nq f s.items,y.Ok maxLen:=fun y hy=>XItem.Ok.mono hB (h.2.1.2 y (xK hy))
 refine aa (fn:=lG) rfl ?_
 generalize nq f s.items=l at e1 hll hoo⊢
 unfold UO
 simp(maxSteps:=9999999) [lG,e1]
 refine bm bX Cl.fin [.f,.t,.f,.f,.t,.t,.f,.t,.t,.f,.f,.f,.f,.f,.f,.f,.f,.f,.f,.f,.f,.f,.f,.f,.f,.f,.f,.f,.f,.f,.f,.f,.f,.f,.f,.f,.f,.f,.f,.f,.f,.f,.f,.f,.f,.f,.f,.f,.f,.f,.f,.f,.f,.f,.f,.f,.f,.f,.f] (fun k=>[(8,ae .i64 ((k:Int)+1))]) (l.length-1) (Sw f l) rfl (by simp) (fun k hk hn=> ?_) (fun hp _=> ?_)
 ·have hk1:k+1<l.length:=by omega
  have hk0:k<l.length:=by omega
  obtain⟨i1,i2,i3,i4,i5,i6⟩:=Pv (n:=l.length) (by unfold maxLen;omega) hk1
  have f1:=gy (r:=l[k].rcd) (hoo _ (Zf hk0)).2.1 f
  have f2:=gy (r:=l[k+1].rcd) (hoo _ (Zf hk1)).2.1 f
  have hx:=XItem.e.eq_1 l[k]
  have hy:=XItem.e.eq_1 l[k+1]
  have hq:=Ly (f:=f) hk
  have hpe:=Sg (f:=f) hk1
  unfold gN at hpe
  have ka:tk l k=l[k].key:=by simp[tk,hk0]
  have kb:tk l (k+1)=l[k+1].key:=by simp[tk,hk1]
  rw[hpe]
  rw[hpe,ka,kb]at hq
  generalize mB l[k].rcd.fs f=u at f1 hq⊢
  generalize mB l[k+1].rcd.fs f=v at f2 hq⊢
  cases hc:(u.1==v.1)
  ·simp(maxSteps:=9999999) [fw,hk0,hk1,hx,hy,i1,i2,i4,i5,i6,d6 i6,f1,f2,hc]
  ·rw[hq hc hn]
   simp(maxSteps:=9999999) [fw,hk0,hk1,hx,hy,i1,i2,i4,i5,i6,d6 i6,f1,f2,hc]
 ·rw[Lx hp]
  have hge:b9 (((l.length-1:Nat):Int)+1) (l.length:Int)=false:=fG (by omega)
  simp(maxSteps:=9999999) [fw,hge]
def QL (ss:List XStore)(k:Nat):Bool:=match ss[k]?,ss[k-1]? with
 |some x,some y=> !(eG x)||(b9 0 k&& !(Op.bytesLess y.name x.name))
 |_,_=>false
def p9 (a b:XIndexDef):Bool:=a.store==b.store&&a.field==b.field
theorem Eu (a b:XIndexDef):p9 a b=p9 b a:=by unfold p9;rw[Bool.beq_comm (a:=a.store),Bool.beq_comm (a:=a.field)]
def JD (us:List XIndexDef)(k:Nat):Bool:=match us[k]? with
 |some u=>mY k (oK (p9 u) us)
 |none=>false
def E7 (ss:List XStore)(us:List XIndexDef)(k:Nat):Bool:=match us[k]? with
 |some u=>match ss.find? (H6 u.store)with
  |some s=> !(ie u.field)||(JD us k||(Si u.field (nq u.field s.items)).2.2)
  |none=>true
 |none=>false
def tU (d:XDatabase):Bool:=ie d.name&&(rg d.version 0 1000&&(!(b9 4 d.stores.length)&&(!(b9 4 d.unique.length)&&(!(mY d.stores.length (QL d.stores))&& !(mY d.unique.length (E7 d.stores d.unique))))))
theorem o6 {α:Type}(p:α→Bool)(xs:List α):(dv p xs= -1∧xs.find? p=none)∨∃j,∃hj:j<xs.length,dv p xs=(j:Int)∧xs.find? p=some xs[j]:=by
 unfold dv
 cases h:xs.findIdx? p with
 |none=>exact .inl ⟨rfl,by rw[List.findIdx?_eq_none_iff]at h;rw[List.find?_eq_none];exact fun x hx=>by simp[h x hx]⟩
 |some i=>
  rw[List.findIdx?_eq_some_iff_getElem]at h
  obtain⟨h1,h2,h3⟩:=h
  refine .inr ⟨i,h1,rfl,?_⟩
  rw[List.find?_eq_some_iff_getElem]
  exact⟨h2,i,h1,rfl,fun j hj=>by simpa using h3 j hj⟩
theorem Pl {p:XIndexDef→Bool}{us:List XIndexDef}{k:Nat}(hk:k<us.length):(!(b9 (dv p (us.take k)) 0))=mY k (oK p us):=by
 have at':∀j,j<k→oK p (us.take k) j=oK p us j:=fun j hj=>by simp[oK,List.getElem?_take,hj]
 rcases xD p (us.take k)with h|⟨j,hj,h1,h2⟩
 ·rw[h,d6 (by omega)]
  refine(Cw fun j hj=> ?_).symm
  have hj2:j<(us.take k).length:=by simp;omega
  rw[←at' j hj]
  have:=NE h _ (Zf hj2)
  simp only[oK,Zl hj2];exact this
 ·have hj2:j<k:=by simp at hj;omega
  rw[h1,fG (by omega)]
  refine(QI hj2 ?_).symm
  rw[←at' j hj2];simp only[oK,Zl hj];exact h2
theorem DV {us:List XIndexDef}(hl:us.length≤maxLen)(x:XIndexDef):ah Ph aH 412 [aR (us.map XIndexDef.e),x.v]=some (ae .i64 (dv (p9 x) us)):=by
 refine aa (fn:=du) rfl ?_
 simp +contextual (maxSteps:=9999999) [du]
 refine bm bX Cl.fin [.t,.f,.f,.t,.f,.f,.f,.t,.t,.f,.f,.f,.f,.f,.f,.f,.f,.f,.f] (fun k=>[(8,ae .i64 k)]) us.length (oK (p9 x) us) rfl (by simp) (fun k hk hj=> ?_) (fun hj _=> ?_)
 ·have hf:=zR hk hj
  simp +contextual (maxSteps:=9999999) [co,oK,p9,hk,hf,bw hl hk,bU hk,XIndexDef.e.eq_1 us[k],oO,Nz]
 ·simp +contextual (maxSteps:=9999999) [co,wd hj]
theorem xL {us:List XIndexDef}(hl:us.length≤maxLen)(x:XIndexDef):ah Ph aH 405 [aR (us.map XIndexDef.e),x.v]=some (aF (!(b9 (dv (p9 x) us) 0))):=by
 have e1:=DV hl x
 refine aa (fn:=da) rfl ?_
 simp +contextual (maxSteps:=9999999) [da,e1]
theorem lH {B:Nat}(hB1:B≤1048576){d:XDatabase}(h:d.Ok B):ah Ph aH 397 [d.v]=some (aF (tU d)):=by
 have hB:B≤maxLen:=by unfold maxLen;omega
 obtain⟨hn,hv,⟨hsl,hs⟩,hul,hu⟩:=h
 have e1:=iE (Zc hn hB)
 have e2:=eV d.version 0 1000
 have hsL:d.stores.length≤maxLen:=Zc hsl hB
 have huL:d.unique.length≤maxLen:=Zc hul hB
 unfold tU
 refine aa (fn:=eD) rfl ?_
 cases c1:ie d.name<;>rw[c1]at e1
 ·simp(maxSteps:=9999999) [eD,e1]
 cases c2:rg d.version 0 1000<;>rw[c2]at e2
 ·simp(maxSteps:=9999999) [eD,e1,e2]
 cases c3:b9 4 d.stores.length
 rotate_left
 ·simp(maxSteps:=9999999) [eD,e1,e2,c3]
 cases c4:b9 4 d.unique.length
 rotate_left
 ·simp(maxSteps:=9999999) [eD,e1,e2,c3,c4]
 simp(maxSteps:=9999999) [eD,e1,e2,c3,c4]
 refine bm bX Cl.fin [.f,.t,.f,.f,.f,.f,.f,.f,.f,.f,.f,.f,.f,.f,.f,.f,.f,.f,.f,.f,.f,.f,.f,.f,.f,.f,.f,.f,.f,.f,.f,.f,.f,.f,.t,.t,.t,.f,.f,.f,.f,.f,.f,.f,.f,.f,.f,.f,.f,.f,.f,.f,.f,.f,.f,.f,.f,.f,.f,.f,.f,.f,.f,.f,.f,.f,.f,.f,.f,.f,.f,.f,.f,.f,.f,.f,.f,.f,.f,.f,.f,.f,.f,.f,.f,.f,.f,.f,.f,.f,.f,.f,.f,.f,.f,.f,.f,.f,.f,.f,.f,.f,.f] (fun k=>[(36,ae .i64 k)]) d.stores.length (QL d.stores) rfl (by simp) (fun k hk _=> ?_) (fun _ hp=> ?_)
 ·obtain⟨q1,q2⟩:=PU hsL hk
  have e3:=jh (XStore.Ok.mono hB (hs _ (Zf hk)))
  simp +contextual (maxSteps:=9999999) [fM,QL,hk,q1,q2,bw hsL hk,bU hk,XStore.e.eq_1 d.stores[k],XStore.e.eq_1 d.stores[k-1],e3]
 ·simp(maxSteps:=9999999) [fM,hp]
  refine bm bX Cl.fin [.f,.t,.f,.f,.f,.f,.f,.f,.f,.f,.f,.f,.f,.f,.f,.f,.f,.f,.f,.f,.f,.f,.f,.f,.f,.f,.f,.f,.f,.f,.f,.f,.f,.f,.f,.f,.f,.f,.f,.f,.f,.f,.f,.f,.f,.f,.f,.f,.f,.f,.f,.f,.f,.f,.f,.f,.f,.f,.f,.f,.f,.f,.t,.t,.t,.f,.f,.f,.f,.f,.f,.f,.f,.f,.f,.f,.f,.f,.f,.f,.f,.f,.f,.f,.f,.f,.f,.f,.f,.f,.f,.f,.f,.f,.f,.f,.f,.f,.f,.f,.f,.f,.f] (fun k=>[(64,ae .i64 k)]) d.unique.length (E7 d.stores d.unique) rfl (by simp) (fun k hk _=> ?_) (fun _ hp=> ?_)
  ·have e3:=mC (d:=d) hsL d.unique[k].store
   have e4:=iE (Zc (hu _ (Zf hk)).2 hB)
   have e5:=xL (us:=d.unique.take k) (by rw[Zw];omega) d.unique[k]
   rw[Pl hk]at e5
   have hdup:JD d.unique k=mY k (oK (p9 d.unique[k]) d.unique):=by simp[JD,hk]
   rw[←hdup]at e5
   rw[List.map_take]at e5
   have hx:=XIndexDef.e.eq_1 d.unique[k]
   have w:=eM (e:=XIndexDef.e) (z:=2) (fun _=>rfl) d.unique
   rcases o6 (H6 d.unique[k].store) d.stores with⟨h1,h2⟩|⟨j,hj,h1,h2⟩<;>rw[h1]at e3
   ·rw[show E7 d.stores d.unique k=true by simp[E7,hk,h2]]
    simp +contextual (maxSteps:=9999999) [fO,hk,e3,hx,bw huL hk,bU hk,show b9 (-1) 0=true from rfl]
   ·have e6:=vf hB1 (hs _ (Zf hj)) d.unique[k].field
    have hy:=XStore.e.eq_1 d.stores[j]
    rw[show E7 d.stores d.unique k=(!(ie d.unique[k].field)||(JD d.unique k||(Si d.unique[k].field (nq d.unique[k].field d.stores[j].items)).2.2)) by simp[E7,hk,h2]]
    generalize Si d.unique[k].field (nq d.unique[k].field d.stores[j].items)=T at e6⊢
    unfold UO at e6
    generalize ie d.unique[k].field=N at e4⊢
    generalize JD d.unique k=D at e5⊢
    simp +contextual (maxSteps:=9999999) [fO,hk,hj,e3,e4,e5,e6,hx,hy,w,Nat.le_of_lt hk,bw huL hk,bU hk,nu]
  ·simp(maxSteps:=9999999) [fO,hp]
end Gi
