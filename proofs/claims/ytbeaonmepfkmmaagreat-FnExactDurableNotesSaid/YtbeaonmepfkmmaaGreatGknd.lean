/- Of this proof. -/
import Derived.Test.YtbeaonmepfkmmaaGreatGoPd
set_option linter.unusedSimpArgs false
set_option linter.unusedVariables false
namespace Gi
open Go Go.RowKit
set_option maxHeartbeats 8000000
set_option maxRecDepth 4000
attribute [local simp] start pa a9 b6 cP dS cO dR d5 dZ pR p5 pS p6 pT p7 pU p8 pV p9 pW qa pX qb pY qc pZ qd V.cells plain bf fO isInt isStr isBool bin bN gA bO gB dV un asList L.view av V.view viewL aR aw bS bq bE comp aK bv cL bK bj bh bi aB aq aH am az aW ap aY bH aI bm bo V.flat L.flat cX cN br putAt thaw thawL thawT V.ow dY cR cS bQ dX bR cQ freezeVs freezeLs freezeL V.mut L.mut aJ cy fQ aX bu aP dN co bG cJ L.ren aM dd bP dq bF bB wp_seq wp_block aV cV bT bt bU wp_skip wp_exit wp_ret ce b9 ct cf cF cG cE bJ aL L.notArr bA bw bz cT b8 storeD aT eS bc bZ aU mf L.mov L.closed V.closed PV.bare PV.flat
def yO (k:XKey):XRange:=⟨true,true,k,k⟩
def rI :XRange:=⟨false,false,⟨0,0,[]⟩,⟨0,0,[]⟩⟩
def RE (s:XStore)(k:XKey):Int:=bif bX (dE (pd k) s.items) 0 then-1 else((kd s k).fs.length:Int)
def ru (s:XStore)(o:XOp):XStore×Int×Bool:=
 bif o.kind==1 then((ph s o.key o.rcd).1,1,(ph s o.key o.rcd).2)else
 bif o.kind==2 then((zQ s o.key o.rcd).1,1,(zQ s o.key o.rcd).2)else
 bif o.kind==3 then((qr s (yO o.key)).1,(qr s (yO o.key)).2,true)else
 bif o.kind==5 then((qr s rI).1,(qr s rI).2,true)else
 bif o.kind==4 then(s,RE s o.key,true)else
 ((wy s o.key o.field).1,Ed s o.key o.field,(uW s o.key o.field).2&&(wy s o.key o.field).2)
def Oz (s:XStore)(o:XOp):XStore×Int×Bool:=
 bif o.kind==1 then((ph s o.key o.rcd).1,1,(ph s o.key o.rcd).2)else
 bif o.kind==2 then((zQ s o.key o.rcd).1,1,(zQ s o.key o.rcd).2)else
 bif o.kind==3 then((qr s (yO o.key)).1,(qr s (yO o.key)).2,true)else
 bif o.kind==5 then((qr s rI).1,(qr s rI).2,true)else
 bif o.kind==4 then(s,RE s o.key,true)else
 bif (uW s o.key o.field).2 then((wy s o.key o.field).1,Ed s o.key o.field,(wy s o.key o.field).2)else(s,0,false)
theorem R1 (s:XStore)(o:XOp):(Oz s o).2.2=(ru s o).2.2∧((ru s o).2.2=true→Oz s o=ru s o):=by
 unfold Oz ru
 cases o.kind==1<;>simp only[cond_true,cond_false]
 case true=>simp
 cases o.kind==2<;>simp only[cond_true,cond_false]
 case true=>simp
 cases o.kind==3<;>simp only[cond_true,cond_false]
 case true=>simp
 cases o.kind==5<;>simp only[cond_true,cond_false]
 case true=>simp
 cases o.kind==4<;>simp only[cond_true,cond_false]
 case true=>simp
 cases(uW s o.key o.field).2
 ·exact⟨by simp,fun h=>by simp at h⟩
 ·exact⟨by simp,fun h=>by simp⟩
def SY (l:L)(rows:List (List PV)):Prop:=l= .pv (.lst rows)∨(l= .nil∧rows=[])
theorem sw (rows:List (List PV)):SY (kI rows) rows:=by
 cases rows with
 |nil=>exact .inr ⟨rfl,rfl⟩
 |cons r rs=>exact .inl rfl
abbrev Uh (x:XStore×Int×Bool)(l:L):V:= .tup [(true,[.pv (.str x.1.name),l, .pv (.int .i64 x.1.auto)]),(false,[.pv (.int .i64 x.2.1)]),(false,[.pv (.bool x.2.2)])]
theorem MW {k:XKey}(h:k.Ok maxLen):(yO k).Ok:=⟨h,h⟩
theorem MV :rI.Ok:=⟨⟨by simp[rI,iy],by simp[rI,iy],by simp[rI]⟩,⟨by simp[rI,iy],by simp[rI,iy],by simp[rI]⟩⟩
theorem Rx {i:Int}:(!(bX i 0))=decide (0≤i):=by unfold bX;by_cases q:0≤i<;>simp[q];omega
theorem Gn {B:Nat}(hB0:17≤B)(hB:B≤1048576){s:XStore}(h:s.Ok B){o:XOp}(ho:o.Ok B):∃l,SY l ((Oz s o).1.items.map XItem.e)∧ah Ph aN 597 [s.v,o.v]=some (Uh (Oz s o) l):=by
 have hl:s.items.length≤1048576:=Nat.le_trans h.2.1.1 hB
 obtain⟨_,_,hk,hrc,hfn⟩:=ho
 have hkm:o.key.Ok maxLen:=XKey.Ok.mono (by unfold maxLen;omega) hk
 have e0:=mK (s:=s) (by unfold maxLen;omega) o.key
 unfold Oz
 obtain⟨g1,h1⟩:∃g,(o.kind==1)=g:=⟨_,rfl⟩
 rw[h1]
 cases g1<;>simp only[cond_true,cond_false]
 case true=>
  have e1:=nG hB h hk hrc
  have e2:=qH (ph s o.key o.rcd)
  refine⟨_,sw _,?_⟩
  simp only[Jx]at e2
  generalize oQ (ph s o.key o.rcd)=pr at*
  refine ae (fn:=bI) rfl ?_
  simp(maxSteps:=600000) [bI,e0,e1,h1, ↓e2, ↓aq, ↓aB, ↓az, ↓am, ↓aH, ↓ap]
 obtain⟨g2,h2⟩:∃g,(o.kind==2)=g:=⟨_,rfl⟩
 rw[h2]
 cases g2<;>simp only[cond_true,cond_false]
 case true=>
  have e1:=AC hB h hk hrc
  refine⟨_,sw _,?_⟩
  simp only[Jx]at e1
  refine ae (fn:=bI) rfl ?_
  simp(maxSteps:=600000) [bI,e0,e1,h1,h2, ↓aI, ↓aq, ↓aB, ↓az, ↓am, ↓aH, ↓ap]
 obtain⟨g3,h3⟩:∃g,(o.kind==3)=g:=⟨_,rfl⟩
 rw[h3]
 cases g3<;>simp only[cond_true,cond_false]
 case true=>
  obtain⟨l,hlv,e1⟩:=nN hB h (MW hkm)
  rcases hlv with rfl|⟨rfl,hlv⟩
  ·refine⟨_, .inl rfl,?_⟩
   simp only[yO]at e1
   refine ae (fn:=bI) rfl ?_
   simp(maxSteps:=600000) [bI,e0,e1,h1,h2,h3,yO]
  ·refine⟨_, .inr ⟨rfl,hlv⟩,?_⟩
   simp only[yO]at e1
   refine ae (fn:=bI) rfl ?_
   simp(maxSteps:=600000) [bI,e0,e1,h1,h2,h3,yO]
 obtain⟨g4,h4⟩:∃g,(o.kind==5)=g:=⟨_,rfl⟩
 rw[h4]
 cases g4<;>simp only[cond_true,cond_false]
 case true=>
  obtain⟨l,hlv,e1⟩:=nN hB h MV
  rcases hlv with rfl|⟨rfl,hlv⟩
  ·refine⟨_, .inl rfl,?_⟩
   simp only[rI]at e1
   refine ae (fn:=bI) rfl ?_
   simp(maxSteps:=600000) [bI,e0,e1,h1,h2,h3,h4,rI]
  ·refine⟨_, .inr ⟨rfl,hlv⟩,?_⟩
   simp only[rI]at e1
   refine ae (fn:=bI) rfl ?_
   simp(maxSteps:=600000) [bI,e0,e1,h1,h2,h3,h4,rI]
 obtain⟨g5,h5⟩:∃g,(o.kind==4)=g:=⟨_,rfl⟩
 rw[h5]
 have ht:=GM (s:=s) (k:=o.key)
 have hf:=MH (s:=s) (k:=o.key)
 have b1:=Rx (i:=dE (pd o.key) s.items)
 cases g5<;>simp only[cond_true,cond_false]
 case true=>
  refine⟨_, .inl rfl,?_⟩
  unfold RE
  by_cases q:0≤dE (pd o.key) s.items
  ·obtain⟨x,hi,hx⟩:=ht q
   have hw0:=XItem.e.eq_1 x
   have hm:(s.items.map XItem.e)[(dE (pd o.key) s.items).toNat]? =some x.e:=by rw[List.getElem?_map,hi];rfl
   have l0:bX (dE (pd o.key) s.items) 0=false:=fK (by omega)
   rw[hx]
   generalize dE (pd o.key) s.items=i at*
   refine ae (fn:=bI) rfl ?_
   simp(maxSteps:=600000) [bI,e0,h1,h2,h3,h4,h5,l0,q,hm,hw0,nk]
  ·have l0:bX (dE (pd o.key) s.items) 0=true:=dW (by omega)
   generalize dE (pd o.key) s.items=i at*
   refine ae (fn:=bI) rfl ?_
   simp(maxSteps:=600000) [bI,e0,h1,h2,h3,h4,h5,l0]
 have hro:=CW h o.key
 have e8:ah Ph aN 190 [.agg [.pv (.lst ((kd s o.key).fs.map XField.e))],dv o.field]=some (Se (lI (kd s o.key).fs o.field)):=f8 (r:=kd s o.key) (by have:=hro.1;unfold maxLen;omega) o.field
 have e3:ah Ph aN 341 [.agg [.pv (.lst ((kd s o.key).fs.map XField.e))],dv o.field,aa .i64 (Ed s o.key o.field)]=some (vi (uW s o.key o.field)):=yw hB hro hfn (IN _)
 have e4:ah Ph aN 342 [s.v,o.key.v, .agg [.pv (.lst ((uW s o.key o.field).1.map XField.e))]]=some (oQ (wy s o.key o.field)):=nG hB h hk (GR (by omega) hro _ _)
 have e5:=qH (wy s o.key o.field)
 have e7:=Jw (uW s o.key o.field)
 have hw:IntKind.i64.wrap ((lI (kd s o.key).fs o.field).1+1)=Ed s o.key o.field:=rfl
 generalize oQ (wy s o.key o.field)=pr at*
 generalize wy s o.key o.field=p at*
 generalize vi (uW s o.key o.field)=rr at*
 generalize uW s o.key o.field=sr at*
 generalize Ed s o.key o.field=n1 at*
 generalize kd s o.key=rc at*
 generalize lI rc.fs o.field=g at*
 generalize dE (pd o.key) s.items=i at*
 simp only[Jx]at e5
 obtain⟨fs1,b⟩:=sr
 obtain⟨p1,pb⟩:=p
 obtain⟨gn,gb⟩:=g
 simp only at e3 e4 e5 e7 e8 hw⊢
 by_cases q:0≤i
 ·obtain⟨x,hi,hx⟩:=ht q
  have hw0:=XItem.e.eq_1 x
  rw[←hx]at hw0
  have hm:(s.items.map XItem.e)[i.toNat]? =some x.e:=by rw[List.getElem?_map,hi];rfl
  cases b
  ·refine⟨_, .inl rfl,?_⟩
   refine ae (fn:=bI) rfl ?_
   simp(maxSteps:=600000) [bI,e0,e3,e8,h1,h2,h3,h4,h5,hw,b1,q,hm,hw0, ↓e7]
  ·refine⟨_,sw _,?_⟩
   refine ae (fn:=bI) rfl ?_
   simp(maxSteps:=600000) [bI,e0,e3,e4,e8,h1,h2,h3,h4,h5,hw,b1,q,hm,hw0, ↓e5, ↓e7, ↓az, ↓aq, ↓aB, ↓am, ↓aH, ↓ap]
 ·have hx:=hf q
  rw[hx]at e3 e8
  simp only[List.map_nil]at e3 e8
  cases b
  ·refine⟨_, .inl rfl,?_⟩
   refine ae (fn:=bI) rfl ?_
   simp(maxSteps:=600000) [bI,e0,e3,e8,h1,h2,h3,h4,h5,hw,b1,q, ↓e7]
  ·refine⟨_,sw _,?_⟩
   refine ae (fn:=bI) rfl ?_
   simp(maxSteps:=600000) [bI,e0,e3,e4,e8,h1,h2,h3,h4,h5,hw,b1,q, ↓e5, ↓e7, ↓az, ↓aq, ↓aB, ↓am, ↓aH, ↓ap]
theorem AO {B:Nat}(hB0:17≤B)(hB:B≤1048576){s:XStore}(h:s.Ok B){o:XOp}(ho:o.Ok B):∃l,SY l ((ru s o).1.items.map XItem.e)∧ah Ph aN 594 [s.v,o.v]=some (Uh (ru s o) l):=by
 have hl:s.items.length≤1048576:=Nat.le_trans h.2.1.1 hB
 obtain⟨_,_,hk,hrc,hfn⟩:=ho
 have hkm:o.key.Ok maxLen:=XKey.Ok.mono (by unfold maxLen;omega) hk
 unfold ru
 obtain⟨g1,h1⟩:∃g,(o.kind==1)=g:=⟨_,rfl⟩
 rw[h1]
 cases g1<;>simp only[cond_true,cond_false]
 case true=>
  have e1:=nJ hB h hk hrc
  have e2:=qH (ph s o.key o.rcd)
  refine⟨_,sw _,?_⟩
  simp only[Jx]at e2
  generalize oQ (ph s o.key o.rcd)=pr at*
  refine ae (fn:=bC) rfl ?_
  simp(maxSteps:=600000) [bC,e1,h1, ↓e2, ↓aq, ↓aB, ↓az, ↓am, ↓aH, ↓ap]
 obtain⟨g2,h2⟩:∃g,(o.kind==2)=g:=⟨_,rfl⟩
 rw[h2]
 cases g2<;>simp only[cond_true,cond_false]
 case true=>
  have e1:=AL hB h hk hrc
  refine⟨_,sw _,?_⟩
  simp only[Jx]at e1
  refine ae (fn:=bC) rfl ?_
  simp(maxSteps:=600000) [bC,e1,h1,h2, ↓aI, ↓aq, ↓aB, ↓az, ↓am, ↓aH, ↓ap]
 obtain⟨g3,h3⟩:∃g,(o.kind==3)=g:=⟨_,rfl⟩
 rw[h3]
 cases g3<;>simp only[cond_true,cond_false]
 case true=>
  obtain⟨l,hlv,e1⟩:=nQ hB h (MW hkm)
  rcases hlv with rfl|⟨rfl,hlv⟩
  ·refine⟨_, .inl rfl,?_⟩
   simp only[yO]at e1
   refine ae (fn:=bC) rfl ?_
   simp(maxSteps:=600000) [bC,e1,h1,h2,h3,yO]
  ·refine⟨_, .inr ⟨rfl,hlv⟩,?_⟩
   simp only[yO]at e1
   refine ae (fn:=bC) rfl ?_
   simp(maxSteps:=600000) [bC,e1,h1,h2,h3,yO]
 obtain⟨g5,h5⟩:∃g,(o.kind==4)=g:=⟨_,rfl⟩
 rw[h5]
 cases g5
 case true=>
  have h4:(o.kind==5)=false:=by
   have:o.kind=4:=by simpa using h5
   rw[this];rfl
  rw[h4]
  simp only[cond_true,cond_false]
  have e0:=jQ (s:=s) (by unfold maxLen;omega) o.key
  have e1:=iv hB h
  have e2:=GU s
  have ht:=GM (s:=s) (k:=o.key)
  refine⟨_,sw _,?_⟩
  simp only[Jx]at e2
  generalize V.agg [.pv (.str s.name),nd 4 (s.items.map XItem.e), .pv (.int .i64 s.auto)]=nv at*
  unfold RE
  by_cases q:0≤dE (pd o.key) s.items
  ·obtain⟨x,hi,hx⟩:=ht q
   have hw0:=XItem.e.eq_1 x
   have hm:(s.items.map XItem.e)[(dE (pd o.key) s.items).toNat]? =some x.e:=by rw[List.getElem?_map,hi];rfl
   have l0:bX (dE (pd o.key) s.items) 0=false:=fK (by omega)
   rw[hx]
   generalize dE (pd o.key) s.items=i at*
   refine ae (fn:=bC) rfl ?_
   simp(maxSteps:=600000) [bC,e0,e1,h1,h2,h3,h5,l0,q,hm,hw0,nk, ↓e2, ↓aq, ↓aB, ↓az, ↓am, ↓aH, ↓ap]
  ·have l0:bX (dE (pd o.key) s.items) 0=true:=dW (by omega)
   generalize dE (pd o.key) s.items=i at*
   refine ae (fn:=bC) rfl ?_
   simp(maxSteps:=600000) [bC,e0,e1,h1,h2,h3,h5,l0, ↓e2, ↓aq, ↓aB, ↓az, ↓am, ↓aH, ↓ap]
 obtain⟨g4,h4⟩:∃g,(o.kind==5)=g:=⟨_,rfl⟩
 rw[h4]
 cases g4<;>simp only[cond_true,cond_false]
 case true=>
  obtain⟨l,hlv,e1⟩:=nQ hB h MV
  rcases hlv with rfl|⟨rfl,hlv⟩
  ·refine⟨_, .inl rfl,?_⟩
   simp only[rI]at e1
   refine ae (fn:=bC) rfl ?_
   simp(maxSteps:=600000) [bC,e1,h1,h2,h3,h4,h5,rI]
  ·refine⟨_, .inr ⟨rfl,hlv⟩,?_⟩
   simp only[rI]at e1
   refine ae (fn:=bC) rfl ?_
   simp(maxSteps:=600000) [bC,e1,h1,h2,h3,h4,h5,rI]
 have e1:=El hB0 hB h hk hfn
 refine⟨_,sw _,?_⟩
 simp only[Jx]at e1
 refine ae (fn:=bC) rfl ?_
 simp(maxSteps:=600000) [bC,e1,h1,h2,h3,h4,h5, ↓aI, ↓aq, ↓aB, ↓az, ↓am, ↓aH, ↓ap]
def gN (f:List UInt8)(x:XItem):Int×Bool:=lI x.rcd.fs f
def ul (f:List UInt8)(a b:XItem):Bool:=bX (gN f a).1 (gN f b).1||((gN f a).1==(gN f b).1&&bX (nS a.key b.key) 0)
def NH (f:List UInt8)(x:XItem)(out:List XItem):Nat→Nat
 |0=>0
 |n+1=>match out[n]? with
  |none=>n+1
  |some y=>cond (ul f x y) (NH f x out n) (n+1)
theorem FM {f:List UInt8}{x:XItem}{out:List XItem}:∀n,NH f x out n≤n
 |0=>Nat.le_refl _
 |n+1=>by
  unfold NH
  cases out[n]? with
  |none=>exact Nat.le_refl _
  |some y=>
   cases h:ul f x y with
   |true=>simp only[h,cond_true];exact Nat.le_succ_of_le (FM n)
   |false=>simp only[h,cond_false];exact Nat.le_refl _
theorem Bm {f:List UInt8}{x:XItem}{out:List XItem}:∀n,n≤out.length→∀p,NH f x out n≤p→∀(hp:p<n)(ho:p<out.length),ul f x out[p]=true
 |0,_,p,_,hp,_=>by omega
 |n+1,hn,p,h,hp,ho=>by
  unfold NH at h
  have hn':n<out.length:=by omega
  rw[List.getElem?_eq_getElem hn']at h
  simp only at h
  cases q:ul f x out[n]with
  |true=>
   rw[q,cond_true]at h
   by_cases e:p=n
   ·subst e;exact q
   ·exact Bm n (by omega) p h (by omega) ho
  |false=>rw[q,cond_false]at h;omega
theorem Bn {f:List UInt8}{x:XItem}{out:List XItem}:∀n,n≤out.length→∀j,NH f x out n=j+1→∃h:j<out.length,ul f x out[j]=false
 |0,_,j,h=>by simp[NH]at h
 |n+1,hn,j,h=>by
  unfold NH at h
  have hn':n<out.length:=by omega
  rw[List.getElem?_eq_getElem hn']at h
  simp only at h
  cases q:ul f x out[n]with
  |true=>rw[q,cond_true]at h;exact Bn n (by omega) j h
  |false=>
   rw[q,cond_false]at h
   obtain rfl:n=j:=by omega
   exact⟨hn',q⟩
def Cu (out:List XItem)(x:XItem)(p:Nat):List XItem:=out.take p++x::out.drop p
def ky (f:List UInt8)(out:List XItem)(x:XItem):List XItem:=cond (gN f x).2 (Cu out x (NH f x out out.length)) out
def mJ (f:List UInt8)(xs:List XItem):List XItem:=xs.foldl (ky f) []
theorem EU {f:List UInt8}{xs:List XItem}{k:Nat}(hk:k<xs.length):mJ f (xs.take (k+1))=ky f (mJ f (xs.take k)) xs[k]:=by
 unfold mJ
 rw[List.take_succ_eq_append_getElem hk,List.foldl_append]
 rfl
theorem EV (out:List XItem)(x:XItem)(p:Nat):(Cu out x p).map XItem.e=(out.map XItem.e).take p++x.e::(out.map XItem.e).drop p:=by simp[Cu,List.map_take,List.map_drop]
theorem Oe {out:List XItem}{x y:XItem}{p:Nat}(h:y∈Cu out x p):y=x∨y∈out:=by
 unfold Cu at h
 rcases List.mem_append.1 h with h|h
 ·exact .inr (List.mem_of_mem_take h)
 ·rcases List.mem_cons.1 h with h|h
  ·exact .inl h
  ·exact .inr (List.mem_of_mem_drop h)
theorem Od (out:List XItem)(x:XItem){p:Nat}(h:p≤out.length):(Cu out x p).length=out.length+1:=by simp[Cu];omega
theorem IM {f:List UInt8}{out:List XItem}{x y:XItem}(h:y∈ky f out x):y=x∨y∈out:=by
 unfold ky at h
 cases q:(gN f x).2 with
 |true=>rw[q,cond_true]at h;exact Oe h
 |false=>rw[q,cond_false]at h;exact .inr h
theorem uc {f:List UInt8}:∀(xs out:List XItem)(y:XItem),y∈xs.foldl (ky f) out→y∈xs∨y∈out
 |[],out,y,h=> .inr h
 |x::xs,out,y,h=>by
  rcases uc xs (ky f out x) y h with h|h
  ·exact .inl (List.mem_cons_of_mem _ h)
  ·rcases IM h with rfl|h
   ·exact .inl List.mem_cons_self
   ·exact .inr h
theorem wm {f:List UInt8}{xs:List XItem}{y:XItem}(h:y∈mJ f xs):y∈xs:=by
 rcases uc xs [] y h with h|h
 ·exact h
 ·cases h
theorem IL {f:List UInt8}{out:List XItem}{x:XItem}:(ky f out x).length≤out.length+1:=by
 unfold ky
 cases(gN f x).2 with
 |true=>rw[cond_true,Od _ _ (FM _)];exact Nat.le_refl _
 |false=>rw[cond_false];omega
theorem ub {f:List UInt8}:∀(xs out:List XItem),(xs.foldl (ky f) out).length≤out.length+xs.length
 |[],out=>by simp
 |x::xs,out=>by
  have h1:=ub (f:=f) xs (ky f out x)
  have h2:=IL (f:=f) (out:=out) (x:=x)
  simp only[List.foldl_cons,List.length_cons]
  omega
theorem wj (f:List UInt8)(xs:List XItem):(mJ f xs).length≤xs.length:=by
 have:=ub (f:=f) xs []
 simpa[mJ]using this
def r8 (l:List XItem)(k:Nat):XKey:=match l[k]? with
 |some x=>x.key
 |none=>⟨0,0,[]⟩
def Q9 (f:List UInt8)(l:List XItem)(k:Nat):Bool:=match l[k]?,l[k+1]? with
 |some a,some b=>(gN f a).1==(gN f b).1
 |_,_=>false
theorem QV {f:List UInt8}{l:List XItem}{k:Nat}(hk:k+1<l.length):Q9 f l k=((gN f (l[k]'(by omega))).1==(gN f l[k+1]).1):=by
 have:k<l.length:=by omega
 simp[Q9,hk,this]
def QW (f:List UInt8)(l:List XItem):XKey×XKey×Bool:=match(List.range (l.length-1)).find? (Q9 f l)with
 |some k=>(r8 l k,r8 l (k+1),true)
 |none=>(⟨0,0,[]⟩,⟨0,0,[]⟩,false)
theorem J4 {f:List UInt8}{l:List XItem}{k:Nat}(hk:k<l.length-1)(h:Q9 f l k=true)(hn:∀j,j<k→Q9 f l j=false):QW f l=(r8 l k,r8 l (k+1),true):=by
 have:(List.range (l.length-1)).find? (Q9 f l)=some k:=by
  rw[List.find?_range_eq_some]
  exact⟨h,List.mem_range.2 hk,fun j hj=>by simp[hn j hj]⟩
 simp only[QW,this]
theorem J3 {f:List UInt8}{l:List XItem}(hn:∀j,j<l.length-1→Q9 f l j=false):QW f l=(⟨0,0,[]⟩,⟨0,0,[]⟩,false):=by
 have:(List.range (l.length-1)).find? (Q9 f l)=none:=by
  rw[List.find?_range_eq_none]
  exact fun j hj=>by simp[hn j hj]
 simp only[QW,this]
def TD (t:XKey×XKey×Bool):V:= .tup [(true,[.pv (.int .i64 t.1.kind), .pv (.int .i64 t.1.n), .pv (.str t.1.text)]),(true,[.pv (.int .i64 t.2.1.kind), .pv (.int .i64 t.2.1.n), .pv (.str t.2.1.text)]),(false,[.pv (.bool t.2.2)])]
section
variable {B:Nat}{f:List UInt8}
theorem Gl {f:List UInt8}{a b:XItem}(ha:a.Ok maxLen)(hb:b.Ok maxLen):ah Ph aN 415 [a.v,b.v,dv f]=some (aD (ul f a b)):=by
 have e1:=f8 ha.2.1 f
 have e2:=f8 hb.2.1 f
 have e3:=eM ha.1 hb.1
 unfold ul gN
 generalize lI a.rcd.fs f=u at e1⊢
 generalize lI b.rcd.fs f=v at e2⊢
 obtain⟨w,hw⟩:∃w,(u.1==v.1)=w:=⟨_,rfl⟩
 rw[hw]
 refine ae (fn:=kP) rfl ?_
 simp +contextual (maxSteps:=9999999) [kP,e1,e2,e3,hw]
theorem GY {f:List UInt8}{a b:XItem}(ha:a.Ok maxLen)(hb:b.Ok maxLen):ah Ph aN 414 [a.v,b.v,dv f]=some (aD (ul f a b)):=by
 have e1:=gh ha.2.1 f
 have e2:=gh hb.2.1 f
 have e3:=eN ha.1 hb.1
 unfold ul gN
 generalize lI a.rcd.fs f=u at e1⊢
 generalize lI b.rcd.fs f=v at e2⊢
 obtain⟨w,hw⟩:∃w,(u.1==v.1)=w:=⟨_,rfl⟩
 rw[hw]
 refine ae (fn:=pM) rfl ?_
 simp +contextual (maxSteps:=9999999) [pM,e1,e2,e3,hw]
end
theorem AD {B:Nat}(hB1:B≤1048576){s:XStore}(h:s.Ok B)(f:List UInt8):ah Ph aN 413 [s.v,dv f]=some (.one (.own 4 ((mJ f s.items).map XItem.e))):=by
 have hB:B≤maxLen:=by unfold maxLen;omega
 have hl:s.items.length≤1048576:=Nat.le_trans h.2.1.1 hB1
 have hok:=h.2.1.2
 refine ae (fn:=oC) rfl ?_
 simp(maxSteps:=9999999) [oC]
 refine kj cC Cl.fin s.items.length [.f,.t,.f,.f,.f,.t,.f,.f,.f,.f,.f,.f,.f,.t,.t,.t,.f,.f,.f,.f,.f,.f,.f,.f,.f,.f,.f,.f,.f,.f,.f,.f,.f,.f,.f,.f,.f,.f,.f,.f,.f,.f,.f,.f,.f,.f,.f,.f,.f,.f,.f,.f] (fun k=>[(5, .one (.arr 0)),(15,aa .i64 k)]) (fun k=>[.arr 4 ((mJ f (s.items.take k)).map XItem.e)]) rfl ?_ ?_ ?_
 ·exact Kn.of [1] (by decide) (by simp[show mJ f []=[]from rfl]) (by simp)
 ·intro k hk
  have hx:=XItem.e.eq_1 s.items[k]
  have hkk:=hok _ (List.getElem_mem hk)
  have hkL:=XItem.Ok.mono hB hkk
  have f1:=f8 (r:=s.items[k].rcd) hkL.2.1 f
  have f2:=qx hB1 hkk
  have hol:=Nat.le_trans (wj f (s.items.take k)) (by rw[List.length_take];exact Nat.min_le_left _ _)
  have hoo:∀y∈mJ f (s.items.take k),y.Ok B:=fun y hy=>hok y (List.mem_of_mem_take (wm hy))
  try dsimp only
  rw[EU hk]
  generalize mJ f (s.items.take k)=out at hol hoo⊢
  unfold ky
  have hls:∀q(hq:q<out.length),_:=fun q hq=>Gl (f:=f) hkL (XItem.Ok.mono hB (hoo _ (List.getElem_mem hq)))
  have hgv:gN f s.items[k]=lI s.items[k].rcd.fs f:=rfl
  rw[hgv]
  generalize lI s.items[k].rcd.fs f=u at f1⊢
  obtain⟨u1,u2⟩:=u
  cases u2
  ·simp only[cond_false]
   simp(maxSteps:=9999999) [ie,hk,bW (n:=s.items.length) (by unfold maxLen;omega) hk,cB hk,hx,f1]
  ·simp only[cond_true]
   have hd1:=FM (f:=f) (x:=s.items[k]) (out:=out) out.length
   have hd2:=Bm (f:=f) (x:=s.items[k]) (out:=out) out.length (Nat.le_refl _)
   have hd3:=Bn (f:=f) (x:=s.items[k]) (out:=out) out.length (Nat.le_refl _)
   have hm:=EV out s.items[k] (NH f s.items[k] out out.length)
   rw[hm,hx]
   clear hm
   have m1:=iz (m:=out.length+1) (z:=56) (by omega) (by omega)
   generalize NH f s.items[k] out out.length=d at hd1 hd2 hd3⊢
   simp(maxSteps:=9999999) [ie,hk,bW (n:=s.items.length) (by unfold maxLen;omega) hk,cB hk,hx,f1]
   refine Nc cC Cl.kn (out.length-d) [.f,.t,.f,.f,.f,.t,.f,.t,.f,.f,.t,.f,.f,.t,.t,.t,.f,.f,.f,.f,.f,.f,.f,.f,.f,.f,.f,.f,.f,.f,.f,.f,.f,.f,.f,.f,.f,.f,.f,.f,.f,.f,.f,.f,.f,.f,.f,.f,.f,.f,.f,.f] (fun j=>[(10,aa .i64 ((out.length-j:Nat):Int))]) (fun _=>[.arr 4 (out.map XItem.e), .box [.pv (.int .i64 s.items[k].key.kind), .pv (.int .i64 s.items[k].key.n), .pv (.str s.items[k].key.text), .pv (.lst (s.items[k].rcd.fs.map XField.e))]]) 2 rfl ?_ ?_ ?_ ?_
   ·simp
   ·intro j hj
    obtain⟨q,hq⟩:∃q,out.length-j=q+1:=⟨out.length-j-1,by omega⟩
    have hq1:out.length-(j+1)=q:=by omega
    have hqo:q<out.length:=by omega
    have l1:=hls q hqo
    rw[hd2 q (by omega) hqo hqo]at l1
    have hy:=XItem.e.eq_1 out[q]
    have w4:bX 0 ((q:Int)+1)=true:=dW (by omega)
    have w5:IntKind.i64.wrap ((q:Int)+1-1)=(q:Int):=by rw[IntKind.wrap_i64];omega
    have w6:IntKind.i64.wrap (q:Int)=(q:Int):=by rw[IntKind.wrap_i64];omega
    try dsimp only
    rw[hq,hq1]
    clear hd2 hd3
    simp(maxSteps:=9999999) [fU,hk,hx,hy,hqo,l1,w4,w5,w6]
   ·have hz:out.length-(out.length-d)=d:=by omega
    try dsimp only
    rw[hz]
    cases d with
    |zero=>
     simp(maxSteps:=9999999) [fU,show bX 0 0=false from rfl]
    |succ q=>
     obtain⟨hqo,hlq⟩:=hd3 q rfl
     have l1:=hls q hqo
     rw[hlq]at l1
     have hy:=XItem.e.eq_1 out[q]
     have w4:bX 0 ((q:Int)+1)=true:=dW (by omega)
     have w5:IntKind.i64.wrap ((q:Int)+1-1)=(q:Int):=by rw[IntKind.wrap_i64];omega
     have w6:IntKind.i64.wrap (q:Int)=(q:Int):=by rw[IntKind.wrap_i64];omega
     simp(maxSteps:=9999999) [fU,hk,hx,hy,hqo,l1,w4,w5,w6]
   ·have hz:out.length-(out.length-d)=d:=by omega
    try dsimp only
    rw[hz]
    have hdi:(d:Int)≤(out.length:Int):=by omega
    simp(maxSteps:=9999999) [f2,hk,hx,bW (n:=s.items.length) (by unfold maxLen;omega) hk,hd1,hdi,m1,-cy]
    exact Kn.of [4] (by decide) (by simp) (by simp)
 ·try dsimp only
  rw[List.take_length]
  simp(maxSteps:=9999999) [ie]
theorem AM {B:Nat}(hB1:B≤1048576){s:XStore}(h:s.Ok B)(f:List UInt8):ah Ph aN 409 [s.v,dv f]=some (.one (.own 4 ((mJ f s.items).map XItem.e))):=by
 have hB:B≤maxLen:=by unfold maxLen;omega
 have hl:s.items.length≤1048576:=Nat.le_trans h.2.1.1 hB1
 have hok:=h.2.1.2
 refine ae (fn:=oG) rfl ?_
 simp(maxSteps:=9999999) [oG]
 refine kj cC Cl.fin s.items.length [.f,.t,.t,.f,.f,.t,.t,.f,.f,.f,.f,.f,.f,.f,.f,.f,.f,.f,.f,.f,.f,.f,.f,.f,.f,.f,.f,.f,.f,.f,.f,.f,.f,.f,.f,.f,.f,.f,.f,.f,.f,.f,.f,.f,.f,.f,.f,.f,.f,.f,.f,.f,.f,.f,.f,.f,.f,.f,.f,.f,.f,.f,.f,.f,.f,.f,.f,.f,.f,.f,.f,.f] (fun k=>[(5, .one (.arr 1)),(6,aa .i64 k)]) (fun k=>[.box [.pv (.str s.name), .pv (.lst (s.items.map XItem.e)), .pv (.int .i64 s.auto)], .arr 4 ((mJ f (s.items.take k)).map XItem.e)]) rfl ?_ ?_ ?_
 ·exact Kn.of [0,1] (by decide) (by simp[show mJ f []=[]from rfl]) (by simp)
 ·intro k hk
  have hx:=XItem.e.eq_1 s.items[k]
  have hkk:=hok _ (List.getElem_mem hk)
  have hkL:=XItem.Ok.mono hB hkk
  have f1:=gh (r:=s.items[k].rcd) hkL.2.1 f
  have f2:=oV hB1 hkk
  have hol:=Nat.le_trans (wj f (s.items.take k)) (by rw[List.length_take];exact Nat.min_le_left _ _)
  have hoo:∀y∈mJ f (s.items.take k),y.Ok B:=fun y hy=>hok y (List.mem_of_mem_take (wm hy))
  try dsimp only
  rw[EU hk]
  generalize mJ f (s.items.take k)=out at hol hoo⊢
  unfold ky
  have hls:∀q(hq:q<out.length),_:=fun q hq=>GY (f:=f) hkL (XItem.Ok.mono hB (hoo _ (List.getElem_mem hq)))
  have hgv:gN f s.items[k]=lI s.items[k].rcd.fs f:=rfl
  rw[hgv]
  generalize lI s.items[k].rcd.fs f=u at f1⊢
  obtain⟨u1,u2⟩:=u
  cases u2
  ·simp only[cond_false]
   simp(maxSteps:=9999999) [ig,hk,bW (n:=s.items.length) (by unfold maxLen;omega) hk,cB hk,hx,f1]
  ·simp only[cond_true]
   have hd1:=FM (f:=f) (x:=s.items[k]) (out:=out) out.length
   have hd2:=Bm (f:=f) (x:=s.items[k]) (out:=out) out.length (Nat.le_refl _)
   have hd3:=Bn (f:=f) (x:=s.items[k]) (out:=out) out.length (Nat.le_refl _)
   have hm:=EV out s.items[k] (NH f s.items[k] out out.length)
   rw[hm,hx]
   clear hm
   have m1:=iz (m:=out.length+1) (z:=56) (by omega) (by omega)
   generalize NH f s.items[k] out out.length=d at hd1 hd2 hd3⊢
   simp(maxSteps:=9999999) [ig,hk,bW (n:=s.items.length) (by unfold maxLen;omega) hk,cB hk,hx,f1]
   refine Nc cC Cl.kn (out.length-d) [.f,.t,.t,.f,.f,.t,.t,.f,.f,.t,.f,.f,.f,.f,.f,.f,.f,.f,.f,.f,.f,.f,.f,.f,.f,.f,.f,.f,.f,.f,.f,.f,.f,.f,.f,.f,.f,.f,.f,.f,.f,.f,.f,.f,.f,.f,.f,.f,.f,.f,.f,.f,.f,.f,.f,.f,.f,.f,.f,.f,.f,.f,.f,.f,.f,.f,.f,.f,.f,.f,.f,.f] (fun j=>[(9,aa .i64 ((out.length-j:Nat):Int))]) (fun _=>[.box [.pv (.str s.name), .pv (.lst (s.items.map XItem.e)), .pv (.int .i64 s.auto)], .arr 4 (out.map XItem.e)]) 2 rfl ?_ ?_ ?_ ?_
   ·simp
   ·intro j hj
    obtain⟨q,hq⟩:∃q,out.length-j=q+1:=⟨out.length-j-1,by omega⟩
    have hq1:out.length-(j+1)=q:=by omega
    have hqo:q<out.length:=by omega
    have l1:=hls q hqo
    rw[hd2 q (by omega) hqo hqo]at l1
    have hy:=XItem.e.eq_1 out[q]
    have w4:bX 0 ((q:Int)+1)=true:=dW (by omega)
    have w5:IntKind.i64.wrap ((q:Int)+1-1)=(q:Int):=by rw[IntKind.wrap_i64];omega
    have w6:IntKind.i64.wrap (q:Int)=(q:Int):=by rw[IntKind.wrap_i64];omega
    try dsimp only
    rw[hq,hq1]
    clear hd2 hd3
    simp(maxSteps:=9999999) [fX,hk,hx,hy,hqo,l1,w4,w5,w6]
   ·have hz:out.length-(out.length-d)=d:=by omega
    try dsimp only
    rw[hz]
    cases d with
    |zero=>
     simp(maxSteps:=9999999) [fX,show bX 0 0=false from rfl]
    |succ q=>
     obtain⟨hqo,hlq⟩:=hd3 q rfl
     have l1:=hls q hqo
     rw[hlq]at l1
     have hy:=XItem.e.eq_1 out[q]
     have w4:bX 0 ((q:Int)+1)=true:=dW (by omega)
     have w5:IntKind.i64.wrap ((q:Int)+1-1)=(q:Int):=by rw[IntKind.wrap_i64];omega
     have w6:IntKind.i64.wrap (q:Int)=(q:Int):=by rw[IntKind.wrap_i64];omega
     simp(maxSteps:=9999999) [fX,hk,hx,hy,hqo,l1,w4,w5,w6]
   ·have hz:out.length-(out.length-d)=d:=by omega
    try dsimp only
    rw[hz]
    have hdi:(d:Int)≤(out.length:Int):=by omega
    have t1:((out.map XItem.e).take d).all (fun e=>e.length==4)=true:=by rw[←List.map_take];exact gS (e:=XItem.e) (z:=4) (fun _=>rfl) _
    have t2:((out.map XItem.e).drop d).all (fun e=>e.length==4)=true:=by rw[←List.map_drop];exact gS (e:=XItem.e) (z:=4) (fun _=>rfl) _
    have t3:=gS (e:=XItem.e) (z:=4) (fun _=>rfl) out
    have n1:min d out.length=d:=Nat.min_eq_left hd1
    have n3:d+1+(out.length-d)=out.length+1:=by omega
    have m2:=iz (m:=d+1) (z:=56) (by omega) (by omega)
    have m3:=iz (m:=d) (z:=56) (by omega) (by omega)
    have n4:List.take (out.length-d) (List.drop d (List.map XItem.e out))=List.drop d (List.map XItem.e out):=List.take_of_length_le (by simp)
    simp(maxSteps:=9999999) [n4,f2,hk,hx,bW (n:=s.items.length) (by unfold maxLen;omega) hk,hd1,hdi,t1,t2,t3,n1,n3,m1,m2,m3,-cy]
    exact Kn.of [0,7] (by decide) (by simp) (by simp)
 ·try dsimp only
  rw[List.take_length]
  simp(maxSteps:=9999999) [ig]
theorem tT {B:Nat}(hB1:B≤1048576){s:XStore}(h:s.Ok B)(f:List UInt8):ah Ph aN 406 [s.v,dv f]=some (TD (QW f (mJ f s.items))):=by
 have hB:B≤maxLen:=by unfold maxLen;omega
 have e1:=AD hB1 h f
 have hll:=Nat.le_trans (wj f s.items) (Nat.le_trans h.2.1.1 hB1)
 have hoo:∀y∈mJ f s.items,y.Ok maxLen:=fun y hy=>XItem.Ok.mono hB (h.2.1.2 y (wm hy))
 refine ae (fn:=kN) rfl ?_
 generalize mJ f s.items=l at e1 hll hoo⊢
 unfold TD
 simp(maxSteps:=9999999) [kN,e1]
 refine bD cC Cl.fin [.f,.t,.f,.f,.t,.t,.f,.t,.t,.f,.f,.f,.f,.f,.f,.f,.f,.f,.f,.f,.f,.f,.f,.f,.f,.f,.f,.f,.f,.f,.f,.f,.f,.f,.f,.f,.f,.f,.f,.f,.f,.f,.f,.f,.f,.f,.f,.f,.f,.f,.f,.f,.f,.f,.f,.f,.f,.f,.f] (fun k=>[(8,aa .i64 ((k:Int)+1))]) (l.length-1) (Q9 f l) rfl (by simp) (fun k hk hn=> ?_) (fun hp _=> ?_)
 ·have hk1:k+1<l.length:=by omega
  have hk0:k<l.length:=by omega
  obtain⟨i1,i2,i3,i4,i5,i6⟩:=Ob (n:=l.length) (by unfold maxLen;omega) hk1
  have f1:=f8 (r:=l[k].rcd) (hoo _ (List.getElem_mem hk0)).2.1 f
  have f2:=f8 (r:=l[k+1].rcd) (hoo _ (List.getElem_mem hk1)).2.1 f
  have hx:=XItem.e.eq_1 l[k]
  have hy:=XItem.e.eq_1 l[k+1]
  have hq:=J4 (f:=f) hk
  have hpe:=QV (f:=f) hk1
  unfold gN at hpe
  have ka:r8 l k=l[k].key:=by simp[r8,hk0]
  have kb:r8 l (k+1)=l[k+1].key:=by simp[r8,hk1]
  rw[hpe]
  rw[hpe,ka,kb]at hq
  generalize lI l[k].rcd.fs f=u at f1 hq⊢
  generalize lI l[k+1].rcd.fs f=v at f2 hq⊢
  cases hc:(u.1==v.1)
  ·simp(maxSteps:=9999999) [fu,hk0,hk1,hx,hy,i1,i2,i4,i5,i6,dW i6,f1,f2,hc]
  ·rw[hq hc hn]
   simp(maxSteps:=9999999) [fu,hk0,hk1,hx,hy,i1,i2,i4,i5,i6,dW i6,f1,f2,hc]
 ·rw[J3 hp]
  have hge:bX (((l.length-1:Nat):Int)+1) (l.length:Int)=false:=fK (by omega)
  simp(maxSteps:=9999999) [fu,hge]
theorem tY {B:Nat}(hB1:B≤1048576){s:XStore}(h:s.Ok B)(f:List UInt8):ah Ph aN 401 [s.v,dv f]=some (TD (QW f (mJ f s.items))):=by
 have hB:B≤maxLen:=by unfold maxLen;omega
 have e1:=AM hB1 h f
 have hll:=Nat.le_trans (wj f s.items) (Nat.le_trans h.2.1.1 hB1)
 have hoo:∀y∈mJ f s.items,y.Ok maxLen:=fun y hy=>XItem.Ok.mono hB (h.2.1.2 y (wm hy))
 refine ae (fn:=kU) rfl ?_
 generalize mJ f s.items=l at e1 hll hoo⊢
 unfold TD
 simp(maxSteps:=9999999) [kU,e1]
 refine bD cC Cl.fin [.f,.t,.f,.f,.t,.t,.f,.t,.t,.f,.f,.f,.f,.f,.f,.f,.f,.f,.f,.f,.f,.f,.f,.f,.f,.f,.f,.f,.f,.f,.f,.f,.f,.f,.f,.f,.f,.f,.f,.f,.f,.f,.f,.f,.f,.f,.f,.f,.f,.f,.f,.f,.f,.f,.f,.f,.f,.f,.f] (fun k=>[(8,aa .i64 ((k:Int)+1))]) (l.length-1) (Q9 f l) rfl (by simp) (fun k hk hn=> ?_) (fun hp _=> ?_)
 ·have hk1:k+1<l.length:=by omega
  have hk0:k<l.length:=by omega
  obtain⟨i1,i2,i3,i4,i5,i6⟩:=Ob (n:=l.length) (by unfold maxLen;omega) hk1
  have f1:=gh (r:=l[k].rcd) (hoo _ (List.getElem_mem hk0)).2.1 f
  have f2:=gh (r:=l[k+1].rcd) (hoo _ (List.getElem_mem hk1)).2.1 f
  have hx:=XItem.e.eq_1 l[k]
  have hy:=XItem.e.eq_1 l[k+1]
  have hq:=J4 (f:=f) hk
  have hpe:=QV (f:=f) hk1
  unfold gN at hpe
  have ka:r8 l k=l[k].key:=by simp[r8,hk0]
  have kb:r8 l (k+1)=l[k+1].key:=by simp[r8,hk1]
  rw[hpe]
  rw[hpe,ka,kb]at hq
  generalize lI l[k].rcd.fs f=u at f1 hq⊢
  generalize lI l[k+1].rcd.fs f=v at f2 hq⊢
  cases hc:(u.1==v.1)
  ·simp(maxSteps:=9999999) [fv,hk0,hk1,hx,hy,i1,i2,i4,i5,i6,dW i6,f1,f2,hc]
  ·rw[hq hc hn]
   simp(maxSteps:=9999999) [fv,hk0,hk1,hx,hy,i1,i2,i4,i5,i6,dW i6,f1,f2,hc]
 ·rw[J3 hp]
  have hge:bX (((l.length-1:Nat):Int)+1) (l.length:Int)=false:=fK (by omega)
  simp(maxSteps:=9999999) [fv,hge]
end Gi
