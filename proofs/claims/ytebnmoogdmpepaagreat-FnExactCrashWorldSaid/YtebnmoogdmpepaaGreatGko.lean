/- Of this proof. -/
import Derived.Test.YtebnmoogdmpepaaGreatGkh
set_option linter.unusedSimpArgs false
set_option linter.unusedVariables false
namespace Gi
open Go Go.RowKit
set_option maxHeartbeats 8000000
set_option maxRecDepth 4000
attribute [local simp] start rB bj cf dG fp dF fo fx fw tJ tT tK tU tL tV tM tW tN tX tO tY tP tZ tQ t6 tR t7 V.cells plain bo gn isInt isStr isBool bin cC iT cD iU fq un asList L.view am V.view viewL aY ar cH bP bM comp aJ bH df bY bz bw bx bG bc ca aN bB aT aO bE cd bD bA bF V.flat L.flat dO di bv putAt thaw thawL thawT V.ow fv dK dL cE fu cF dJ freezeVs freezeLs freezeL V.mut L.mut aG ez ie aW bm aF dz bL bf bS L.ren aV dA ce dM bO bh wp_seq wp_block bt dP cI bR cJ wp_skip wp_exit wp_ret cA cy cP cB cW cX cV bX aM L.notArr aS aQ aR dN bp storeD aX fD br ct bd m9 L.mov L.closed V.closed PV.bare PV.flat
def gN (f:List UInt8)(x:XItem):Int×Bool:=qx x.rcd.fs f
def wh (f:List UInt8)(a b:XItem):Bool:=cQ (gN f a).1 (gN f b).1||((gN f a).1==(gN f b).1&&cQ (Pf a.key b.key) 0)
def Pm (f:List UInt8)(x:XItem)(out:List XItem):Nat→Nat
 |0=>0
 |n+1=>match out[n]? with
  |none=>n+1
  |some y=>cond (wh f x y) (Pm f x out n) (n+1)
theorem IC {f:List UInt8}{x:XItem}{out:List XItem}:∀n,Pm f x out n≤n
 |0=>Zl _
 |n+1=>by
  unfold Pm
  cases out[n]? with
  |none=>exact Zl _
  |some y=>
   cases h:wh f x y with
   |true=>simp only[h,cond_true];exact Nat.le_succ_of_le (IC n)
   |false=>simp only[h,cond_false];exact Zl _
theorem DZ {f:List UInt8}{x:XItem}{out:List XItem}:∀n,n≤out.length→∀p,Pm f x out n≤p→∀(hp:p<n)(ho:p<out.length),wh f x out[p]=true
 |0,_,p,_,hp,_=>by omega
 |n+1,hn,p,h,hp,ho=>by
  unfold Pm at h
  have hn':n<out.length:=by omega
  rw[Zr hn']at h
  simp only at h
  cases q:wh f x out[n]with
  |true=>
   rw[q,cond_true]at h
   by_cases e:p=n
   ·subst e;exact q
   ·exact DZ n (by omega) p h (by omega) ho
  |false=>rw[q,cond_false]at h;omega
theorem D0 {f:List UInt8}{x:XItem}{out:List XItem}:∀n,n≤out.length→∀j,Pm f x out n=j+1→∃h:j<out.length,wh f x out[j]=false
 |0,_,j,h=>by simp[Pm]at h
 |n+1,hn,j,h=>by
  unfold Pm at h
  have hn':n<out.length:=by omega
  rw[Zr hn']at h
  simp only at h
  cases q:wh f x out[n]with
  |true=>rw[q,cond_true]at h;exact D0 n (by omega) j h
  |false=>
   rw[q,cond_false]at h
   obtain rfl:n=j:=by omega
   exact⟨hn',q⟩
def Ff (out:List XItem)(x:XItem)(p:Nat):List XItem:=out.take p++x::out.drop p
def lc (f:List UInt8)(out:List XItem)(x:XItem):List XItem:=cond (gN f x).2 (Ff out x (Pm f x out out.length)) out
def nM (f:List UInt8)(xs:List XItem):List XItem:=xs.foldl (lc f) []
theorem HN {f:List UInt8}{xs:List XItem}{k:Nat}(hk:k<xs.length):nM f (xs.take (k+1))=lc f (nM f (xs.take k)) xs[k]:=by
 unfold nM
 rw[Z5 hk,List.foldl_append]
 rfl
theorem HO (out:List XItem)(x:XItem)(p:Nat):(Ff out x p).map XItem.e=(out.map XItem.e).take p++x.e::(out.map XItem.e).drop p:=by simp[Ff,List.map_take,List.map_drop]
theorem PQ {out:List XItem}{x y:XItem}{p:Nat}(h:y∈Ff out x p):y=x∨y∈out:=by
 unfold Ff at h
 rcases Yw.1 h with h|h
 ·exact .inr (Z9 h)
 ·rcases Yh.1 h with h|h
  ·exact .inl h
  ·exact .inr (List.mem_of_mem_drop h)
theorem PP (out:List XItem)(x:XItem){p:Nat}(h:p≤out.length):(Ff out x p).length=out.length+1:=by simp[Ff];omega
theorem KZ {f:List UInt8}{out:List XItem}{x y:XItem}(h:y∈lc f out x):y=x∨y∈out:=by
 unfold lc at h
 cases q:(gN f x).2 with
 |true=>rw[q,cond_true]at h;exact PQ h
 |false=>rw[q,cond_false]at h;exact .inr h
theorem v6 {f:List UInt8}:∀(xs out:List XItem)(y:XItem),y∈xs.foldl (lc f) out→y∈xs∨y∈out
 |[],out,y,h=> .inr h
 |x::xs,out,y,h=>by
  rcases v6 xs (lc f out x) y h with h|h
  ·exact .inl (Y5 _ h)
  ·rcases KZ h with rfl|h
   ·exact .inl List.mem_cons_self
   ·exact .inr h
theorem yJ {f:List UInt8}{xs:List XItem}{y:XItem}(h:y∈nM f xs):y∈xs:=by
 rcases v6 xs [] y h with h|h
 ·exact h
 ·cases h
theorem KY {f:List UInt8}{out:List XItem}{x:XItem}:(lc f out x).length≤out.length+1:=by
 unfold lc
 cases(gN f x).2 with
 |true=>rw[cond_true,PP _ _ (IC _)];exact Zl _
 |false=>rw[cond_false];omega
theorem v5 {f:List UInt8}:∀(xs out:List XItem),(xs.foldl (lc f) out).length≤out.length+xs.length
 |[],out=>by simp
 |x::xs,out=>by
  have h1:=v5 (f:=f) xs (lc f out x)
  have h2:=KY (f:=f) (out:=out) (x:=x)
  simp only[List.foldl_cons,Zn]
  omega
theorem yI (f:List UInt8)(xs:List XItem):(nM f xs).length≤xs.length:=by
 have:=v5 (f:=f) xs []
 simpa[nM]using this
def tv (l:List XItem)(k:Nat):XKey:=match l[k]? with
 |some x=>x.key
 |none=>⟨0,0,[]⟩
def Su (f:List UInt8)(l:List XItem)(k:Nat):Bool:=match l[k]?,l[k+1]? with
 |some a,some b=>(gN f a).1==(gN f b).1
 |_,_=>false
theorem Sf {f:List UInt8}{l:List XItem}{k:Nat}(hk:k+1<l.length):Su f l k=((gN f (l[k]'(by omega))).1==(gN f l[k+1]).1):=by
 have:k<l.length:=by omega
 simp[Su,hk,this]
def Sg (f:List UInt8)(l:List XItem):XKey×XKey×Bool:=match(List.range (l.length-1)).find? (Su f l)with
 |some k=>(tv l k,tv l (k+1),true)
 |none=>(⟨0,0,[]⟩,⟨0,0,[]⟩,false)
theorem Ma {f:List UInt8}{l:List XItem}{k:Nat}(hk:k<l.length-1)(h:Su f l k=true)(hn:∀j,j<k→Su f l j=false):Sg f l=(tv l k,tv l (k+1),true):=by
 have:(List.range (l.length-1)).find? (Su f l)=some k:=by
  rw[List.find?_range_eq_some]
  exact⟨h,List.mem_range.2 hk,fun j hj=>by simp[hn j hj]⟩
 simp only[Sg,this]
theorem L9 {f:List UInt8}{l:List XItem}(hn:∀j,j<l.length-1→Su f l j=false):Sg f l=(⟨0,0,[]⟩,⟨0,0,[]⟩,false):=by
 have:(List.range (l.length-1)).find? (Su f l)=none:=by
  rw[List.find?_range_eq_none]
  exact fun j hj=>by simp[hn j hj]
 simp only[Sg,this]
def Uv (t:XKey×XKey×Bool):V:= .tup [(true,[.pv (.int .i64 t.1.kind), .pv (.int .i64 t.1.n), .pv (.str t.1.text)]),(true,[.pv (.int .i64 t.2.1.kind), .pv (.int .i64 t.2.1.n), .pv (.str t.2.1.text)]),(false,[.pv (.bool t.2.2)])]
section
variable {B:Nat}{f:List UInt8}
theorem I7 {f:List UInt8}{a b:XItem}(ha:a.Ok maxLen)(hb:b.Ok maxLen):ah Ph au 415 [a.v,b.v,f9 f]=some (av (wh f a b)):=by
 have e1:=iN ha.2.1 f
 have e2:=iN hb.2.1 f
 have e3:=o4 ha.1 hb.1
 unfold wh gN
 generalize qx a.rcd.fs f=u at e1⊢
 generalize qx b.rcd.fs f=v at e2⊢
 obtain⟨w,hw⟩:∃w,(u.1==v.1)=w:=⟨_,rfl⟩
 rw[hw]
 refine ae (fn:=lJ) rfl ?_
 simp +contextual (maxSteps:=9999999) [lJ,e1,e2,e3,hw]
theorem Jk {f:List UInt8}{a b:XItem}(ha:a.Ok maxLen)(hb:b.Ok maxLen):ah Ph au 414 [a.v,b.v,f9 f]=some (av (wh f a b)):=by
 have e1:=iP ha.2.1 f
 have e2:=iP hb.2.1 f
 have e3:=o6 ha.1 hb.1
 unfold wh gN
 generalize qx a.rcd.fs f=u at e1⊢
 generalize qx b.rcd.fs f=v at e2⊢
 obtain⟨w,hw⟩:∃w,(u.1==v.1)=w:=⟨_,rfl⟩
 rw[hw]
 refine ae (fn:=rl) rfl ?_
 simp +contextual (maxSteps:=9999999) [rl,e1,e2,e3,hw]
end
theorem C7 {B:Nat}(hB1:B≤1048576){s:XStore}(h:s.Ok B)(f:List UInt8):ah Ph au 413 [s.v,f9 f]=some (.one (.own 4 ((nM f s.items).map XItem.e))):=by
 have hB:B≤maxLen:=by unfold maxLen;omega
 have hl:s.items.length≤1048576:=Zc h.2.1.1 hB1
 have hok:=h.2.1.2
 refine ae (fn:=pF) rfl ?_
 simp(maxSteps:=9999999) [pF]
 refine cO aU Cl.fin s.items.length [.f,.t,.f,.f,.f,.t,.f,.f,.f,.f,.f,.f,.f,.t,.t,.t,.f,.f,.f,.f,.f,.f,.f,.f,.f,.f,.f,.f,.f,.f,.f,.f,.f,.f,.f,.f,.f,.f,.f,.f,.f,.f,.f,.f,.f,.f,.f,.f,.f,.f,.f,.f] (fun k=>[(5, .one (.arr 0)),(15,aa .i64 k)]) (fun k=>[.arr 4 ((nM f (s.items.take k)).map XItem.e)]) rfl ?_ ?_ ?_
 ·exact Kn.of [1] (by decide) (by simp[show nM f []=[]from rfl]) (by simp)
 ·intro k hk
  have hx:=XItem.e.eq_1 s.items[k]
  have hkk:=hok _ (Zg hk)
  have hkL:=XItem.Ok.mono hB hkk
  have f1:=iN (r:=s.items[k].rcd) hkL.2.1 f
  have f2:=r7 hB1 hkk
  have hol:=Zc (yI f (s.items.take k)) (by rw[Zy];exact Nat.min_le_left _ _)
  have hoo:∀y∈nM f (s.items.take k),y.Ok B:=fun y hy=>hok y (Z9 (yJ hy))
  try dsimp only
  rw[HN hk]
  generalize nM f (s.items.take k)=out at hol hoo⊢
  unfold lc
  have hls:∀q(hq:q<out.length),_:=fun q hq=>I7 (f:=f) hkL (XItem.Ok.mono hB (hoo _ (Zg hq)))
  have hgv:gN f s.items[k]=qx s.items[k].rcd.fs f:=rfl
  rw[hgv]
  generalize qx s.items[k].rcd.fs f=u at f1⊢
  obtain⟨u1,u2⟩:=u
  cases u2
  ·simp only[cond_false]
   simp(maxSteps:=9999999) [iA,hk,aE (n:=s.items.length) (by unfold maxLen;omega) hk,aZ hk,hx,f1]
  ·simp only[cond_true]
   have hd1:=IC (f:=f) (x:=s.items[k]) (out:=out) out.length
   have hd2:=DZ (f:=f) (x:=s.items[k]) (out:=out) out.length (Zl _)
   have hd3:=D0 (f:=f) (x:=s.items[k]) (out:=out) out.length (Zl _)
   have hm:=HO out s.items[k] (Pm f s.items[k] out out.length)
   rw[hm,hx]
   clear hm
   have m1:=ew (m:=out.length+1) (z:=56) (by omega) (by omega)
   generalize Pm f s.items[k] out out.length=d at hd1 hd2 hd3⊢
   simp(maxSteps:=9999999) [iA,hk,aE (n:=s.items.length) (by unfold maxLen;omega) hk,aZ hk,hx,f1]
   refine OP aU Cl.kn (out.length-d) [.f,.t,.f,.f,.f,.t,.f,.t,.f,.f,.t,.f,.f,.t,.t,.t,.f,.f,.f,.f,.f,.f,.f,.f,.f,.f,.f,.f,.f,.f,.f,.f,.f,.f,.f,.f,.f,.f,.f,.f,.f,.f,.f,.f,.f,.f,.f,.f,.f,.f,.f,.f] (fun j=>[(10,aa .i64 ((out.length-j:Nat):Int))]) (fun _=>[.arr 4 (out.map XItem.e), .box [.pv (.int .i64 s.items[k].key.kind), .pv (.int .i64 s.items[k].key.n), .pv (.str s.items[k].key.text), .pv (.lst (s.items[k].rcd.fs.map XField.e))]]) 2 rfl ?_ ?_ ?_ ?_
   ·simp
   ·intro j hj
    obtain⟨q,hq⟩:∃q,out.length-j=q+1:=⟨out.length-j-1,by omega⟩
    have hq1:out.length-(j+1)=q:=by omega
    have hqo:q<out.length:=by omega
    have l1:=hls q hqo
    rw[hd2 q (by omega) hqo hqo]at l1
    have hy:=XItem.e.eq_1 out[q]
    have w4:cQ 0 ((q:Int)+1)=true:=hY (by omega)
    have w5:IntKind.i64.wrap ((q:Int)+1-1)=(q:Int):=by rw[IntKind.wrap_i64];omega
    have w6:IntKind.i64.wrap (q:Int)=(q:Int):=by rw[IntKind.wrap_i64];omega
    try dsimp only
    rw[hq,hq1]
    clear hd2 hd3
    simp(maxSteps:=9999999) [gy,hk,hx,hy,hqo,l1,w4,w5,w6]
   ·have hz:out.length-(out.length-d)=d:=by omega
    try dsimp only
    rw[hz]
    cases d with
    |zero=>
     simp(maxSteps:=9999999) [gy,show cQ 0 0=false from rfl]
    |succ q=>
     obtain⟨hqo,hlq⟩:=hd3 q rfl
     have l1:=hls q hqo
     rw[hlq]at l1
     have hy:=XItem.e.eq_1 out[q]
     have w4:cQ 0 ((q:Int)+1)=true:=hY (by omega)
     have w5:IntKind.i64.wrap ((q:Int)+1-1)=(q:Int):=by rw[IntKind.wrap_i64];omega
     have w6:IntKind.i64.wrap (q:Int)=(q:Int):=by rw[IntKind.wrap_i64];omega
     simp(maxSteps:=9999999) [gy,hk,hx,hy,hqo,l1,w4,w5,w6]
   ·have hz:out.length-(out.length-d)=d:=by omega
    try dsimp only
    rw[hz]
    have hdi:(d:Int)≤(out.length:Int):=by omega
    simp(maxSteps:=9999999) [f2,hk,hx,aE (n:=s.items.length) (by unfold maxLen;omega) hk,hd1,hdi,m1,-ez]
    exact Kn.of [4] (by decide) (by simp) (by simp)
 ·try dsimp only
  rw[Yq]
  simp(maxSteps:=9999999) [iA]
theorem Dd {B:Nat}(hB1:B≤1048576){s:XStore}(h:s.Ok B)(f:List UInt8):ah Ph au 409 [s.v,f9 f]=some (.one (.own 4 ((nM f s.items).map XItem.e))):=by
 have hB:B≤maxLen:=by unfold maxLen;omega
 have hl:s.items.length≤1048576:=Zc h.2.1.1 hB1
 have hok:=h.2.1.2
 refine ae (fn:=pL) rfl ?_
 simp(maxSteps:=9999999) [pL]
 refine cO aU Cl.fin s.items.length [.f,.t,.t,.f,.f,.t,.t,.f,.f,.f,.f,.f,.f,.f,.f,.f,.f,.f,.f,.f,.f,.f,.f,.f,.f,.f,.f,.f,.f,.f,.f,.f,.f,.f,.f,.f,.f,.f,.f,.f,.f,.f,.f,.f,.f,.f,.f,.f,.f,.f,.f,.f,.f,.f,.f,.f,.f,.f,.f,.f,.f,.f,.f,.f,.f,.f,.f,.f,.f,.f,.f,.f] (fun k=>[(5, .one (.arr 1)),(6,aa .i64 k)]) (fun k=>[.box [.pv (.str s.name), .pv (.lst (s.items.map XItem.e)), .pv (.int .i64 s.auto)], .arr 4 ((nM f (s.items.take k)).map XItem.e)]) rfl ?_ ?_ ?_
 ·exact Kn.of [0,1] (by decide) (by simp[show nM f []=[]from rfl]) (by simp)
 ·intro k hk
  have hx:=XItem.e.eq_1 s.items[k]
  have hkk:=hok _ (Zg hk)
  have hkL:=XItem.Ok.mono hB hkk
  have f1:=iP (r:=s.items[k].rcd) hkL.2.1 f
  have f2:=uU hB1 hkk
  have hol:=Zc (yI f (s.items.take k)) (by rw[Zy];exact Nat.min_le_left _ _)
  have hoo:∀y∈nM f (s.items.take k),y.Ok B:=fun y hy=>hok y (Z9 (yJ hy))
  try dsimp only
  rw[HN hk]
  generalize nM f (s.items.take k)=out at hol hoo⊢
  unfold lc
  have hls:∀q(hq:q<out.length),_:=fun q hq=>Jk (f:=f) hkL (XItem.Ok.mono hB (hoo _ (Zg hq)))
  have hgv:gN f s.items[k]=qx s.items[k].rcd.fs f:=rfl
  rw[hgv]
  generalize qx s.items[k].rcd.fs f=u at f1⊢
  obtain⟨u1,u2⟩:=u
  cases u2
  ·simp only[cond_false]
   simp(maxSteps:=9999999) [iB,hk,aE (n:=s.items.length) (by unfold maxLen;omega) hk,aZ hk,hx,f1]
  ·simp only[cond_true]
   have hd1:=IC (f:=f) (x:=s.items[k]) (out:=out) out.length
   have hd2:=DZ (f:=f) (x:=s.items[k]) (out:=out) out.length (Zl _)
   have hd3:=D0 (f:=f) (x:=s.items[k]) (out:=out) out.length (Zl _)
   have hm:=HO out s.items[k] (Pm f s.items[k] out out.length)
   rw[hm,hx]
   clear hm
   have m1:=ew (m:=out.length+1) (z:=56) (by omega) (by omega)
   generalize Pm f s.items[k] out out.length=d at hd1 hd2 hd3⊢
   simp(maxSteps:=9999999) [iB,hk,aE (n:=s.items.length) (by unfold maxLen;omega) hk,aZ hk,hx,f1]
   refine OP aU Cl.kn (out.length-d) [.f,.t,.t,.f,.f,.t,.t,.f,.f,.t,.f,.f,.f,.f,.f,.f,.f,.f,.f,.f,.f,.f,.f,.f,.f,.f,.f,.f,.f,.f,.f,.f,.f,.f,.f,.f,.f,.f,.f,.f,.f,.f,.f,.f,.f,.f,.f,.f,.f,.f,.f,.f,.f,.f,.f,.f,.f,.f,.f,.f,.f,.f,.f,.f,.f,.f,.f,.f,.f,.f,.f,.f] (fun j=>[(9,aa .i64 ((out.length-j:Nat):Int))]) (fun _=>[.box [.pv (.str s.name), .pv (.lst (s.items.map XItem.e)), .pv (.int .i64 s.auto)], .arr 4 (out.map XItem.e)]) 2 rfl ?_ ?_ ?_ ?_
   ·simp
   ·intro j hj
    obtain⟨q,hq⟩:∃q,out.length-j=q+1:=⟨out.length-j-1,by omega⟩
    have hq1:out.length-(j+1)=q:=by omega
    have hqo:q<out.length:=by omega
    have l1:=hls q hqo
    rw[hd2 q (by omega) hqo hqo]at l1
    have hy:=XItem.e.eq_1 out[q]
    have w4:cQ 0 ((q:Int)+1)=true:=hY (by omega)
    have w5:IntKind.i64.wrap ((q:Int)+1-1)=(q:Int):=by rw[IntKind.wrap_i64];omega
    have w6:IntKind.i64.wrap (q:Int)=(q:Int):=by rw[IntKind.wrap_i64];omega
    try dsimp only
    rw[hq,hq1]
    clear hd2 hd3
    simp(maxSteps:=9999999) [gB,hk,hx,hy,hqo,l1,w4,w5,w6]
   ·have hz:out.length-(out.length-d)=d:=by omega
    try dsimp only
    rw[hz]
    cases d with
    |zero=>
     simp(maxSteps:=9999999) [gB,show cQ 0 0=false from rfl]
    |succ q=>
     obtain⟨hqo,hlq⟩:=hd3 q rfl
     have l1:=hls q hqo
     rw[hlq]at l1
     have hy:=XItem.e.eq_1 out[q]
     have w4:cQ 0 ((q:Int)+1)=true:=hY (by omega)
     have w5:IntKind.i64.wrap ((q:Int)+1-1)=(q:Int):=by rw[IntKind.wrap_i64];omega
     have w6:IntKind.i64.wrap (q:Int)=(q:Int):=by rw[IntKind.wrap_i64];omega
     simp(maxSteps:=9999999) [gB,hk,hx,hy,hqo,l1,w4,w5,w6]
   ·have hz:out.length-(out.length-d)=d:=by omega
    try dsimp only
    rw[hz]
    have hdi:(d:Int)≤(out.length:Int):=by omega
    have t1:((out.map XItem.e).take d).all (fun e=>e.length==4)=true:=by rw[←List.map_take];exact dQ (e:=XItem.e) (z:=4) (fun _=>rfl) _
    have t2:((out.map XItem.e).drop d).all (fun e=>e.length==4)=true:=by rw[←List.map_drop];exact dQ (e:=XItem.e) (z:=4) (fun _=>rfl) _
    have t3:=dQ (e:=XItem.e) (z:=4) (fun _=>rfl) out
    have n1:min d out.length=d:=Xh hd1
    have n3:d+1+(out.length-d)=out.length+1:=by omega
    have m2:=ew (m:=d+1) (z:=56) (by omega) (by omega)
    have m3:=ew (m:=d) (z:=56) (by omega) (by omega)
    have n4:List.take (out.length-d) (List.drop d (List.map XItem.e out))=List.drop d (List.map XItem.e out):=Zt (by simp)
    simp(maxSteps:=9999999) [n4,f2,hk,hx,aE (n:=s.items.length) (by unfold maxLen;omega) hk,hd1,hdi,t1,t2,t3,n1,n3,m1,m2,m3,-ez]
    exact Kn.of [0,7] (by decide) (by simp) (by simp)
 ·try dsimp only
  rw[Yq]
  simp(maxSteps:=9999999) [iB]
theorem vK {B:Nat}(hB1:B≤1048576){s:XStore}(h:s.Ok B)(f:List UInt8):ah Ph au 406 [s.v,f9 f]=some (Uv (Sg f (nM f s.items))):=by
 have hB:B≤maxLen:=by unfold maxLen;omega
 have e1:=C7 hB1 h f
 have hll:=Zc (yI f s.items) (Zc h.2.1.1 hB1)
 have hoo:∀y∈nM f s.items,y.Ok maxLen:=fun y hy=>XItem.Ok.mono hB (h.2.1.2 y (yJ hy))
 refine ae (fn:=lD) rfl ?_
 generalize nM f s.items=l at e1 hll hoo⊢
 unfold Uv
 simp(maxSteps:=9999999) [lD,e1]
 refine aC aU Cl.fin [.f,.t,.f,.f,.t,.t,.f,.t,.t,.f,.f,.f,.f,.f,.f,.f,.f,.f,.f,.f,.f,.f,.f,.f,.f,.f,.f,.f,.f,.f,.f,.f,.f,.f,.f,.f,.f,.f,.f,.f,.f,.f,.f,.f,.f,.f,.f,.f,.f,.f,.f,.f,.f,.f,.f,.f,.f,.f,.f] (fun k=>[(8,aa .i64 ((k:Int)+1))]) (l.length-1) (Su f l) rfl (by simp) (fun k hk hn=> ?_) (fun hp _=> ?_)
 ·have hk1:k+1<l.length:=by omega
  have hk0:k<l.length:=by omega
  obtain⟨i1,i2,i3,i4,i5,i6⟩:=od (n:=l.length) (by unfold maxLen;omega) hk1
  have f1:=iN (r:=l[k].rcd) (hoo _ (Zg hk0)).2.1 f
  have f2:=iN (r:=l[k+1].rcd) (hoo _ (Zg hk1)).2.1 f
  have hx:=XItem.e.eq_1 l[k]
  have hy:=XItem.e.eq_1 l[k+1]
  have hq:=Ma (f:=f) hk
  have hpe:=Sf (f:=f) hk1
  unfold gN at hpe
  have ka:tv l k=l[k].key:=by simp[tv,hk0]
  have kb:tv l (k+1)=l[k+1].key:=by simp[tv,hk1]
  rw[hpe]
  rw[hpe,ka,kb]at hq
  generalize qx l[k].rcd.fs f=u at f1 hq⊢
  generalize qx l[k+1].rcd.fs f=v at f2 hq⊢
  cases hc:(u.1==v.1)
  ·simp(maxSteps:=9999999) [fS,hk0,hk1,hx,hy,i1,i2,i4,i5,i6,hY i6,f1,f2,hc]
  ·rw[hq hc hn]
   simp(maxSteps:=9999999) [fS,hk0,hk1,hx,hy,i1,i2,i4,i5,i6,hY i6,f1,f2,hc]
 ·rw[L9 hp]
  have hge:cQ (((l.length-1:Nat):Int)+1) (l.length:Int)=false:=kQ (by omega)
  simp(maxSteps:=9999999) [fS,hge]
theorem vW {B:Nat}(hB1:B≤1048576){s:XStore}(h:s.Ok B)(f:List UInt8):ah Ph au 401 [s.v,f9 f]=some (Uv (Sg f (nM f s.items))):=by
 have hB:B≤maxLen:=by unfold maxLen;omega
 have e1:=Dd hB1 h f
 have hll:=Zc (yI f s.items) (Zc h.2.1.1 hB1)
 have hoo:∀y∈nM f s.items,y.Ok maxLen:=fun y hy=>XItem.Ok.mono hB (h.2.1.2 y (yJ hy))
 refine ae (fn:=lS) rfl ?_
 generalize nM f s.items=l at e1 hll hoo⊢
 unfold Uv
 simp(maxSteps:=9999999) [lS,e1]
 refine aC aU Cl.fin [.f,.t,.f,.f,.t,.t,.f,.t,.t,.f,.f,.f,.f,.f,.f,.f,.f,.f,.f,.f,.f,.f,.f,.f,.f,.f,.f,.f,.f,.f,.f,.f,.f,.f,.f,.f,.f,.f,.f,.f,.f,.f,.f,.f,.f,.f,.f,.f,.f,.f,.f,.f,.f,.f,.f,.f,.f,.f,.f] (fun k=>[(8,aa .i64 ((k:Int)+1))]) (l.length-1) (Su f l) rfl (by simp) (fun k hk hn=> ?_) (fun hp _=> ?_)
 ·have hk1:k+1<l.length:=by omega
  have hk0:k<l.length:=by omega
  obtain⟨i1,i2,i3,i4,i5,i6⟩:=od (n:=l.length) (by unfold maxLen;omega) hk1
  have f1:=iP (r:=l[k].rcd) (hoo _ (Zg hk0)).2.1 f
  have f2:=iP (r:=l[k+1].rcd) (hoo _ (Zg hk1)).2.1 f
  have hx:=XItem.e.eq_1 l[k]
  have hy:=XItem.e.eq_1 l[k+1]
  have hq:=Ma (f:=f) hk
  have hpe:=Sf (f:=f) hk1
  unfold gN at hpe
  have ka:tv l k=l[k].key:=by simp[tv,hk0]
  have kb:tv l (k+1)=l[k+1].key:=by simp[tv,hk1]
  rw[hpe]
  rw[hpe,ka,kb]at hq
  generalize qx l[k].rcd.fs f=u at f1 hq⊢
  generalize qx l[k+1].rcd.fs f=v at f2 hq⊢
  cases hc:(u.1==v.1)
  ·simp(maxSteps:=9999999) [fT,hk0,hk1,hx,hy,i1,i2,i4,i5,i6,hY i6,f1,f2,hc]
  ·rw[hq hc hn]
   simp(maxSteps:=9999999) [fT,hk0,hk1,hx,hy,i1,i2,i4,i5,i6,hY i6,f1,f2,hc]
 ·rw[L9 hp]
  have hge:cQ (((l.length-1:Nat):Int)+1) (l.length:Int)=false:=kQ (by omega)
  simp(maxSteps:=9999999) [fT,hge]
def QY (ss:List XStore)(k:Nat):Bool:=match ss[k]?,ss[k-1]? with
 |some x,some y=> !(mO x)||(cQ 0 k&& !(Op.bytesLess y.name x.name))
 |_,_=>false
def qg (a b:XIndexDef):Bool:=a.store==b.store&&a.field==b.field
theorem FG (a b:XIndexDef):qg a b=qg b a:=by unfold qg;rw[Bool.beq_comm (a:=a.store),Bool.beq_comm (a:=a.field)]
def Kq (us:List XIndexDef)(k:Nat):Bool:=match us[k]? with
 |some u=>gx k (iZ (qg u) us)
 |none=>false
def Gl (ss:List XStore)(us:List XIndexDef)(k:Nat):Bool:=match us[k]? with
 |some u=>match ss.find? (SZ u.store)with
  |some s=> !(dd u.field)||(Kq us k||(Sg u.field (nM u.field s.items)).2.2)
  |none=>true
 |none=>false
def MQ (d:XDatabase):Bool:=dd d.name&&(rg d.version 0 1000&&(!(cQ 4 d.stores.length)&&(!(cQ 4 d.unique.length)&&(!(gx d.stores.length (QY d.stores))&& !(gx d.unique.length (Gl d.stores d.unique))))))
theorem vp {α:Type}(p:α→Bool)(xs:List α):(gu p xs= -1∧xs.find? p=none)∨∃j,∃hj:j<xs.length,gu p xs=(j:Int)∧xs.find? p=some xs[j]:=by
 unfold gu
 cases h:xs.findIdx? p with
 |none=>exact .inl ⟨rfl,by rw[Y9]at h;rw[List.find?_eq_none];exact fun x hx=>by simp[h x hx]⟩
 |some i=>
  rw[Yg]at h
  obtain⟨h1,h2,h3⟩:=h
  refine .inr ⟨i,h1,rfl,?_⟩
  rw[Xr]
  exact⟨h2,i,h1,rfl,fun j hj=>by simpa using h3 j hj⟩
theorem PC {p:XIndexDef→Bool}{us:List XIndexDef}{k:Nat}(hk:k<us.length):(!(cQ (gu p (us.take k)) 0))=gx k (iZ p us):=by
 have at':∀j,j<k→iZ p (us.take k) j=iZ p us j:=fun j hj=>by simp[iZ,Z4,hj]
 rcases SK p (us.take k)with h|⟨j,hj,h1,h2⟩
 ·rw[h,hY (by omega)]
  refine(QQ fun j hj=> ?_).symm
  have hj2:j<(us.take k).length:=by simp;omega
  rw[←at' j hj]
  have:=SJ h _ (Zg hj2)
  simp only[iZ,Zr hj2];exact this
 ·have hj2:j<k:=by simp at hj;omega
  rw[h1,kQ (by omega)]
  refine(QR hj2 ?_).symm
  rw[←at' j hj2];simp only[iZ,Zr hj];exact h2
theorem Fb {us:List XIndexDef}(hl:us.length≤maxLen)(x:XIndexDef):ah Ph au 412 [ba (us.map XIndexDef.e),x.v]=some (aa .i64 (gu (qg x) us)):=by
 refine ae (fn:=dC) rfl ?_
 simp +contextual (maxSteps:=9999999) [dC]
 refine aC aU Cl.fin [.t,.f,.f,.t,.f,.f,.f,.t,.t,.f,.f,.f,.f,.f,.f,.f,.f,.f,.f] (fun k=>[(8,aa .i64 k)]) us.length (iZ (qg x) us) rfl (by simp) (fun k hk hj=> ?_) (fun hj _=> ?_)
 ·have hf:=xb hk hj
  simp +contextual (maxSteps:=9999999) [cq,iZ,qg,hk,hf,aE hl hk,aZ hk,XIndexDef.e.eq_1 us[k],qw,QD]
 ·simp +contextual (maxSteps:=9999999) [cq,AZ hj]
theorem yK {us:List XIndexDef}(hl:us.length≤maxLen)(x:XIndexDef):ah Ph au 405 [ba (us.map XIndexDef.e),x.v]=some (av (!(cQ (gu (qg x) us) 0))):=by
 have e1:=Fb hl x
 refine ae (fn:=dj) rfl ?_
 simp +contextual (maxSteps:=9999999) [dj,e1]
theorem xg {B:Nat}(hB1:B≤1048576){d:XDatabase}(h:d.Ok B):ah Ph au 397 [d.v]=some (av (MQ d)):=by
 have hB:B≤maxLen:=by unfold maxLen;omega
 obtain⟨hn,hv,⟨hsl,hs⟩,hul,hu⟩:=h
 have e1:=bC (Zc hn hB)
 have e2:=be d.version 0 1000
 have hsL:d.stores.length≤maxLen:=Zc hsl hB
 have huL:d.unique.length≤maxLen:=Zc hul hB
 unfold MQ
 refine ae (fn:=fa) rfl ?_
 cases c1:dd d.name<;>rw[c1]at e1
 ·simp(maxSteps:=9999999) [fa,e1]
 cases c2:rg d.version 0 1000<;>rw[c2]at e2
 ·simp(maxSteps:=9999999) [fa,e1,e2]
 cases c3:cQ 4 d.stores.length
 rotate_left
 ·simp(maxSteps:=9999999) [fa,e1,e2,c3]
 cases c4:cQ 4 d.unique.length
 rotate_left
 ·simp(maxSteps:=9999999) [fa,e1,e2,c3,c4]
 simp(maxSteps:=9999999) [fa,e1,e2,c3,c4]
 refine aC aU Cl.fin [.f,.t,.f,.f,.f,.f,.f,.f,.f,.f,.f,.f,.f,.f,.f,.f,.f,.f,.f,.f,.f,.f,.f,.f,.f,.f,.f,.f,.f,.f,.f,.f,.f,.f,.t,.t,.t,.f,.f,.f,.f,.f,.f,.f,.f,.f,.f,.f,.f,.f,.f,.f,.f,.f,.f,.f,.f,.f,.f,.f,.f,.f,.f,.f,.f,.f,.f,.f,.f,.f,.f,.f,.f,.f,.f,.f,.f,.f,.f,.f,.f,.f,.f,.f,.f,.f,.f,.f,.f,.f,.f,.f,.f,.f,.f,.f,.f,.f,.f,.f,.f,.f,.f] (fun k=>[(36,aa .i64 k)]) d.stores.length (QY d.stores) rfl (by simp) (fun k hk _=> ?_) (fun _ hp=> ?_)
 ·obtain⟨q1,q2⟩:=vQ hsL hk
  have e3:=oW (XStore.Ok.mono hB (hs _ (Zg hk)))
  simp +contextual (maxSteps:=9999999) [gh,QY,hk,q1,q2,aE hsL hk,aZ hk,XStore.e.eq_1 d.stores[k],XStore.e.eq_1 d.stores[k-1],e3]
 ·simp(maxSteps:=9999999) [gh,hp]
  refine aC aU Cl.fin [.f,.t,.f,.f,.f,.f,.f,.f,.f,.f,.f,.f,.f,.f,.f,.f,.f,.f,.f,.f,.f,.f,.f,.f,.f,.f,.f,.f,.f,.f,.f,.f,.f,.f,.f,.f,.f,.f,.f,.f,.f,.f,.f,.f,.f,.f,.f,.f,.f,.f,.f,.f,.f,.f,.f,.f,.f,.f,.f,.f,.f,.f,.t,.t,.t,.f,.f,.f,.f,.f,.f,.f,.f,.f,.f,.f,.f,.f,.f,.f,.f,.f,.f,.f,.f,.f,.f,.f,.f,.f,.f,.f,.f,.f,.f,.f,.f,.f,.f,.f,.f,.f,.f] (fun k=>[(64,aa .i64 k)]) d.unique.length (Gl d.stores d.unique) rfl (by simp) (fun k hk _=> ?_) (fun _ hp=> ?_)
  ·have e3:=yP (d:=d) hsL d.unique[k].store
   have e4:=bC (Zc (hu _ (Zg hk)).2 hB)
   have e5:=yK (us:=d.unique.take k) (by rw[Zy];omega) d.unique[k]
   rw[PC hk]at e5
   have hdup:Kq d.unique k=gx k (iZ (qg d.unique[k]) d.unique):=by simp[Kq,hk]
   rw[←hdup]at e5
   rw[List.map_take]at e5
   have hx:=XIndexDef.e.eq_1 d.unique[k]
   have w:=dQ (e:=XIndexDef.e) (z:=2) (fun _=>rfl) d.unique
   rcases vp (SZ d.unique[k].store) d.stores with⟨h1,h2⟩|⟨j,hj,h1,h2⟩<;>rw[h1]at e3
   ·rw[show Gl d.stores d.unique k=true by simp[Gl,hk,h2]]
    simp +contextual (maxSteps:=9999999) [gi,hk,e3,hx,aE huL hk,aZ hk,show cQ (-1) 0=true from rfl]
   ·have e6:=vK hB1 (hs _ (Zg hj)) d.unique[k].field
    have hy:=XStore.e.eq_1 d.stores[j]
    rw[show Gl d.stores d.unique k=(!(dd d.unique[k].field)||(Kq d.unique k||(Sg d.unique[k].field (nM d.unique[k].field d.stores[j].items)).2.2)) by simp[Gl,hk,h2]]
    generalize Sg d.unique[k].field (nM d.unique[k].field d.stores[j].items)=T at e6⊢
    unfold Uv at e6
    generalize dd d.unique[k].field=N at e4⊢
    generalize Kq d.unique k=D at e5⊢
    simp +contextual (maxSteps:=9999999) [gi,hk,hj,e3,e4,e5,e6,hx,hy,w,Xc hk,aE huL hk,aZ hk,Fp]
  ·simp(maxSteps:=9999999) [gi,hp]
end Gi
